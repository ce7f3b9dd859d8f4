/-
  What cmp.Compare, collate, collateLists, cmp.Or, compareLocations, begins and conflict of the program compute. Locks and asks in memory; what l24Ask, l24HeldUp, l24At and l24Room of the reference compute. What compareLocations, begins, conflict and compareLocks of the program compute.
-/
import Derived.Test.YtfpcjhajjejpdaaGreatDoorZ08
import Derived.Test.YtfpcjhajjejpdaaGreatDoorZ07
import Derived.Deep.RegionWith
namespace Go.Proofs.YtfpcjhajjejpdaaGreatDoor
open Go.RowKit

def cmpI (a b : Int) : Int := if a < b then -1 else if b < a then 1 else 0
def cmpS (a b : ByteArray) : Int := if Op.bytesLess a.toList b.toList = true then -1 else if a = b then 0 else 1
def colI (a b : ByteArray) : Int :=
  if (canonB a && canonB b) = true then cmpI (numS a.data.toList) (numS b.data.toList) else if canonB a = true then -1 else if canonB b = true then 1 else cmpS a b
def colL : List ByteArray → List ByteArray → Int
  | [], [] => 0
  | [], _ :: _ => -1
  | _ :: _, [] => 1
  | x :: r, y :: s => if colI x y = 0 then colL r s else colI x y
def orI (a b : Int) : Int := if a = 0 then b else a
def cmpLoc (n : ByteArray) (s : List ByteArray) (n' : ByteArray) (s' : List ByteArray) : Int := orI (cmpS n n') (colL s s')

theorem isNaNI_any (x : Int) (w : World) : Calls Tryz.prog 204 #[.int .i64 x] w fun e w' => e = .returned (.bool false) ∧ w = w' := by
  have hb : (x != x) = false := by simp
  go_enter Tryz.func204, Tryz.ntmps204
  go_wp2_with fail
  go_ret
  exact ⟨rfl, rfl⟩
theorem isNaNS_any (x : ByteArray) (w : World) : Calls Tryz.prog 197 #[.string x] w fun e w' => e = .returned (.bool false) ∧ w = w' := by
  go_enter Tryz.func197, Tryz.ntmps197
  go_wp2_with fail
  go_ret
  exact ⟨rfl, rfl⟩
set_option maxHeartbeats 400000 in
theorem cmpI_any (a b : Int) (w : World) : Calls Tryz.prog 169 #[.int .i64 a, .int .i64 b] w fun e w' => e = .returned (.int .i64 (cmpI a b)) ∧ w = w' := by
  have H1 := Lib.hid (isNaNI_any a)
  have H2 := Lib.hid (isNaNI_any b)
  have HR : Hid (cmpI a b = if a < b then -1 else if b < a then 1 else 0) := rfl
  generalize cmpI a b = R at *
  by_cases h1 : a < b
  · have HE : Hid (R = -1) := by unfold Hid; rw [HR.out, if_pos h1]
    go_enter Tryz.func169, Tryz.ntmps169
    go_wp2_with fail
    refine (H1.out _).mono ?_
    rintro e w1 ⟨rfl, rfl⟩
    go_wp2_with fail
    refine (H2.out _).mono ?_
    rintro e w1 ⟨rfl, rfl⟩
    go_wp2_with fail
    go_ret
    exact ⟨ret_int HE.out.symm, rfl⟩
  · by_cases h2 : b < a
    · have HE : Hid (R = 1) := by unfold Hid; rw [HR.out, if_neg h1, if_pos h2]
      go_enter Tryz.func169, Tryz.ntmps169
      go_wp2_with fail
      refine (H1.out _).mono ?_
      rintro e w1 ⟨rfl, rfl⟩
      go_wp2_with fail
      refine (H2.out _).mono ?_
      rintro e w1 ⟨rfl, rfl⟩
      go_wp2_with fail
      go_ret
      exact ⟨ret_int HE.out.symm, rfl⟩
    · have HE : Hid (R = 0) := by unfold Hid; rw [HR.out, if_neg h1, if_neg h2]
      go_enter Tryz.func169, Tryz.ntmps169
      go_wp2_with fail
      refine (H1.out _).mono ?_
      rintro e w1 ⟨rfl, rfl⟩
      go_wp2_with fail
      refine (H2.out _).mono ?_
      rintro e w1 ⟨rfl, rfl⟩
      go_wp2_with fail
      go_ret
      exact ⟨ret_int HE.out.symm, rfl⟩
set_option maxHeartbeats 400000 in
theorem cmpS_any (a b : ByteArray) (w : World) : Calls Tryz.prog 158 #[.string a, .string b] w fun e w' => e = .returned (.int .i64 (cmpS a b)) ∧ w = w' := by
  have H1 := Lib.hid (isNaNS_any a)
  have H2 := Lib.hid (isNaNS_any b)
  have HR : Hid (cmpS a b = if Op.bytesLess a.toList b.toList = true then -1 else if a = b then 0 else 1) := rfl
  generalize cmpS a b = R at *
  cases h1 : Op.bytesLess a.toList b.toList
  · by_cases h2 : a = b
    · have HE : Hid (R = 0) := by unfold Hid; rw [HR.out, h1, if_pos h2]; rfl
      subst h2
      go_enter Tryz.func158, Tryz.ntmps158
      go_wp2_with fail
      refine (H1.out _).mono ?_
      rintro e w1 ⟨rfl, rfl⟩
      go_wp2_with fail
      refine (H2.out _).mono ?_
      rintro e w1 ⟨rfl, rfl⟩
      go_wp2_with fail
      go_ret
      exact ⟨ret_int HE.out.symm, rfl⟩
    · have HE : Hid (R = 1) := by unfold Hid; rw [HR.out, h1, if_neg h2]; rfl
      have hb := str_bne h2
      have hb' := str_beq h2
      clear h2
      go_enter Tryz.func158, Tryz.ntmps158
      go_wp2_with fail
      refine (H1.out _).mono ?_
      rintro e w1 ⟨rfl, rfl⟩
      go_wp2_with fail
      refine (H2.out _).mono ?_
      rintro e w1 ⟨rfl, rfl⟩
      go_wp2_with fail
      go_ret
      exact ⟨ret_int HE.out.symm, rfl⟩
  · have HE : Hid (R = -1) := by unfold Hid; rw [HR.out, h1]; rfl
    go_enter Tryz.func158, Tryz.ntmps158
    go_wp2_with fail
    refine (H1.out _).mono ?_
    rintro e w1 ⟨rfl, rfl⟩
    go_wp2_with fail
    refine (H2.out _).mono ?_
    rintro e w1 ⟨rfl, rfl⟩
    go_wp2_with fail
    go_ret
    exact ⟨ret_int HE.out.symm, rfl⟩

set_option maxHeartbeats 1000000 in
theorem collate_any (a b : ByteArray) (w : World) (htab : tabT w) (ha : a.size ≤ 1048576) (hb : b.size ≤ 1048576) :
    Calls Tryz.prog 114 #[.string a, .string b] w fun e w' => e = .returned (.int .i64 (colI a b)) ∧ Below w.heap.size w w' := by
  have HK1 := Lib.hid (fun W hW => IsCanon_any a W hW ha)
  have HK2 := Lib.hid (fun W hW => IsCanon_any b W hW hb)
  have HK3 := Lib.hid (fun W => NumOf_any a W ha)
  have HK4 := Lib.hid (fun W => NumOf_any b W hb)
  rw [numI_eq] at HK3 HK4
  have HT := Lib.hid htab
  have HR : Hid (colI a b = if (canonB a && canonB b) = true then cmpI (numS a.data.toList) (numS b.data.toList) else if canonB a = true then -1 else if canonB b = true then 1 else cmpS a b) := rfl
  clear htab
  generalize colI a b = R at *
  generalize canonB a = x at *
  generalize canonB b = y at *
  generalize numS a.data.toList = p at *
  generalize numS b.data.toList = q at *
  go_enter Tryz.func114, Tryz.ntmps114
  go_wp2_with fail
  refine (HK1.out _ HT.out).mono ?_
  rintro e w1 ⟨rfl, hb1⟩
  have HT1 := Lib.hid (tab_later HT.out hb1)
  have HB1 := Lib.hid hb1
  clear hb1
  go_wp2_with fail
  refine (HK2.out _ HT1.out).mono ?_
  rintro e w2 ⟨rfl, hb2⟩
  have HB2 := Lib.hid (HB1.out.later hb2)
  clear hb2
  cases x
  · cases y
    · have HE : Hid (R = cmpS a b) := HR.out
      go_wp2_with fail
      refine (cmpS_any _ _ _).mono ?_
      rintro e w3 ⟨rfl, rfl⟩
      go_wp2_with fail
      go_ret
      exact ⟨ret_int HE.out.symm, HB2.out⟩
    · have HE : Hid (R = 1) := HR.out
      go_wp2_with fail
      go_ret
      exact ⟨ret_int HE.out.symm, HB2.out⟩
  · cases y
    · have HE : Hid (R = -1) := HR.out
      go_wp2_with fail
      go_ret
      exact ⟨ret_int HE.out.symm, HB2.out⟩
    · have HE : Hid (R = cmpI p q) := HR.out
      go_wp2_with fail
      refine (HK3.out _).mono ?_
      rintro e w3 ⟨rfl, hb3⟩
      have HB3 := Lib.hid (HB2.out.later hb3)
      clear hb3
      go_wp2_with fail
      refine (HK4.out _).mono ?_
      rintro e w4 ⟨rfl, hb4⟩
      have HB4 := Lib.hid (HB3.out.later hb4)
      clear hb4
      go_wp2_with fail
      refine (cmpI_any _ _ _).mono ?_
      rintro e w5 ⟨rfl, rfl⟩
      go_wp2_with fail
      go_ret
      exact ⟨ret_int HE.out.symm, HB4.out⟩

theorem colL_step (a b : List ByteArray) (k : Nat) (h : k < a.length) (h' : k < b.length) :
    colL (a.drop k) (b.drop k) = if colI (a.getD k ByteArray.empty) (b.getD k ByteArray.empty) = 0 then colL (a.drop (k + 1)) (b.drop (k + 1)) else colI (a.getD k ByteArray.empty) (b.getD k ByteArray.empty) := by
  rw [List.drop_eq_getElem_cons h, List.drop_eq_getElem_cons h']
  simp [colL, List.getD_eq_getElem?_getD, List.getElem?_eq_getElem h, List.getElem?_eq_getElem h']
theorem colL_end : ∀ (a b : List ByteArray), a = [] → colL a b = if a.length < b.length then -1 else 0
  | [], [], _ => rfl
  | [], _ :: _, _ => by simp [colL]
  | _ :: _, _, h => by simp at h
theorem colL_end' : ∀ (a b : List ByteArray), a ≠ [] → b = [] → colL a b = 1
  | [], _, h, _ => absurd rfl h
  | _ :: _, [], _, _ => rfl
  | _ :: _, _ :: _, _, h => by simp at h

set_option maxHeartbeats 1000000 in
theorem CompareFuncS_any (A A' : Option Addr) (n c n' c' : Nat) (ss ts : List ByteArray) (w : World) (htab : tabT w) (h : Strs w w.heap.size A n ss) (h' : Strs w w.heap.size A' n' ts) (hn : n ≤ 1048576) (hn' : n' ≤ 1048576)
    (hz : ∀ s ∈ ss, s.size ≤ 1048576) (hz' : ∀ s ∈ ts, s.size ≤ 1048576) :
    Calls Tryz.prog 198 #[.slice A n c, .slice A' n' c', .func (.func 114) #[] #[]] w fun e w' => e = .returned (.int .i64 (colL ss ts)) ∧ Below w.heap.size w w' := by
  have eg : ∀ args w, (callFunc 114 args).run Tryz.prog w = .ok (.enter 114 args) w := enters_of Tryz.func114 (by kernel_rfl) rfl
  have Hh := Lib.hid h
  have Hh' := Lib.hid h'
  have Hlen := Lib.hid h.1
  have Hlen' := Lib.hid h'.1
  have Hz := Lib.hid hz
  have Hz' := Lib.hid hz'
  have HT := Lib.hid htab
  clear h h' hz hz' htab
  go_enter Tryz.func198, Tryz.ntmps198
  go_wp2_with fail
  go_loopw [13] (fun i wr => ∃ (k : Nat), k ≤ n ∧ k ≤ n' ∧ i = .int .i64 k ∧ Below w.heap.size w wr ∧ Hid (colL ss ts = colL (ss.drop k) (ts.drop k))) (fun i _ => n - (intOf i).toNat)
  case atStart => exact ⟨0, Nat.zero_le _, Nat.zero_le _, rfl, Below.refl _ _, rfl⟩
  case round =>
    obtain ⟨k, hk, hk', rfl, hb, hS⟩ := hrel
    have HB := Lib.hid hb
    clear hb
    by_cases hlt : k < n
    · by_cases hlt' : k < n'
      · obtain ⟨b, o, rfl, hbB, hcell⟩ := (Hh.out.later HB.out).2 (by omega)
        obtain ⟨b', o', rfl, hbB', hcell'⟩ := (Hh'.out.later HB.out).2 (by omega)
        have hck := hcell k hlt
        have hck' := hcell' k hlt'
        clear hcell hcell'
        have HS := Lib.hid (colL_step ss ts k (by rw [Hlen.out]; exact hlt) (by rw [Hlen'.out]; exact hlt'))
        have HK := Lib.hid (collate_any (ss.getD k ByteArray.empty) (ts.getD k ByteArray.empty) wr (tab_later HT.out HB.out) (strs_sz Hz.out k (by rw [Hlen.out]; exact hlt)) (strs_sz Hz'.out k (by rw [Hlen'.out]; exact hlt')))
        generalize ss.getD k ByteArray.empty = s at *
        generalize ts.getD k ByteArray.empty = t at *
        generalize colI s t = x at *
        go_wp2_with fail
        refine HK.out.mono ?_
        rintro e w1 ⟨rfl, hb1⟩
        have HB1 := Lib.hid (HB.out.later hb1)
        clear hb1
        by_cases hx : x = 0
        · subst hx
          go_wp2_with fail
          go_roundw
          case rel => exact ⟨k + 1, by omega, by omega, by go_num, HB1.out, by unfold Hid; rw [hS.out, HS.out]; simp⟩
          case measure => simp [intOf]; omega
        · have hbx : (x != 0) = true := by rw [bne_iff_ne]; exact hx
          have HE : Hid (colL ss ts = x) := by unfold Hid; rw [hS.out, HS.out, if_neg hx]
          clear hx
          go_wp2_with fail
          go_ret
          exact ⟨ret_int HE.out.symm, HB1.out⟩
      · have HE : Hid (colL ss ts = 1) := by
          unfold Hid
          rw [hS.out, colL_end' _ _ (fun he => by have := congrArg List.length he; rw [List.length_drop, Hlen.out] at this; simp at this; omega) (List.drop_of_length_le (by rw [Hlen'.out]; omega))]
        obtain ⟨b, o, rfl, hbB, hcell⟩ := (Hh.out.later HB.out).2 (by omega)
        have hck := hcell k hlt
        clear hcell
        go_wp2_with fail
        go_ret
        exact ⟨ret_int HE.out.symm, HB.out⟩
    · have HE : Hid (colL ss ts = if n < n' then -1 else 0) := by
        unfold Hid
        obtain rfl : k = n := by omega
        rw [hS.out, colL_end _ _ (List.drop_of_length_le (by rw [Hlen.out]; omega)), List.length_drop, List.length_drop, Hlen.out, Hlen'.out]
        by_cases hc : k < n'
        · rw [if_pos (by omega), if_pos hc]
        · rw [if_neg (by omega), if_neg hc]
      by_cases hc : n < n'
      all_goals
        go_wp2_with fail
        go_ret
        exact ⟨ret_int (by rw [HE.out]; first | rw [if_pos hc] | rw [if_neg hc]), HB.out⟩
theorem collateLists_any (A A' : Option Addr) (n c n' c' : Nat) (ss ts : List ByteArray) (w : World) (htab : tabT w) (h : Strs w w.heap.size A n ss) (h' : Strs w w.heap.size A' n' ts) (hn : n ≤ 1048576) (hn' : n' ≤ 1048576)
    (hz : ∀ s ∈ ss, s.size ≤ 1048576) (hz' : ∀ s ∈ ts, s.size ≤ 1048576) :
    Calls Tryz.prog 159 #[.slice A n c, .slice A' n' c'] w fun e w' => e = .returned (.int .i64 (colL ss ts)) ∧ Below w.heap.size w w' := by
  have HK := Lib.hid (CompareFuncS_any A A' n c n' c' ss ts w htab h h' hn hn' hz hz')
  clear htab h h' hz hz'
  generalize colL ss ts = x at *
  go_enter Tryz.func159, Tryz.ntmps159
  go_wp2_with fail
  refine HK.out.mono ?_
  rintro e w1 ⟨rfl, hb1⟩
  have HB1 := Lib.hid hb1
  clear hb1
  go_wp2_with fail
  go_ret
  exact ⟨rfl, HB1.out⟩

set_option maxHeartbeats 400000 in
theorem Or2_any (g : Nat) (x y : Int) (w : World) (c0 : w.cell? ⟨g, 0, none⟩ = some (.int .i64 x)) (c1 : w.cell? ⟨g, 1, none⟩ = some (.int .i64 y)) :
    Calls Tryz.prog 157 #[.slice (some ⟨g, 0, none⟩) 2 2] w fun e w' => e = .returned (.int .i64 (orI x y)) ∧ w = w' := by
  have HR : Hid (orI x y = if x = 0 then y else x) := rfl
  generalize orI x y = R at *
  go_enter Tryz.func157, Tryz.ntmps157
  go_wp2_with fail
  refine wp_loop_rounds 3 ?_
  rw [rounds_succ]
  by_cases hx : x = 0
  · subst hx
    go_wp2_with fail
    rw [rounds_succ]
    by_cases hy : y = 0
    · subst hy
      go_wp2_with fail
      rw [rounds_succ]
      go_wp2_with fail
      go_ret
      exact ⟨ret_int (by rw [HR.out]; rfl), rfl⟩
    · have hb : (y != 0) = true := by rw [bne_iff_ne]; exact hy
      clear hy
      go_wp2_with fail
      go_ret
      exact ⟨ret_int (by rw [HR.out]; rfl), rfl⟩
  · have hb : (x != 0) = true := by rw [bne_iff_ne]; exact hx
    have HE : Hid (R = x) := by unfold Hid; rw [HR.out, if_neg hx]
    clear hx
    go_wp2_with fail
    go_ret
    exact ⟨ret_int HE.out.symm, rfl⟩
end Go.Proofs.YtfpcjhajjejpdaaGreatDoor
namespace Go.Proofs.YtfpcjhajjejpdaaGreatDoor
open Go.RowKit

/-- The place of the first one of which p holds, from k on; -1 where there is none. -/
def idxF {α : Type} (p : α → Bool) : List α → Nat → Int
  | [], _ => -1
  | d :: r, k => if p d = true then k else idxF p r (k + 1)
theorem idxF_step {α : Type} [Inhabited α] (p : α → Bool) (l : List α) (k : Nat) (h : k < l.length) : idxF p (l.drop k) k = if p (l.getD k default) = true then (k : Int) else idxF p (l.drop (k + 1)) (k + 1) := by
  rw [List.drop_eq_getElem_cons h]
  simp [idxF, List.getD_eq_getElem?_getD, List.getElem?_eq_getElem h]
end Go.Proofs.YtfpcjhajjejpdaaGreatDoor
namespace Go.Proofs.YtfpcjhajjejpdaaGreatDoor
open Go.RowKit

theorem cell2_0 (w : World) (x y : Value) (t : TypeId) : (w.alloc (.cells #[x, y] t)).cell? ⟨w.heap.size, 0, none⟩ = some x := cell_of_row _ w.heap.size 0 #[x, y] t (0, 0) (heap_alloc_new w _)
theorem cell2_1 (w : World) (x y : Value) (t : TypeId) : (w.alloc (.cells #[x, y] t)).cell? ⟨w.heap.size, 1, none⟩ = some y := cell_of_row _ w.heap.size 1 #[x, y] t (0, 0) (heap_alloc_new w _)

set_option maxHeartbeats 400000 in
theorem compareLocations_any (nm nm' : ByteArray) (A A' : Option Addr) (n c n' c' : Nat) (ss ts : List ByteArray) (w : World) (htab : tabT w) (h : Strs w w.heap.size A n ss) (h' : Strs w w.heap.size A' n' ts) (hn : n ≤ 1048576) (hn' : n' ≤ 1048576)
    (hz : ∀ s ∈ ss, s.size ≤ 1048576) (hz' : ∀ s ∈ ts, s.size ≤ 1048576) :
    Calls Tryz.prog 101 #[.string nm, .slice A n c, .string nm', .slice A' n' c'] w fun e w' => e = .returned (.int .i64 (cmpLoc nm ss nm' ts)) ∧ Below w.heap.size w w' := by
  have HK1 := Lib.hid (cmpS_any nm nm' w)
  have HK2 := Lib.hid (collateLists_any A A' n c n' c' ss ts w htab h h' hn hn' hz hz')
  have HR : Hid (cmpLoc nm ss nm' ts = orI (cmpS nm nm') (colL ss ts)) := rfl
  clear htab h h' hz hz'
  generalize cmpLoc nm ss nm' ts = R at *
  generalize cmpS nm nm' = x at *
  generalize colL ss ts = y at *
  go_enter Tryz.func101, Tryz.ntmps101
  go_wp2_with fail
  refine HK1.out.mono ?_
  rintro e w1 ⟨rfl, rfl⟩
  go_wp2_with fail
  refine HK2.out.mono ?_
  rintro e w1 ⟨rfl, hb1⟩
  have HB1 := Lib.hid hb1
  clear hb1
  go_wp2_with fail
  refine (Or2_any _ x y _ (cell2_0 _ _ _ _) (cell2_1 _ _ _ _)).mono ?_
  rintro e w2 ⟨rfl, rfl⟩
  go_wp2_with fail
  go_ret
  exact ⟨ret_int HR.out.symm, HB1.out.later (Below.new _ _)⟩

theorem Strs.take {w : World} {B n : Nat} {A : Option Addr} {ss : List ByteArray} (h : Strs w B A n ss) (m : Nat) (hm : m ≤ n) : Strs w B A m (ss.take m) :=
  ⟨by rw [List.length_take, h.1]; omega, fun hp => by
    obtain ⟨b, o, e, hb, hc⟩ := h.2 (by omega)
    refine ⟨b, o, e, hb, fun j hj => ?_⟩
    rw [hc j (by omega)]
    simp [List.getD_eq_getElem?_getD, hj]⟩
theorem startsB_take : ∀ (a b : List ByteArray), (decide (a.length ≤ b.length) && eqS (b.take a.length) a) = startsB a b
  | [], b => by simp [startsB, eqS]
  | x :: r, [] => by simp [startsB]
  | x :: r, y :: s => by
    have := startsB_take r s
    simp only [startsB, List.length_cons, List.take_succ_cons]
    rw [← this]
    unfold eqS
    by_cases hx : x = y
    · subst hx; simp
    · have hyx : ¬ y = x := fun h => hx h.symm
      simp [hx, hyx]

end Go.Proofs.YtfpcjhajjejpdaaGreatDoor
