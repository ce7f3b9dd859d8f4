/-
  What szScreen, toScreen and eqScreen compute, of screens by value.
-/
import Derived.Test.YtjcpocedhaojpaaDoorSz
namespace Go.Proofs.YtjcpocedhaojpaaDoor
open Go.RowKit

theorem Strs.alloc {w : World} {A : Option Addr} {n : Nat} {ss : List ByteArray} (h : Strs w w.heap.size A n ss) (o : Obj) : Strs (w.alloc o) (w.alloc o).heap.size A n ss :=
  h.later ((Below.refl _ _).alloc (Nat.le_refl _) o)
theorem Strs.drewN {w : World} {B : Nat} {A : Option Addr} {n : Nat} {ss : List ByteArray} (h : Strs w B A n ss) (q : Nat) : Strs (w.drewN q) B A n ss := h

set_option maxHeartbeats 400000 in
theorem szScreen_any (r c : Int) (A : Option Addr) (n cap : Nat) (ss : List ByteArray) (left : Int) (w : World) (h : Strs w w.heap.size A n ss)
    (h0 : 0 ≤ left) (h1 : left ≤ 1048576) (hz : ∀ s ∈ ss, s.size ≤ maxLen) (hn : n ≤ maxLen) :
    Calls Tryd.prog 4 #[.agg #[.int .i64 r, .int .i64 c, .slice A n cap], .int .i64 left] w fun e w' => e = .returned (.int .i64 (szS ss left)) ∧ Below w.heap.size w w' := by
  have K := fun o => szStringS_any A n cap ss left _ (h.alloc o) h0 h1 hz hn
  have HK := Lib.hid K
  have Hb : ∀ o, Below w.heap.size w (w.alloc o) := fun o => (Below.refl _ _).alloc (Nat.le_refl _) o
  have HB := Lib.hid Hb
  have hx : -1 ≤ szS ss left := szS_ge ss left h0
  clear K Hb h hz hn
  generalize szS ss left = x at *
  go_enter Tryd.func4, Tryd.ntmps4
  go_wp2_with fail
  refine (HK.out _).mono ?_
  rintro e w1 ⟨rfl, rfl⟩
  go_wp2_with fail
  all_goals
    go_ret
    exact ⟨ret_int (by omega), HB.out _⟩

set_option maxHeartbeats 400000 in
theorem toScreen_any (r c : Int) (A : Option Addr) (n cap : Nat) (ss : List ByteArray) (w : World) (h : Strs w w.heap.size A n ss) (hn : n ≤ 1048576) :
    Calls Tryd.prog 6 #[.agg #[.int .i64 r, .int .i64 c, .slice A n cap]] w fun e w' => ∃ g, e = .returned (.agg #[.int .i64 r, .int .i64 c, .slice (some ⟨g, 0, none⟩) n n]) ∧
      w'.heap[g]? = some (.cells (strArr ss) 9 (0, 0)) ∧ w.heap.size ≤ g ∧ Below w.heap.size w w' := by
  have K := fun W (hW : Strs W W.heap.size A n ss) => toStringS_any A n cap ss W hW hn
  have HK := Lib.hid K
  have Hh := Lib.hid h
  clear K h
  go_enter Tryd.func6, Tryd.ntmps6
  go_wp2_with fail
  refine (HK.out _ (((Hh.out.alloc _).alloc _).alloc _)).mono ?_
  rintro e w1 ⟨rfl, rfl⟩
  go_wp2_with fail
  refine bodyPost_ret (v := .agg #[.int .i64 r, .int .i64 c, .slice (some ⟨w.heap.size + 1 + 1 + 1, 0, none⟩) n n]) (by simp [results, Tryd.results6, go_sem]) rfl ⟨_, rfl, ?_, by omega, ?_⟩
  · exact heap_last (by simp)
  · exact ((((Below.refl _ _).alloc (Nat.le_refl _) _).alloc (by simp) _).alloc (by simp; omega) _).alloc (by simp; omega) _

/-- Screens are equal. -/
def eqScr (r c : Int) (ss : List ByteArray) (r' c' : Int) (ts : List ByteArray) : Bool := decide (r = r') && decide (c = c') && eqS ss ts

set_option maxHeartbeats 400000 in
theorem eqScreen_any (r c r' c' : Int) (A A' : Option Addr) (n cap n' cap' : Nat) (ss ts : List ByteArray) (w : World) (h : Strs w w.heap.size A n ss) (h' : Strs w w.heap.size A' n' ts) (hn : n ≤ 1048576) (hn' : n' ≤ 1048576) :
    Calls Tryd.prog 8 #[.agg #[.int .i64 r, .int .i64 c, .slice A n cap], .agg #[.int .i64 r', .int .i64 c', .slice A' n' cap']] w fun e w' => e = .returned (.bool (eqScr r c ss r' c' ts)) ∧ Below w.heap.size w w' := by
  have K := fun W (hW : Strs W W.heap.size A n ss) (hW' : Strs W W.heap.size A' n' ts) => eqStringS_any A A' n cap n' cap' ss ts W hW hW' hn hn'
  have HK := Lib.hid K
  have Hh := Lib.hid h
  have Hh' := Lib.hid h'
  have hbb : ∀ o o' q, Below w.heap.size w (((w.alloc o).alloc o').drewN q) := fun o o' q => below_drewN (((Below.refl _ _).alloc (Nat.le_refl _) o).alloc (by simp) o') q
  have HB := Lib.hid hbb
  clear K h h' hbb
  by_cases hr : r = r'
  · by_cases hc : c = c'
    · subst hr hc
      have HE : Hid (eqScr r c ss r c ts = eqS ss ts) := by unfold Hid eqScr; simp
      generalize eqS ss ts = x at *
      go_enter Tryd.func8, Tryd.ntmps8
      go_wp2_with fail
      refine (HK.out _ ((Hh.out.alloc _).alloc _) ((Hh'.out.alloc _).alloc _)).mono ?_
      rintro e w1 ⟨rfl, q, rfl⟩
      cases x
      all_goals
        go_wp2_with fail
        go_ret
        exact ⟨ret_bool HE.out.symm, HB.out _ _ _⟩
    · subst hr
      have HE : Hid (eqScr r c ss r c' ts = false) := by unfold Hid eqScr; simp [hc]
      have hb : (c != c') = true := by rw [bne_iff_ne]; omega
      clear hc
      go_enter Tryd.func8, Tryd.ntmps8
      go_wp2_with fail
      go_ret
      exact ⟨ret_bool HE.out.symm, HB.out _ _ 0⟩
  · have HE : Hid (eqScr r c ss r' c' ts = false) := by unfold Hid eqScr; simp [hr]
    have hb : (r != r') = true := by rw [bne_iff_ne]; omega
    clear hr
    go_enter Tryd.func8, Tryd.ntmps8
    go_wp2_with fail
    go_ret
    exact ⟨ret_bool HE.out.symm, HB.out _ _ 0⟩
end Go.Proofs.YtjcpocedhaojpaaDoor
