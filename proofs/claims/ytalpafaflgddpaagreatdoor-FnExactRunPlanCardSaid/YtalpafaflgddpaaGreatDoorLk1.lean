/-
  Locks: what the reference's small functions compute: l24Starts, l24Texts, l24Way, l24Thing, l24Less, l24Job, l00In, l24Subs.
-/
import Derived.Test.YtalpafaflgddpaaGreatDoorOrdSpec
import Derived.Test.YtalpafaflgddpaaGreatDoorSz
import Derived.Test.YtalpafaflgddpaaGreatDoorBlk
import Derived.Deep.RegionHeld3
namespace Go.Proofs.YtalpafaflgddpaaGreatDoor
open Go.RowKit

def startsB : List ByteArray → List ByteArray → Bool
  | [], _ => true
  | _ :: _, [] => false
  | x :: r, y :: s => decide (x = y) && startsB r s
def wayB (n : ByteArray) (s : List ByteArray) (n' : ByteArray) (s' : List ByteArray) : Bool := decide (n = n') && (startsB s s' || startsB s' s)
def thingB (n : ByteArray) (s : List ByteArray) : Bool := nameB n && subsB s
def lessS : List ByteArray → List ByteArray → Bool
  | [], [] => false
  | [], _ :: _ => true
  | _ :: _, [] => false
  | x :: r, y :: s => if x = y then lessS r s else beforeB x y
def lessB (n : ByteArray) (s : List ByteArray) (n' : ByteArray) (s' : List ByteArray) : Bool := if n = n' then lessS s s' else Op.bytesLess n.toList n'.toList

theorem startsB_long : ∀ (a b : List ByteArray), b.length < a.length → startsB a b = false
  | [], _, h => absurd h (by simp)
  | _ :: _, [], _ => rfl
  | x :: r, y :: s, h => by
    unfold startsB
    rw [startsB_long r s (by simpa using h), Bool.and_false]
theorem startsB_step (a b : List ByteArray) (k : Nat) (h : k < a.length) (h' : k < b.length) :
    startsB (a.drop k) (b.drop k) = (decide (a.getD k ByteArray.empty = b.getD k ByteArray.empty) && startsB (a.drop (k + 1)) (b.drop (k + 1))) := by
  rw [List.drop_eq_getElem_cons h, List.drop_eq_getElem_cons h']
  simp [startsB, List.getD_eq_getElem?_getD, List.getElem?_eq_getElem h, List.getElem?_eq_getElem h']
theorem startsB_nil (b : List ByteArray) : startsB [] b = true := by cases b <;> rfl
theorem lessS_step (a b : List ByteArray) (k : Nat) (h : k < a.length) (h' : k < b.length) :
    lessS (a.drop k) (b.drop k) = if a.getD k ByteArray.empty = b.getD k ByteArray.empty then lessS (a.drop (k + 1)) (b.drop (k + 1)) else beforeB (a.getD k ByteArray.empty) (b.getD k ByteArray.empty) := by
  rw [List.drop_eq_getElem_cons h, List.drop_eq_getElem_cons h']
  simp [lessS, List.getD_eq_getElem?_getD, List.getElem?_eq_getElem h, List.getElem?_eq_getElem h']
theorem lessS_end : ∀ (a b : List ByteArray), a = [] ∨ b = [] → lessS a b = decide (a.length < b.length)
  | [], [], _ => rfl
  | [], _ :: _, _ => by simp [lessS]
  | _ :: _, [], _ => by simp [lessS]
  | _ :: _, _ :: _, h => by simp at h
theorem eqS_starts : ∀ (a b : List ByteArray), (decide (a.length = b.length) && startsB a b) = eqS a b
  | [], [] => rfl
  | [], _ :: _ => by simp [eqS]
  | _ :: _, [] => by simp [eqS]
  | x :: r, y :: s => by
    have h := eqS_starts r s
    unfold eqS at h ⊢
    simp only [startsB, List.length_cons, List.cons.injEq]
    by_cases hx : x = y
    · subst hx
      simp only [decide_true, Bool.true_and, true_and]
      rw [← h]
      simp
    · simp [hx]

theorem str_beq {a b : ByteArray} (h : a ≠ b) : (a.toList == b.toList) = false := by
  cases hx : (a.toList == b.toList)
  · rfl
  · exact absurd (bytes_ext (by simpa using hx)) h
theorem str_bne {a b : ByteArray} (h : a ≠ b) : (!a.toList == b.toList) = true := by rw [str_beq h]; rfl

theorem specNameOk_any (s : ByteArray) (w : World) (hs : s.size ≤ 1048576) :
    Calls Tryz.prog 117 #[.string s] w fun e w' => e = .returned (.bool (nameB s)) ∧ w = w' := by
  have HK := Lib.hid (l02Name_any s w hs)
  generalize nameB s = x at *
  go_enter Tryz.func117, Tryz.ntmps117
  go_wp2_with fail
  refine HK.out.mono ?_
  rintro e w1 ⟨rfl, rfl⟩
  go_wp2_with fail
  go_ret
  exact ⟨rfl, rfl⟩
theorem specSubsOk_any (A : Option Addr) (n c : Nat) (ss : List ByteArray) (w : World) (h : Strs w w.heap.size A n ss) (hn : n ≤ 1048576) (hz : ∀ s ∈ ss, s.size ≤ 1048576) :
    Calls Tryz.prog 142 #[.slice A n c] w fun e w' => e = .returned (.bool (subsB ss)) ∧ w = w' := by
  have HK := Lib.hid (l02Subs_any A n c ss w h hn hz)
  clear h hz
  generalize subsB ss = x at *
  go_enter Tryz.func142, Tryz.ntmps142
  go_wp2_with fail
  refine HK.out.mono ?_
  rintro e w1 ⟨rfl, rfl⟩
  go_wp2_with fail
  go_ret
  exact ⟨rfl, rfl⟩
theorem specBefore_any (a b : ByteArray) (w : World) (ha : a.size ≤ 1048576) (hb : b.size ≤ 1048576) :
    Calls Tryz.prog 123 #[.string a, .string b] w fun e w' => e = .returned (.bool (beforeB a b)) ∧ Below w.heap.size w w' := by
  have HK := Lib.hid (l02Before_any a b w ha hb)
  generalize beforeB a b = x at *
  go_enter Tryz.func123, Tryz.ntmps123
  go_wp2_with fail
  refine HK.out.mono ?_
  rintro e w1 ⟨rfl, hb1⟩
  have HB := Lib.hid hb1
  clear hb1
  go_wp2_with fail
  go_ret
  exact ⟨rfl, HB.out⟩
def inB (n a b : Int) : Bool := decide (a ≤ n) && decide (n ≤ b)
set_option maxHeartbeats 400000 in
theorem l00In_any (n a b : Int) (w : World) :
    Calls Tryz.prog 118 #[.int .i64 n, .int .i64 a, .int .i64 b] w fun e w' => e = .returned (.bool (inB n a b)) ∧ w = w' := by
  unfold inB
  by_cases h1 : a ≤ n
  · by_cases h2 : n ≤ b
    all_goals
      go_enter Tryz.func118, Tryz.ntmps118
      go_wp2
      go_ret
      exact ⟨ret_bool (by first | (simp; done) | (simp; omega) | (rw [Bool.eq_iff_iff]; simp; omega)), rfl⟩
  · go_enter Tryz.func118, Tryz.ntmps118
    go_wp2
    go_ret
    exact ⟨ret_bool (by first | (simp; done) | (simp; omega) | (rw [Bool.eq_iff_iff]; simp; omega)), rfl⟩
theorem strs_sz {ss : List ByteArray} {M : Nat} (hz : ∀ s ∈ ss, s.size ≤ M) (k : Nat) (hk : k < ss.length) : (ss.getD k ByteArray.empty).size ≤ M := by
  apply hz
  rw [List.getD_eq_getElem?_getD, List.getElem?_eq_getElem hk]; simp

end Go.Proofs.YtalpafaflgddpaaGreatDoor
