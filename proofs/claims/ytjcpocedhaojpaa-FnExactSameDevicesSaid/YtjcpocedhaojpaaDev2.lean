/-
  What slices.EqualFunc at files, and szDevices, toDevices, eqDevices compute.
-/
import Derived.Test.YtjcpocedhaojpaaDev
namespace Go.Proofs.Ytjcpocedhaojpaa
open Go.RowKit

structure DevD where
  use : Int
  row : Int
  col : Int
  rows : List ByteArray
  files : List FileD
  keys : List ByteArray

/-- The six cells of devices. -/
def DevR (w : World) (B : Nat) (c0 c1 c2 c3 c4 c5 : Value) (d : DevD) : Prop :=
  c0 = .int .i64 d.use ∧ c1 = .int .i64 d.row ∧ c2 = .int .i64 d.col ∧ (∃ A n cap, c3 = .slice A n cap ∧ Strs w B A n d.rows) ∧ (∃ A n cap, c4 = .slice A n cap ∧ Files w B A n d.files) ∧ (∃ A n cap, c5 = .slice A n cap ∧ Strs w B A n d.keys)
theorem DevR.later {w w' : World} {c0 c1 c2 c3 c4 c5 : Value} {d : DevD} (h : DevR w w.heap.size c0 c1 c2 c3 c4 c5 d) (hb : Below w.heap.size w w') : DevR w' w'.heap.size c0 c1 c2 c3 c4 c5 d := by
  obtain ⟨e0, e1, e2, ⟨A, n, cap, e3, h3⟩, ⟨A', n', cap', e4, h4⟩, ⟨A'', n'', cap'', e5, h5⟩⟩ := h
  exact ⟨e0, e1, e2, ⟨A, n, cap, e3, h3.later hb⟩, ⟨A', n', cap', e4, h4.later hb⟩, ⟨A'', n'', cap'', e5, h5.later hb⟩⟩

/-- No length is beyond what Go's int holds. -/
def DevD.fine (d : DevD) : Prop := (∀ s ∈ d.rows, s.size ≤ maxLen) ∧ d.rows.length ≤ maxLen ∧ (∀ f ∈ d.files, f.fine) ∧ d.files.length ≤ maxLen ∧ (∀ s ∈ d.keys, s.size ≤ maxLen) ∧ d.keys.length ≤ maxLen
/-- All lengths are small. -/
def DevD.small (d : DevD) : Prop := d.rows.length ≤ 1048576 ∧ (∀ f ∈ d.files, f.lines.length ≤ 1048576) ∧ d.files.length ≤ 1048576 ∧ d.keys.length ≤ 1048576

def szD (d : DevD) (left : Int) : Int :=
  if szS d.rows left < 0 then -1 else
  if szFS d.files (szS d.rows left) < 0 then -1 else
  if szS d.keys (szFS d.files (szS d.rows left)) < 0 then -1 else szS d.keys (szFS d.files (szS d.rows left))

theorem szFL_ge : ∀ (fs : List FileD) (left : Int), 0 ≤ left → -1 ≤ szFL fs left ∧ szFL fs left ≤ left
  | [], left, _h => by simp [szFL]; omega
  | d :: r, left, h => by
    unfold szFL
    have hg := szF_ge d left
    have hl := szF_le d left
    split
    · omega
    · have := szFL_ge r (szF d left) (by omega)
      omega
theorem szFS_ge (fs : List FileD) (left : Int) (h : 0 ≤ left) : -1 ≤ szFS fs left ∧ szFS fs left ≤ left := by
  unfold szFS
  split
  · omega
  · have := szFL_ge fs (left - fs.length) (by omega)
    omega
theorem szF_room (d : FileD) (left : Int) (_h0 : 0 ≤ left) (h : 0 ≤ szF d left) : (d.lines.length : Int) ≤ left := by
  unfold szF at h
  split at h
  · omega
  · split at h
    · omega
    · have := (szS_room d.lines (left - d.name.size) (by omega)).1
      omega
theorem szFL_room : ∀ (fs : List FileD) (left : Int), 0 ≤ left → 0 ≤ szFL fs left → ∀ f ∈ fs, (f.lines.length : Int) ≤ left
  | [], _, _, _ => fun s hs => by cases hs
  | d :: r, left, h0, h => by
    unfold szFL at h
    split at h
    · omega
    · intro x hx
      rcases List.mem_cons.1 hx with e | e
      · subst e; exact szF_room _ _ h0 (by omega)
      · have h1 := szFL_room r (szF d left) (by omega) h x e
        have h2 := szF_le d left
        omega
theorem szFS_room (fs : List FileD) (left : Int) (_h0 : 0 ≤ left) (h : 0 ≤ szFS fs left) : (fs.length : Int) ≤ left ∧ ∀ f ∈ fs, (f.lines.length : Int) ≤ left := by
  unfold szFS at h
  split at h
  · omega
  · refine ⟨by omega, fun f hf => ?_⟩
    have := szFL_room fs _ (by omega) h f hf
    omega
theorem szD_ge (d : DevD) (left : Int) : -1 ≤ szD d left := by
  unfold szD
  repeat' split
  all_goals omega
theorem szD_le (d : DevD) (left : Int) (h0 : 0 ≤ left) : szD d left ≤ left := by
  have h1 := szS_le d.rows left h0
  unfold szD
  split
  · omega
  · have h2 := (szFS_ge d.files (szS d.rows left) (by omega)).2
    split
    · omega
    · have h3 := szS_le d.keys (szFS d.files (szS d.rows left)) (by omega)
      split <;> omega
theorem szD_small (d : DevD) (left : Int) (h0 : 0 ≤ left) (h1 : left ≤ 1048576) (h : 0 ≤ szD d left) : d.small := by
  have g1 := szS_le d.rows left h0
  unfold szD at h
  split at h
  · omega
  · have a1 := (szS_room d.rows left (by omega)).1
    have g2 := (szFS_ge d.files (szS d.rows left) (by omega)).2
    split at h
    · omega
    · have a2 := szFS_room d.files (szS d.rows left) (by omega) (by omega)
      split at h
      · omega
      · have a3 := (szS_room d.keys (szFS d.files (szS d.rows left)) (by omega)).1
        refine ⟨by omega, fun f hf => ?_, by omega, by omega⟩
        have := a2.2 f hf
        omega

set_option maxHeartbeats 1000000 in
theorem szDevices_any (c0 c1 c2 c3 c4 c5 : Value) (d : DevD) (left : Int) (w : World) (h : DevR w w.heap.size c0 c1 c2 c3 c4 c5 d) (hf : d.fine) (h0 : 0 ≤ left) (h1 : left ≤ 1048576) :
    Calls Try.prog 14 #[.agg #[c0, c1, c2, c3, c4, c5], .int .i64 left] w fun e w' => e = .returned (.int .i64 (szD d left)) ∧ Below w.heap.size w w' := by
  obtain ⟨rfl, rfl, rfl, ⟨A, n, cap, rfl, h3⟩, ⟨A', n', cap', rfl, h4⟩, ⟨A'', n'', cap'', rfl, h5⟩⟩ := h
  obtain ⟨f1, f2, f3, f4, f5, f6⟩ := hf
  rw [h3.1] at f2
  rw [h4.1] at f4
  rw [h5.1] at f6
  have HK1 := Lib.hid (fun W (hW : Below w.heap.size w W) => szScreen_any d.row d.col A n cap d.rows left W (h3.later hW) h0 h1 f1 f2)
  have HK2 := Lib.hid (fun W (hW : Below w.heap.size w W) (l : Int) (hl0 : 0 ≤ l) (hl1 : l ≤ 1048576) => szFileS_any A' n' cap' d.files l W (h4.later hW) f3 hl0 hl1 f4)
  have HK3 := Lib.hid (fun W (hW : Below w.heap.size w W) (l : Int) (hl0 : 0 ≤ l) (hl1 : l ≤ 1048576) => szStringS_any A'' n'' cap'' d.keys l W (h5.later hW) hl0 hl1 f5 f6)
  have hR : szD d left = szD d left := rfl
  conv at hR => rhs; unfold szD
  have g1 := szS_le d.rows left h0
  have g1' := szS_ge d.rows left h0
  have g2 := szFS_ge d.files (szS d.rows left)
  clear h3 h4 h5 f1 f2 f3 f4 f5 f6
  generalize szD d left = R at *
  generalize szS d.rows left = x at *
  have HR := Lib.hid hR
  clear hR
  generalize d.use = us at *
  generalize d.row = rw' at *
  generalize d.col = cl at *
  go_enter Try.func14, Try.ntmps14
  go_wp2_with fail
  refine (HK1.out _ (Below.new _ _)).mono ?_
  rintro e w1 ⟨rfl, hb1⟩
  have b4 := box_at hb1 4
  have b5 := box_at hb1 5
  have HB1 := Lib.hid ((Below.new _ _).later hb1)
  have HX1 := Lib.hid hb1
  clear hb1
  by_cases a1 : x < 0
  · have HE : Hid (R = -1) := by unfold Hid; rw [HR.out, if_pos a1]
    clear g2
    go_wp2_with fail
    go_ret
    exact ⟨ret_int HE.out.symm, HB1.out⟩
  · have HE1 := Lib.hid (HR.out.trans (if_neg a1))
    have g2 := g2 (by omega)
    have HK2' := Lib.hid (HK2.out w1 HB1.out x (by omega) (by omega))
    clear HK2
    generalize szFS d.files x = y at *
    go_wp2_with fail
    refine HK2'.out.mono ?_
    rintro e w2 ⟨rfl, hb2⟩
    have HX2 := Lib.hid (HX1.out.later hb2)
    clear b4 b5
    have b5 := box_at HX2.out 5
    have HB2 := Lib.hid (HB1.out.later hb2)
    clear hb2
    by_cases a2 : y < 0
    · have HE : Hid (R = -1) := by unfold Hid; rw [HE1.out, if_pos a2]
      go_wp2_with fail
      go_ret
      exact ⟨ret_int HE.out.symm, HB2.out⟩
    · have HE2 := Lib.hid (HE1.out.trans (if_neg a2))
      have HK3' := Lib.hid (HK3.out w2 HB2.out y (by omega) (by omega))
      have g3 := szS_le d.keys y (by omega)
      have g3' := szS_ge d.keys y (by omega)
      clear HK3
      generalize szS d.keys y = z at *
      go_wp2_with fail
      refine HK3'.out.mono ?_
      rintro e w3 ⟨rfl, rfl⟩
      by_cases a3 : z < 0
      · have HE : Hid (R = -1) := by unfold Hid; rw [HE2.out, if_pos a3]
        go_wp2_with fail
        go_ret
        exact ⟨ret_int HE.out.symm, HB2.out⟩
      · have HE : Hid (R = z) := by unfold Hid; rw [HE2.out, if_neg a3]
        go_wp2_with fail
        go_ret
        exact ⟨ret_int HE.out.symm, HB2.out⟩
end Go.Proofs.Ytjcpocedhaojpaa
