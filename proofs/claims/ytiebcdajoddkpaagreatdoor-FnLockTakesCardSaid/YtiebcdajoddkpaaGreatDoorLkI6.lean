/-
  Locks of the program, behind a pointer: what waiting, hold and room compute.
-/
import Derived.Test.YtiebcdajoddkpaaGreatDoorLkI5
namespace Go.Proofs.YtiebcdajoddkpaaGreatDoor
open Go.RowKit

/-- Locks behind the pointer p, as they read. -/
def LkV (w : World) (p : Nat) (held asks : List ItD) : Prop :=
  p < w.heap.size ∧ ∃ A c A' c', w.cell? ⟨p, 0, none⟩ = some (.slice A held.length c) ∧ w.cell? ⟨p, 1, none⟩ = some (.slice A' asks.length c') ∧ held.length ≤ c ∧ asks.length ≤ c' ∧ Its w w.heap.size A held.length held ∧ Its w w.heap.size A' asks.length asks
theorem LkV.later {w w' : World} {p : Nat} {held asks : List ItD} (h : LkV w p held asks) (hb : Below w.heap.size w w') : LkV w' p held asks := by
  obtain ⟨hp, A, c, A', c', h0, h1, hc, hc', hi, hi'⟩ := h
  exact ⟨Nat.lt_of_lt_of_le hp hb.size, A, c, A', c', cell_later hb h0, cell_later hb h1, hc, hc', hi.later hb, hi'.later hb⟩
theorem LkV.drewN {w : World} {p : Nat} {held asks : List ItD} (h : LkV w p held asks) (q : Nat) : LkV (w.drewN q) p held asks := h
theorem LkO.view {w : World} {base p : Nat} {v0 v1 : Value} {held asks : List ItD} {vs us : List Value} (h : LkO w base p v0 v1 held asks vs us) : LkV w p held asks := by
  obtain ⟨A, c, rfl, hc, _, hi⟩ := h.h.its
  obtain ⟨A', c', rfl, hc', _, hi'⟩ := h.a.its
  exact ⟨h.blk.lt, A, c, A', c', h.blk.cell 0, h.blk.cell 1, hc, hc', hi, hi'⟩

set_option maxHeartbeats 400000 in
theorem waiting1_any (g : Nat) (job : Int) (c0 c1 c2 c3 : Value) (f : ItD) (w : World) (h : ItR w w.heap.size c0 c1 c2 c3 f) (hg : g < w.heap.size) (hB : w.cell? ⟨g, 0, none⟩ = some (.int .i64 job)) :
    Calls Tryz.prog 125 #[.agg #[c0, c1, c2, c3], .pointer (some ⟨g, 0, none⟩)] w fun e w' => e = .returned (.bool (jobP job f)) ∧ Below w.heap.size w w' := by
  obtain ⟨rfl, rfl, rfl, A, n, cap, rfl, h3, hcap⟩ := h
  have HP : Hid (jobP job f = decide (f.a = job)) := rfl
  clear h3
  generalize jobP job f = R at *
  generalize f.a = fa at *
  by_cases hj : fa = job
  · subst hj
    have HE : Hid (R = true) := by unfold Hid; rw [HP.out]; simp
    go_enter Tryz.func125, Tryz.ntmps125
    go_wp2_with fail
    go_ret
    exact ⟨ret_bool HE.out.symm, Below.new _ _⟩
  · have hb : (fa == job) = false := by rw [beq_eq_false_iff_ne]; exact hj
    have HE : Hid (R = false) := by unfold Hid; rw [HP.out]; simp [hj]
    clear hj
    go_enter Tryz.func125, Tryz.ntmps125
    go_wp2_with fail
    go_ret
    exact ⟨ret_bool HE.out.symm, Below.new _ _⟩

set_option maxHeartbeats 400000 in
theorem waiting_any (p : Nat) (held asks : List ItD) (job : Int) (w : World) (h : LkV w p held asks) (hsa : smalls asks) :
    Calls Tryz.prog 99 #[.pointer (some ⟨p, 0, none⟩), .int .i64 job] w fun e w' => e = .returned (.int .i64 (askAt asks job)) ∧ Below w.heap.size w w' := by
  have eg : ∀ args w, (callFunc 125 args).run Tryz.prog w = .ok (.enter 125 args) w := enters_of Tryz.func125 (by kernel_rfl) rfl
  have h2 := h.later (Below.new w (.cells #[.int .i64 job] 2))
  obtain ⟨hp, A, c, A', c', h0, h1, hc, hc', hi, hi'⟩ := h2
  have HK := Lib.hid (IndexFuncA_any 125 #[.pointer (some ⟨w.heap.size, 0, none⟩)] (jobP job) A' asks.length c' asks (w.alloc (.cells #[.int .i64 job] 2)) hi' hsa.1 eg
    (fun f hf b0 b1 b2 b3 V hV hrf => waiting1_any w.heap.size job b0 b1 b2 b3 f V hrf (Nat.lt_of_lt_of_le (by simp) hV.size) (cell_later hV (by simp))))
  have HE : Hid (idxF (jobP job) asks 0 = askAt asks job) := rfl
  have hpw := h.1
  clear hi hi' h eg hsa
  generalize idxF (jobP job) asks 0 = x at *
  generalize asks.length = n' at *
  go_enter Tryz.func99, Tryz.ntmps99
  go_wp2_with fail
  refine HK.out.mono ?_
  rintro e w1 ⟨rfl, hb1⟩
  have HB := Lib.hid ((Below.new _ _).later hb1)
  clear hb1
  go_wp2_with fail
  go_ret
  exact ⟨ret_int HE.out, HB.out⟩

/-- Where a thing stands among locks, by the order of the program. -/
def posI (held : List ItD) (t : ItD) : Nat := (held.takeWhile fun d => decide (cmpIt d t < 0)).length
def foundI (held : List ItD) (t : ItD) : Bool := decide (posI held t < held.length) && decide (cmpIt (held.getD (posI held t) default) t = 0)
theorem posI_le (held : List ItD) (t : ItD) : posI held t ≤ held.length := by
  unfold posI
  exact (List.takeWhile_sublist _).length_le
def SearchPost (held : List ItD) (t : ItD) (w : World) (e : Ending) (w' : World) : Prop := e = .returned (.tuple #[.int .i64 (posI held t), .bool (foundI held t)]) ∧ Below w.heap.size w w'
theorem posI_of (held : List ItD) (t : ItD) (i : Nat) (hi : i ≤ held.length) (h1 : ∀ j, j < i → cmpIt (held.getD j default) t < 0) (h2 : i < held.length → 0 ≤ cmpIt (held.getD i default) t) : posI held t = i := by
  unfold posI
  induction held generalizing i with
  | nil => simp at hi ⊢; omega
  | cons d r ih =>
    cases i with
    | zero =>
      have := h2 (by simp)
      simp only [List.getD_cons_zero] at this
      rw [List.takeWhile_cons_of_neg (by simp; omega)]
      rfl
    | succ i =>
      have h0 := h1 0 (by omega)
      simp only [List.getD_cons_zero] at h0
      rw [List.takeWhile_cons_of_pos (by simpa using h0), List.length_cons]
      rw [ih i (by simpa using hi) (fun j hj => by have := h1 (j + 1) (by omega); simpa using this) (fun hlt => by have := h2 (by simpa using hlt); simpa using this)]

theorem ret_ib {a b : Int} {x y : Bool} (h1 : a = b) (h2 : x = y) : Ending.returned (.tuple #[.int .i64 a, .bool x]) = .returned (.tuple #[.int .i64 b, .bool y]) := by rw [h1, h2]
set_option maxRecDepth 100000 in
set_option maxHeartbeats 2000000 in
theorem BinarySearch_any (A : Option Addr) (n c : Nat) (held : List ItD) (d0 d1 d2 d3 : Value) (t : ItD) (w : World) (htab : tabT w) (h : Its w w.heap.size A n held) (hs : smalls held) (hr : ItR w w.heap.size d0 d1 d2 d3 t) (hst : t.small)
    (hmono : ∀ i j, i ≤ j → j < held.length → cmpIt (held.getD j default) t < 0 → cmpIt (held.getD i default) t < 0) :
    Calls Tryz.prog 104 #[.slice A n c, .agg #[d0, d1, d2, d3], .func (.func 105) #[] #[]] w (SearchPost held t w) := by
  have eg : ∀ args w, (callFunc 105 args).run Tryz.prog w = .ok (.enter 105 args) w := enters_of Tryz.func105 (by kernel_rfl) rfl
  have Hh := Lib.hid h
  have Hlen := Lib.hid h.1
  have hn : n ≤ 1048576 := by rw [← h.1]; exact hs.1
  have Hs := Lib.hid hs
  have HT := Lib.hid htab
  have Hst := Lib.hid hst
  have HM := Lib.hid hmono
  have HR := Lib.hid hr
  obtain ⟨rfl, rfl, rfl, A', n', cap', rfl, h3', _⟩ := hr
  clear h hs htab hst hmono h3'
  go_enter Tryz.func104, Tryz.ntmps104
  go_wp2_with fail
  go_loopw [9, 10] (fun i j wr => ∃ (a b : Nat), a ≤ b ∧ b ≤ n ∧ i = .int .i64 a ∧ j = .int .i64 b ∧ Below (w.heap.size + 1) (w.alloc (.cells #[.int .i64 t.a, .int .i64 t.b, .string t.name, .slice A' n' cap'] 37)) wr ∧ Hid (∀ k, k < a → cmpIt (held.getD k default) t < 0) ∧ Hid (∀ k, b ≤ k → k < n → 0 ≤ cmpIt (held.getD k default) t)) (fun i j _ => (intOf j).toNat - (intOf i).toNat)
  case atStart => exact ⟨0, n, by omega, by omega, rfl, rfl, Below.refl _ _, fun k hk => absurd hk (by omega), fun k h1 h2 => absurd h2 (by omega)⟩
  case round =>
    obtain ⟨a, b, hab, hbn, rfl, rfl, hb, hlo, hhi⟩ := hrel
    have hbx := (Blk.later (heap_alloc_new w _) hb (by omega))
    have hz0 : w.heap.size < wr.heap.size := hbx.lt
    have HB := Lib.hid hb
    have HBw := Lib.hid ((Below.new _ _).trans (hb.mono (by omega)))
    clear hb
    by_cases hlt : a < b
    · obtain ⟨m, hm⟩ : ∃ m : Nat, m = (a + b) / 2 := ⟨_, rfl⟩
      have hma : a ≤ m := by omega
      have hmb : m < b := by omega
      have hmI : ((a : Int) + (b : Int)) / 2 = (m : Int) := by omega
      have hmn : (m : Int) < n := by omega
      obtain ⟨bb, o, rfl, hbB, hc'⟩ := (Hh.out.later HBw.out).2 (by omega)
      obtain ⟨c0, c1, c2, c3, k0, k1, k2, k3, hrd⟩ := hc' m (by omega)
      clear hc'
      have hsm := Hs.out.2 _ (getD_mem held m (by rw [Hlen.out]; omega))
      have HD : Hid (held.getD m default = held.getD m default) := rfl
      generalize hdd : held.getD m default = d at *
      have HDD := Lib.hid hdd
      clear hdd HD
      have HKC := Lib.hid (fun W (hW : Below wr.heap.size wr W) => compareLocks_any c0 c1 c2 c3 _ _ _ _ d t W (tab_later HT.out (HBw.out.later hW)) (hrd.later hW) (HR.out.later (HBw.out.later hW)) hsm Hst.out)
      obtain ⟨e0, e1, e2, A1, n1, cap1, e3, hs1, _⟩ := hrd
      subst e0 e1 e2 e3
      clear hs1 hsm
      have q0 := hbx.cell 0
      have q1 := hbx.cell 1
      have q2 := hbx.cell 2
      have q3 := hbx.cell 3
      simp at q0 q1 q2 q3
      clear hbx
      generalize hyd : cmpIt d t = y at *
      have HY := Lib.hid hyd
      clear hyd
      clear hm
      go_wp2_with fail
      have hw1 : IntKind.i64.wrap (m : Int) = (m : Int) := IntWalk.i64_in _ (by omega)
      have hw2 : (0 : Int) ≤ (m : Int) := by omega
      have hw3 : ((m : Int)).toNat = m := by omega
      go_region_held3 (fun w' => w'.cell? ⟨bb, o + m * 4, none⟩ = some (.int .i64 d.a) ∧ w'.cell? ⟨bb, o + m * 4 + 1, none⟩ = some (.int .i64 d.b) ∧ w'.cell? ⟨bb, o + m * 4 + 2, none⟩ = some (.string d.name) ∧ w'.cell? ⟨bb, o + m * 4 + 3, none⟩ = some (.slice A1 n1 cap1) ∧ w'.cell? ⟨w.heap.size, 0, none⟩ = some (.int .i64 t.a) ∧ w'.cell? ⟨w.heap.size, 1, none⟩ = some (.int .i64 t.b) ∧ w'.cell? ⟨w.heap.size, 2, none⟩ = some (.string t.name) ∧ w'.cell? ⟨w.heap.size, 3, none⟩ = some (.slice A' n' cap')) (first | exact ⟨k0, k1, k2, k3, q0, q1, q2, q3⟩ | exact ⟨cell_later hb2 k0, cell_later hb2 k1, cell_later hb2 k2, cell_later hb2 k3, cell_later hb2 q0, cell_later hb2 q1, cell_later hb2 q2, cell_later hb2 q3⟩)
        (first
          | (go_at_fn 105; refine (HKC.out _ (by exact (Below.refl _ _).drew)).mono ?_; rintro e w2 ⟨rfl, hb2'⟩; have hb2 := undrew hb2'; clear hb2'))
      have HB2 := Lib.hid (HB.out.trans (hb2.mono (by omega)))
      clear hw1 hw2 hw3 q0 q1 q2 q3 hb2 k0 k1 k2 k3
      by_cases hy : y < 0
      · go_wp2_with fail
        go_roundw
        case rel => exact ⟨m + 1, b, by omega, by omega, by go_num, rfl, HB2.out, fun k hk => by
          rcases Nat.lt_or_ge k m with h | h
          · exact HM.out k m (by omega) (by rw [Hlen.out]; omega) (by rw [HDD.out, HY.out]; exact hy)
          · obtain rfl : k = m := by omega
            rw [HDD.out, HY.out]; exact hy, hhi⟩
        case measure => simp [intOf]; omega
      · go_wp2_with fail
        go_roundw
        case rel => exact ⟨a, m, by omega, by omega, rfl, rfl, HB2.out, hlo, fun k hk hk2 => by
          rcases Int.lt_or_le (cmpIt (held.getD k default) t) 0 with h | h
          · have := HM.out m k hk (by rw [Hlen.out]; omega) h
            rw [HDD.out, HY.out] at this
            omega
          · exact h⟩
        case measure => simp [intOf]; omega
    · obtain rfl : a = b := by omega
      have hpos : posI held t = a := posI_of held t a (by rw [Hlen.out]; omega) hlo.out (fun h => hhi.out a (Nat.le_refl _) (by rw [← Hlen.out]; exact h))
      have HPos := Lib.hid hpos
      by_cases han : a < n
      · have HF : Hid (foundI held t = decide (cmpIt (held.getD a default) t = 0)) := by unfold Hid foundI; rw [hpos, Hlen.out, decide_eq_true han]; rfl
        clear hpos
        obtain ⟨bb, o, rfl, hbB, hc'⟩ := (Hh.out.later HBw.out).2 (by omega)
        obtain ⟨c0, c1, c2, c3, k0, k1, k2, k3, hrd⟩ := hc' a (by omega)
        clear hc'
        have hsm := Hs.out.2 _ (getD_mem held a (by rw [Hlen.out]; omega))
        have HD : Hid (held.getD a default = held.getD a default) := rfl
        generalize hdd : held.getD a default = d at *
        have HDD := Lib.hid hdd
        clear hdd HD
        have HKC := Lib.hid (fun W (hW : Below wr.heap.size wr W) => compareLocks_any c0 c1 c2 c3 _ _ _ _ d t W (tab_later HT.out (HBw.out.later hW)) (hrd.later hW) (HR.out.later (HBw.out.later hW)) hsm Hst.out)
        obtain ⟨e0, e1, e2, A1, n1, cap1, e3, hs1, _⟩ := hrd
        subst e0 e1 e2 e3
        clear hs1 hsm
        have q0 := hbx.cell 0
        have q1 := hbx.cell 1
        have q2 := hbx.cell 2
        have q3 := hbx.cell 3
        simp at q0 q1 q2 q3
        clear hbx
        generalize hyd : cmpIt d t = y at *
        have HY := Lib.hid hyd
        clear hyd
        go_wp2_with fail
        have hw1 : IntKind.i64.wrap (a : Int) = (a : Int) := IntWalk.i64_in _ (by omega)
        have hw2 : (0 : Int) ≤ (a : Int) := by omega
        have hw3 : ((a : Int)).toNat = a := by omega
        have hw4 : (a : Int) < n := by omega
        go_region_held3 (fun w' => w'.cell? ⟨bb, o + a * 4, none⟩ = some (.int .i64 d.a) ∧ w'.cell? ⟨bb, o + a * 4 + 1, none⟩ = some (.int .i64 d.b) ∧ w'.cell? ⟨bb, o + a * 4 + 2, none⟩ = some (.string d.name) ∧ w'.cell? ⟨bb, o + a * 4 + 3, none⟩ = some (.slice A1 n1 cap1) ∧ w'.cell? ⟨w.heap.size, 0, none⟩ = some (.int .i64 t.a) ∧ w'.cell? ⟨w.heap.size, 1, none⟩ = some (.int .i64 t.b) ∧ w'.cell? ⟨w.heap.size, 2, none⟩ = some (.string t.name) ∧ w'.cell? ⟨w.heap.size, 3, none⟩ = some (.slice A' n' cap')) (first | exact ⟨k0, k1, k2, k3, q0, q1, q2, q3⟩ | exact ⟨cell_later hb2 k0, cell_later hb2 k1, cell_later hb2 k2, cell_later hb2 k3, cell_later hb2 q0, cell_later hb2 q1, cell_later hb2 q2, cell_later hb2 q3⟩)
          (first
            | (go_at_fn 105; refine (HKC.out _ (by exact (Below.refl _ _).drew)).mono ?_; rintro e w2 ⟨rfl, hb2'⟩; have hb2 := undrew hb2'; clear hb2'))
        have HB2 := Lib.hid (HBw.out.later hb2)
        clear hw1 hw2 hw3 hw4 q0 q1 q2 q3 hb2 k0 k1 k2 k3
        go_wp2_with fail
        go_ret2
        unfold SearchPost
        rw [HPos.out, HF.out]
        exact ⟨ret_ib rfl (by rw [Bool.eq_iff_iff]; simp), HB2.out⟩
      · have HF : Hid (foundI held t = false) := by unfold Hid foundI; rw [hpos, Hlen.out, decide_eq_false han]; rfl
        have hd1 : decide ((a : Int) < (n : Int)) = false := by simp; omega
        have hd2 : decide (a < n) = false := by simp; omega
        clear hpos hbx
        go_wp2_with fail
        go_quiet (fail)
        go_wp2_with fail
        go_ret2
        unfold SearchPost
        rw [HPos.out, HF.out]
        exact ⟨rfl, below_drewN HBw.out _⟩
end Go.Proofs.YtiebcdajoddkpaaGreatDoor
