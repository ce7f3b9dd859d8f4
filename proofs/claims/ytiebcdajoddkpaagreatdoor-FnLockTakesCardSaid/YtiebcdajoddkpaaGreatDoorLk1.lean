/-
  Locks: what the reference's small functions compute: l24Starts, l24Texts, l24Way, l24Thing, l24Less, l24Job, l00In, l24Subs.
-/
import Derived.Test.YtiebcdajoddkpaaGreatDoorOrdSpec
import Derived.Test.YtiebcdajoddkpaaGreatDoorSz
import Derived.Test.YtiebcdajoddkpaaGreatDoorBlk
import Derived.Deep.RegionHeld3
namespace Go.Proofs.YtiebcdajoddkpaaGreatDoor
open Go.RowKit

def startsB : List ByteArray → List ByteArray → Bool
  | [], _ => true
  | _ :: _, [] => false
  | x :: r, y :: s => decide (x = y) && startsB r s
def wayB (n : ByteArray) (s : List ByteArray) (n' : ByteArray) (s' : List ByteArray) : Bool := decide (n = n') && (startsB s s' || startsB s' s)
def thingB (n : ByteArray) (s : List ByteArray) : Bool := nameB n && subsB s
def lessS : List ByteArray → List ByteArray → Bool
  | [], [] => false
  | [], _ :: _ => true
  | _ :: _, [] => false
  | x :: r, y :: s => if x = y then lessS r s else beforeB x y
def lessB (n : ByteArray) (s : List ByteArray) (n' : ByteArray) (s' : List ByteArray) : Bool := if n = n' then lessS s s' else Op.bytesLess n.toList n'.toList

theorem startsB_long : ∀ (a b : List ByteArray), b.length < a.length → startsB a b = false
  | [], _, h => absurd h (by simp)
  | _ :: _, [], _ => rfl
  | x :: r, y :: s, h => by
    unfold startsB
    rw [startsB_long r s (by simpa using h), Bool.and_false]
theorem startsB_step (a b : List ByteArray) (k : Nat) (h : k < a.length) (h' : k < b.length) :
    startsB (a.drop k) (b.drop k) = (decide (a.getD k ByteArray.empty = b.getD k ByteArray.empty) && startsB (a.drop (k + 1)) (b.drop (k + 1))) := by
  rw [List.drop_eq_getElem_cons h, List.drop_eq_getElem_cons h']
  simp [startsB, List.getD_eq_getElem?_getD, List.getElem?_eq_getElem h, List.getElem?_eq_getElem h']
theorem startsB_nil (b : List ByteArray) : startsB [] b = true := by cases b <;> rfl
theorem lessS_step (a b : List ByteArray) (k : Nat) (h : k < a.length) (h' : k < b.length) :
    lessS (a.drop k) (b.drop k) = if a.getD k ByteArray.empty = b.getD k ByteArray.empty then lessS (a.drop (k + 1)) (b.drop (k + 1)) else beforeB (a.getD k ByteArray.empty) (b.getD k ByteArray.empty) := by
  rw [List.drop_eq_getElem_cons h, List.drop_eq_getElem_cons h']
  simp [lessS, List.getD_eq_getElem?_getD, List.getElem?_eq_getElem h, List.getElem?_eq_getElem h']
theorem lessS_end : ∀ (a b : List ByteArray), a = [] ∨ b = [] → lessS a b = decide (a.length < b.length)
  | [], [], _ => rfl
  | [], _ :: _, _ => by simp [lessS]
  | _ :: _, [], _ => by simp [lessS]
  | _ :: _, _ :: _, h => by simp at h
theorem eqS_starts : ∀ (a b : List ByteArray), (decide (a.length = b.length) && startsB a b) = eqS a b
  | [], [] => rfl
  | [], _ :: _ => by simp [eqS]
  | _ :: _, [] => by simp [eqS]
  | x :: r, y :: s => by
    have h := eqS_starts r s
    unfold eqS at h ⊢
    simp only [startsB, List.length_cons, List.cons.injEq]
    by_cases hx : x = y
    · subst hx
      simp only [decide_true, Bool.true_and, true_and]
      rw [← h]
      simp
    · simp [hx]

set_option maxHeartbeats 400000 in
theorem l24Starts_any (A A' : Option Addr) (n c n' c' : Nat) (ss ts : List ByteArray) (w : World) (h : Strs w w.heap.size A n ss) (h' : Strs w w.heap.size A' n' ts) (hn : n ≤ 1048576) (hn' : n' ≤ 1048576) :
    Calls Tryz.prog 94 #[.slice A n c, .slice A' n' c'] w fun e w' => e = .returned (.bool (startsB ss ts)) ∧ ∃ q, w' = w.drewN q := by
  obtain ⟨hlen, hc⟩ := h
  obtain ⟨hlen', hc'⟩ := h'
  have Hc := Lib.hid hc
  have Hlen := Lib.hid hlen
  have Hc' := Lib.hid hc'
  have Hlen' := Lib.hid hlen'
  clear hc hlen hc' hlen'
  by_cases hgt : n' < n
  · have HE : Hid (startsB ss ts = false) := startsB_long _ _ (by rw [Hlen.out, Hlen'.out]; exact hgt)
    go_enter Tryz.func94, Tryz.ntmps94
    go_wp2_with fail
    go_ret
    exact ⟨ret_bool HE.out.symm, 0, rfl⟩
  · go_enter Tryz.func94, Tryz.ntmps94
    go_wp2_with fail
    go_loopw [5] (fun i wr => ∃ (k : Nat), k ≤ n ∧ i = .int .i64 k ∧ (∃ q, wr = w.drewN q) ∧ Hid (startsB ss ts = startsB (ss.drop k) (ts.drop k))) (fun i _ => n - (intOf i).toNat)
    case atStart => exact ⟨0, Nat.zero_le _, rfl, ⟨0, rfl⟩, rfl⟩
    case round =>
      obtain ⟨k, hk, rfl, ⟨q, rfl⟩, hS⟩ := hrel
      by_cases hlt : k < n
      · obtain ⟨b, o, rfl, hb, hcell⟩ := Hc.out (by omega)
        obtain ⟨b', o', rfl, hb', hcell'⟩ := Hc'.out (by omega)
        have hck := hcell k hlt
        have hck' := hcell' k (by omega)
        clear hcell hcell'
        have HS := Lib.hid (startsB_step ss ts k (by rw [Hlen.out]; exact hlt) (by rw [Hlen'.out]; omega))
        generalize ss.getD k ByteArray.empty = s at *
        generalize ts.getD k ByteArray.empty = t at *
        go_wp2_with fail
        go_quiet (fail)
        go_wp2_with fail
        · go_ret
          have hst : s ≠ t := str_ne (by assumption)
          exact ⟨ret_bool (by rw [hS.out, HS.out, decide_eq_false hst]; rfl), _, World.drewN_drewN _ _ _⟩
        · go_roundw
          case rel =>
            have hst : s = t := str_eq (by assumption)
            exact ⟨k + 1, by omega, by go_num, ⟨_, rfl⟩, by unfold Hid; rw [hS.out, HS.out, decide_eq_true hst]; rfl⟩
          case measure => simp [intOf]; omega
      · go_wp2_with fail
        go_ret
        exact ⟨ret_bool (by rw [hS.out, List.drop_of_length_le (by rw [Hlen.out]; omega), startsB_nil]), _, rfl⟩

set_option maxHeartbeats 400000 in
theorem l24Texts_any (A A' : Option Addr) (n c n' c' : Nat) (ss ts : List ByteArray) (w : World) (h : Strs w w.heap.size A n ss) (h' : Strs w w.heap.size A' n' ts) (hn : n ≤ 1048576) (hn' : n' ≤ 1048576) :
    Calls Tryz.prog 45 #[.slice A n c, .slice A' n' c'] w fun e w' => e = .returned (.bool (eqS ss ts)) ∧ ∃ q, w' = w.drewN q := by
  have HK := Lib.hid (l24Starts_any A A' n c n' c' ss ts w h h' hn hn')
  have hE := eqS_starts ss ts
  rw [h.1, h'.1] at hE
  clear h h'
  generalize startsB ss ts = x at *
  generalize eqS ss ts = R at *
  by_cases hne : n = n'
  · subst hne
    have HE : Hid (x = R) := by unfold Hid; rw [← hE]; simp
    clear hE
    go_enter Tryz.func45, Tryz.ntmps45
    go_wp2_with fail
    refine HK.out.mono ?_
    rintro e w1 ⟨rfl, q, rfl⟩
    go_wp2_with fail
    go_ret
    exact ⟨ret_bool HE.out, q, rfl⟩
  · have HE : Hid (false = R) := by unfold Hid; rw [← hE]; simp [hne]
    have hb : ((n : Int) == (n' : Int)) = false := by rw [beq_eq_false_iff_ne]; omega
    have hb2 : (n == n') = false := by rw [beq_eq_false_iff_ne]; omega
    clear hE hne
    go_enter Tryz.func45, Tryz.ntmps45
    go_wp2_with fail
    go_ret
    exact ⟨ret_bool HE.out, 0, rfl⟩

theorem str_beq {a b : ByteArray} (h : a ≠ b) : (a.toList == b.toList) = false := by
  cases hx : (a.toList == b.toList)
  · rfl
  · exact absurd (bytes_ext (by simpa using hx)) h
theorem str_bne {a b : ByteArray} (h : a ≠ b) : (!a.toList == b.toList) = true := by rw [str_beq h]; rfl

set_option maxHeartbeats 400000 in
theorem l24Way_any (nm nm' : ByteArray) (A A' : Option Addr) (n c n' c' : Nat) (ss ts : List ByteArray) (w : World) (h : Strs w w.heap.size A n ss) (h' : Strs w w.heap.size A' n' ts) (hn : n ≤ 1048576) (hn' : n' ≤ 1048576) :
    Calls Tryz.prog 93 #[.string nm, .slice A n c, .string nm', .slice A' n' c'] w fun e w' => e = .returned (.bool (wayB nm ss nm' ts)) ∧ ∃ q, w' = w.drewN q := by
  have HK1 := Lib.hid (l24Starts_any A A' n c n' c' ss ts w h h' hn hn')
  have HK2 := Lib.hid (fun q => l24Starts_any A' A n' c' n c ts ss (w.drewN q) h' h hn' hn)
  have hR : wayB nm ss nm' ts = wayB nm ss nm' ts := rfl
  conv at hR => rhs; unfold wayB
  generalize wayB nm ss nm' ts = R at *
  clear h h'
  generalize startsB ss ts = x at *
  generalize startsB ts ss = y at *
  by_cases he : nm = nm'
  · subst he
    have HE : Hid (R = (x || y)) := by unfold Hid; rw [hR]; simp
    clear hR
    go_enter Tryz.func93, Tryz.ntmps93
    go_wp2_with fail
    refine HK1.out.mono ?_
    rintro e w1 ⟨rfl, q, rfl⟩
    cases x
    · go_wp2_with fail
      refine (HK2.out _).mono ?_
      rintro e w2 ⟨rfl, q2, rfl⟩
      go_wp2_with fail
      go_ret
      exact ⟨ret_bool (by rw [HE.out]; rfl), _, rfl⟩
    · go_wp2_with fail
      go_ret
      exact ⟨ret_bool (by rw [HE.out]; rfl), _, rfl⟩
  · have HE : Hid (R = false) := by unfold Hid; rw [hR]; simp [he]
    have hb := str_beq he
    clear hR he
    go_enter Tryz.func93, Tryz.ntmps93
    go_wp2_with fail
    go_ret
    exact ⟨ret_bool HE.out.symm, 0, rfl⟩

theorem specNameOk_any (s : ByteArray) (w : World) (hs : s.size ≤ 1048576) :
    Calls Tryz.prog 100 #[.string s] w fun e w' => e = .returned (.bool (nameB s)) ∧ w = w' := by
  have HK := Lib.hid (l02Name_any s w hs)
  generalize nameB s = x at *
  go_enter Tryz.func100, Tryz.ntmps100
  go_wp2_with fail
  refine HK.out.mono ?_
  rintro e w1 ⟨rfl, rfl⟩
  go_wp2_with fail
  go_ret
  exact ⟨rfl, rfl⟩
theorem specSubsOk_any (A : Option Addr) (n c : Nat) (ss : List ByteArray) (w : World) (h : Strs w w.heap.size A n ss) (hn : n ≤ 1048576) (hz : ∀ s ∈ ss, s.size ≤ 1048576) :
    Calls Tryz.prog 101 #[.slice A n c] w fun e w' => e = .returned (.bool (subsB ss)) ∧ w = w' := by
  have HK := Lib.hid (l02Subs_any A n c ss w h hn hz)
  clear h hz
  generalize subsB ss = x at *
  go_enter Tryz.func101, Tryz.ntmps101
  go_wp2_with fail
  refine HK.out.mono ?_
  rintro e w1 ⟨rfl, rfl⟩
  go_wp2_with fail
  go_ret
  exact ⟨rfl, rfl⟩
theorem specBefore_any (a b : ByteArray) (w : World) (ha : a.size ≤ 1048576) (hb : b.size ≤ 1048576) :
    Calls Tryz.prog 124 #[.string a, .string b] w fun e w' => e = .returned (.bool (beforeB a b)) ∧ Below w.heap.size w w' := by
  have HK := Lib.hid (l02Before_any a b w ha hb)
  generalize beforeB a b = x at *
  go_enter Tryz.func124, Tryz.ntmps124
  go_wp2_with fail
  refine HK.out.mono ?_
  rintro e w1 ⟨rfl, hb1⟩
  have HB := Lib.hid hb1
  clear hb1
  go_wp2_with fail
  go_ret
  exact ⟨rfl, HB.out⟩
theorem l24Thing_any (nm : ByteArray) (A : Option Addr) (n c : Nat) (ss : List ByteArray) (w : World) (hs : nm.size ≤ 1048576) (h : Strs w w.heap.size A n ss) (hn : n ≤ 1048576) (hz : ∀ s ∈ ss, s.size ≤ 1048576) :
    Calls Tryz.prog 55 #[.string nm, .slice A n c] w fun e w' => e = .returned (.bool (thingB nm ss)) ∧ w = w' := by
  have HK1 := Lib.hid (specNameOk_any nm w hs)
  have HK2 := Lib.hid (specSubsOk_any A n c ss w h hn hz)
  have hR : thingB nm ss = thingB nm ss := rfl
  conv at hR => rhs; unfold thingB
  generalize thingB nm ss = R at *
  clear h hz
  generalize nameB nm = x at *
  generalize subsB ss = y at *
  have HR := Lib.hid hR
  clear hR
  go_enter Tryz.func55, Tryz.ntmps55
  go_wp2_with fail
  refine HK1.out.mono ?_
  rintro e w1 ⟨rfl, rfl⟩
  cases x
  · go_wp2_with fail
    go_ret
    exact ⟨ret_bool (by rw [HR.out]; rfl), rfl⟩
  · go_wp2_with fail
    refine HK2.out.mono ?_
    rintro e w1 ⟨rfl, rfl⟩
    go_wp2_with fail
    go_ret
    exact ⟨ret_bool (by rw [HR.out]; rfl), rfl⟩

def inB (n a b : Int) : Bool := decide (a ≤ n) && decide (n ≤ b)
set_option maxHeartbeats 400000 in
theorem l00In_any (n a b : Int) (w : World) :
    Calls Tryz.prog 49 #[.int .i64 n, .int .i64 a, .int .i64 b] w fun e w' => e = .returned (.bool (inB n a b)) ∧ w = w' := by
  unfold inB
  by_cases h1 : a ≤ n
  · by_cases h2 : n ≤ b
    all_goals
      go_enter Tryz.func49, Tryz.ntmps49
      go_wp2
      go_ret
      exact ⟨ret_bool (by first | (simp; done) | (simp; omega) | (rw [Bool.eq_iff_iff]; simp; omega)), rfl⟩
  · go_enter Tryz.func49, Tryz.ntmps49
    go_wp2
    go_ret
    exact ⟨ret_bool (by first | (simp; done) | (simp; omega) | (rw [Bool.eq_iff_iff]; simp; omega)), rfl⟩
theorem l24Job_any (n : Int) (w : World) :
    Calls Tryz.prog 43 #[.int .i64 n] w fun e w' => e = .returned (.bool (inB n 1 4)) ∧ w = w' := by
  have HK := Lib.hid (l00In_any n 1 4 w)
  generalize inB n 1 4 = x at *
  go_enter Tryz.func43, Tryz.ntmps43
  go_wp2_with fail
  refine HK.out.mono ?_
  rintro e w1 ⟨rfl, rfl⟩
  go_wp2_with fail
  go_ret
  exact ⟨rfl, rfl⟩

theorem strs_sz {ss : List ByteArray} {M : Nat} (hz : ∀ s ∈ ss, s.size ≤ M) (k : Nat) (hk : k < ss.length) : (ss.getD k ByteArray.empty).size ≤ M := by
  apply hz
  rw [List.getD_eq_getElem?_getD, List.getElem?_eq_getElem hk]; simp

set_option maxHeartbeats 1000000 in
theorem l24Less_any (nm nm' : ByteArray) (A A' : Option Addr) (n c n' c' : Nat) (ss ts : List ByteArray) (w : World) (h : Strs w w.heap.size A n ss) (h' : Strs w w.heap.size A' n' ts) (hn : n ≤ 1048576) (hn' : n' ≤ 1048576)
    (hz : ∀ s ∈ ss, s.size ≤ 1048576) (hz' : ∀ s ∈ ts, s.size ≤ 1048576) :
    Calls Tryz.prog 92 #[.string nm, .slice A n c, .string nm', .slice A' n' c'] w fun e w' => e = .returned (.bool (lessB nm ss nm' ts)) ∧ Below w.heap.size w w' := by
  obtain ⟨hlen, hc⟩ := h
  obtain ⟨hlen', hc'⟩ := h'
  have Hc := Lib.hid hc
  have Hlen := Lib.hid hlen
  have Hc' := Lib.hid hc'
  have Hlen' := Lib.hid hlen'
  have Hz := Lib.hid hz
  have Hz' := Lib.hid hz'
  clear hc hlen hc' hlen' hz hz'
  by_cases he : nm = nm'
  · subst he
    have HE : Hid (lessB nm ss nm ts = lessS ss ts) := by unfold Hid lessB; rw [if_pos rfl]
    go_enter Tryz.func92, Tryz.ntmps92
    go_wp2_with fail
    go_loopw [9] (fun i wr => ∃ (k : Nat), k ≤ n ∧ k ≤ n' ∧ i = .int .i64 k ∧ (∃ q, wr = w.drewN q) ∧ Hid (lessS ss ts = lessS (ss.drop k) (ts.drop k))) (fun i _ => n - (intOf i).toNat)
    case atStart => exact ⟨0, Nat.zero_le _, Nat.zero_le _, rfl, ⟨0, rfl⟩, rfl⟩
    case round =>
      obtain ⟨k, hk, hk', rfl, ⟨q, rfl⟩, hS⟩ := hrel
      by_cases hlt : k < n
      · by_cases hlt' : k < n'
        · obtain ⟨b, o, rfl, hb, hcell⟩ := Hc.out (by omega)
          obtain ⟨b', o', rfl, hb', hcell'⟩ := Hc'.out (by omega)
          have hck := hcell k hlt
          have hck' := hcell' k hlt'
          clear hcell hcell'
          have HS := Lib.hid (lessS_step ss ts k (by rw [Hlen.out]; exact hlt) (by rw [Hlen'.out]; omega))
          have HK := Lib.hid (fun W => specBefore_any (ss.getD k ByteArray.empty) (ts.getD k ByteArray.empty) W (strs_sz Hz.out k (by rw [Hlen.out]; exact hlt)) (strs_sz Hz'.out k (by rw [Hlen'.out]; exact hlt')))
          generalize ss.getD k ByteArray.empty = s at *
          generalize ts.getD k ByteArray.empty = t at *
          generalize beforeB s t = x at *
          go_wp2_with fail
          go_quiet (fail)
          go_wp2_with fail
          · have hst : s ≠ t := str_ne (by assumption)
            have HF : Hid (lessB nm ss nm ts = x) := by unfold Hid; rw [HE.out, hS.out, HS.out, if_neg hst]
            clear hst
            go_region_held3 (fun w' => w'.cell? ⟨b, o + k, none⟩ = some (.string s) ∧ w'.cell? ⟨b', o' + k, none⟩ = some (.string t)) (first | exact ⟨hck, hck'⟩ | exact ⟨cell_later hb1 hck, cell_later hb1 hck'⟩)
              (first | (go_at_call 124; refine (HK.out _).mono ?_; rintro e w1 ⟨rfl, hb1'⟩; have hb1 := undrewN hb1'; clear hb1'))
            have HB1 := Lib.hid hb1
            clear hb1
            go_wp2_with fail
            go_ret
            exact ⟨ret_bool HF.out.symm, HB1.out⟩
          · go_roundw
            case rel =>
              have hst : s = t := str_eq (by assumption)
              exact ⟨k + 1, by omega, by omega, by go_num, ⟨_, rfl⟩, by unfold Hid; rw [hS.out, HS.out, if_pos hst]⟩
            case measure => simp [intOf]; omega
        · have HF : Hid (lessB nm ss nm ts = decide (n < n')) := by
            unfold Hid
            rw [HE.out, hS.out, lessS_end _ _ (Or.inr (List.drop_of_length_le (by rw [Hlen'.out]; omega))), List.length_drop, List.length_drop, Hlen.out, Hlen'.out]
            rw [Bool.eq_iff_iff]; simp <;> omega
          go_wp2_with fail
          go_ret
          exact ⟨ret_bool HF.out.symm, below_drewN (Below.refl _ _) _⟩
      · have HF : Hid (lessB nm ss nm ts = decide (n < n')) := by
          unfold Hid
          rw [HE.out, hS.out, lessS_end _ _ (Or.inl (List.drop_of_length_le (by rw [Hlen.out]; omega))), List.length_drop, List.length_drop, Hlen.out, Hlen'.out]
          rw [Bool.eq_iff_iff]; simp <;> omega
        go_wp2_with fail
        go_ret
        exact ⟨ret_bool HF.out.symm, below_drewN (Below.refl _ _) _⟩
  · have HE : Hid (lessB nm ss nm' ts = Op.bytesLess nm.toList nm'.toList) := by unfold Hid lessB; rw [if_neg he]
    have hb := str_bne he
    clear he
    go_enter Tryz.func92, Tryz.ntmps92
    go_wp2_with fail
    go_ret
    exact ⟨ret_bool HE.out.symm, Below.refl _ _⟩
end Go.Proofs.YtiebcdajoddkpaaGreatDoor
