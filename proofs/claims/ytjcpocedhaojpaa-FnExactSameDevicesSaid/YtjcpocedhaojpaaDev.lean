/-
  What SameSubs, slices.Equal, sameScreen, szDevices, toDevices and eqDevices compute.
-/
import Derived.Test.YtjcpocedhaojpaaFileTo
import Derived.Test.YtjcpocedhaojpaaShelf
namespace Go.Proofs.Ytjcpocedhaojpaa
open Go.RowKit

set_option maxHeartbeats 400000 in
theorem l02Same_any (A A' : Option Addr) (n c n' c' : Nat) (ss ts : List ByteArray) (w : World) (h : Strs w w.heap.size A n ss) (h' : Strs w w.heap.size A' n' ts) (hn : n ≤ 1048576) (hn' : n' ≤ 1048576) :
    Calls Try.prog 52 #[.slice A n c, .slice A' n' c'] w fun e w' => e = .returned (.bool (eqS ss ts)) ∧ ∃ q, w' = w.drewN q := by
  obtain ⟨hlen, hc⟩ := h
  obtain ⟨hlen', hc'⟩ := h'
  have Hc := Lib.hid hc
  have Hlen := Lib.hid hlen
  have Hc' := Lib.hid hc'
  have Hlen' := Lib.hid hlen'
  clear hc hlen hc' hlen'
  by_cases hne : n = n'
  · subst hne
    go_enter Try.func52, Try.ntmps52
    go_wp2
    go_loopw [5] (fun i wr => ∃ (k : Nat), k ≤ n ∧ i = .int .i64 k ∧ (∃ q, wr = w.drewN q) ∧ Hid (∀ j, j < k → ss.getD j ByteArray.empty = ts.getD j ByteArray.empty)) (fun i _ => n - (intOf i).toNat)
    case atStart => exact ⟨0, Nat.zero_le _, rfl, ⟨0, rfl⟩, fun j hj => absurd hj (by omega)⟩
    case round =>
      obtain ⟨k, hk, rfl, ⟨q, rfl⟩, hcs⟩ := hrel
      by_cases hlt : k < n
      · obtain ⟨b, o, rfl, hb, hcell⟩ := Hc.out (by omega)
        obtain ⟨b', o', rfl, hb', hcell'⟩ := Hc'.out (by omega)
        have hck := hcell k hlt
        have hck' := hcell' k hlt
        clear hcell hcell'
        obtain ⟨s, hs⟩ : ∃ s, ss.getD k ByteArray.empty = s := ⟨_, rfl⟩
        obtain ⟨t, ht⟩ : ∃ t, ts.getD k ByteArray.empty = t := ⟨_, rfl⟩
        rw [hs] at hck
        rw [ht] at hck'
        have Hs := Lib.hid hs
        have Ht := Lib.hid ht
        clear hs ht
        go_wp2
        go_quiet (fail)
        go_wp2
        · go_ret
          refine ⟨ret_bool ?_, _, World.drewN_drewN _ _ _⟩
          have hst : s ≠ t := str_ne (by assumption)
          unfold eqS
          symm
          rw [decide_eq_false_iff_not]
          intro e
          apply hst
          rw [← Hs.out, ← Ht.out, e]
        · go_roundw
          case rel =>
            have hst : s = t := str_eq (by assumption)
            refine ⟨k + 1, by omega, by go_num, ⟨_, rfl⟩, ?_⟩
            intro j hj
            by_cases e : j = k
            · subst e; rw [Hs.out, Ht.out, hst]
            · exact hcs.out j (by omega)
          case measure => simp [intOf]; omega
      · go_wp2
        go_ret
        refine ⟨ret_bool ?_, _, rfl⟩
        unfold eqS
        symm
        rw [decide_eq_true_iff]
        apply List.ext_getElem (by rw [Hlen.out, Hlen'.out])
        intro j h1 h2
        have := hcs.out j (by rw [Hlen.out] at h1; omega)
        simpa [List.getD_eq_getElem?_getD, h1, h2] using this
  · have hb : ((n : Int) != (n' : Int)) = true := by rw [bne_iff_ne]; omega
    have hb2 : (n != n') = true := by rw [bne_iff_ne]; omega
    go_enter Try.func52, Try.ntmps52
    go_wp2
    go_ret
    refine ⟨ret_bool ?_, 0, rfl⟩
    unfold eqS
    symm
    rw [decide_eq_false_iff_not]
    rintro rfl
    exact hne (Hlen.out.symm.trans Hlen'.out)

set_option maxHeartbeats 400000 in
theorem SameSubs_any (A A' : Option Addr) (n c n' c' : Nat) (ss ts : List ByteArray) (w : World) (h : Strs w w.heap.size A n ss) (h' : Strs w w.heap.size A' n' ts) (hn : n ≤ 1048576) (hn' : n' ≤ 1048576) :
    Calls Try.prog 34 #[.slice A n c, .slice A' n' c'] w fun e w' => e = .returned (.bool (eqS ss ts)) ∧ ∃ q, w' = w.drewN q := by
  have HK := Lib.hid (l02Same_any A A' n c n' c' ss ts w h h' hn hn')
  clear h h'
  generalize eqS ss ts = x at *
  go_enter Try.func34, Try.ntmps34
  go_wp2_with fail
  refine HK.out.mono ?_
  rintro e w1 ⟨rfl, q, rfl⟩
  go_wp2_with fail
  go_ret
  exact ⟨rfl, q, rfl⟩

theorem eqS_len {ss ts : List ByteArray} (h : ss.length ≠ ts.length) : eqS ss ts = false := by
  unfold eqS
  rw [decide_eq_false_iff_not]
  rintro rfl
  exact h rfl

theorem slicesEqual_any (A A' : Option Addr) (n c n' c' : Nat) (ss ts : List ByteArray) (w : World) (h : Strs w w.heap.size A n ss) (h' : Strs w w.heap.size A' n' ts) (hn : n ≤ 1048576) (hn' : n' ≤ 1048576) :
    Calls Try.prog 37 #[.slice A n c, .slice A' n' c'] w fun e w' => e = .returned (.bool (eqS ss ts)) ∧ ∃ q, w' = w.drewN q := by
  by_cases hne : n = n'
  · subst hne
    rcases Nat.eq_zero_or_pos n with h0 | h0
    · subst h0
      have e1 : ss = [] := List.eq_nil_of_length_eq_zero h.1
      have e2 : ts = [] := List.eq_nil_of_length_eq_zero h'.1
      subst e1 e2
      exact (Try.slices_Equal_string_empty A A' c 0 c' w (by omega)).mono fun e w' ⟨he, hw⟩ => ⟨he, 0, hw⟩
    · obtain ⟨b, o, rfl, _, hc⟩ := h.2 h0
      obtain ⟨b', o', rfl, _, hc'⟩ := h'.2 h0
      refine (Try.slices_Equal_string b o n c b' o' n c' ss ts w (by rw [h.1]; omega) (by rw [h'.1]; omega) (by omega) (by omega) (fun j hj => hc j (by rw [← h.1]; exact hj)) (fun j hj => hc' j (by rw [← h'.1]; exact hj))).mono fun e w' ⟨he, hw⟩ => ⟨?_, hw⟩
      rw [he, List.take_of_length_le (by rw [h.1]; omega), List.take_of_length_le (by rw [h'.1]; omega)]; rfl
  · rw [eqS_len (by rw [h.1, h'.1]; exact hne)]
    exact (Try.slices_Equal_string_lens A A' n c n' c' w hne).mono fun e w' ⟨he, hw⟩ => ⟨he, 0, hw⟩

set_option maxHeartbeats 400000 in
theorem sameScreen_any (r c r' c' : Int) (A A' : Option Addr) (n cap n' cap' : Nat) (ss ts : List ByteArray) (w : World) (h : Strs w w.heap.size A n ss) (h' : Strs w w.heap.size A' n' ts) (hn : n ≤ 1048576) (hn' : n' ≤ 1048576) :
    Calls Try.prog 36 #[.agg #[.int .i64 r, .int .i64 c, .slice A n cap], .agg #[.int .i64 r', .int .i64 c', .slice A' n' cap']] w fun e w' => e = .returned (.bool (eqScr r c ss r' c' ts)) ∧ Below w.heap.size w w' := by
  have K := fun W (hW : Strs W W.heap.size A n ss) (hW' : Strs W W.heap.size A' n' ts) => slicesEqual_any A A' n cap n' cap' ss ts W hW hW' hn hn'
  have HK := Lib.hid K
  have Hh := Lib.hid h
  have Hh' := Lib.hid h'
  have hbb : ∀ o o' q, Below w.heap.size w (((w.alloc o).alloc o').drewN q) := fun o o' q => below_drewN ((Below.new w o).later (Below.new _ o')) q
  have HB := Lib.hid hbb
  clear K h h' hbb
  by_cases hr : r = r'
  · by_cases hc : c = c'
    · subst hr hc
      have HE : Hid (eqScr r c ss r c ts = eqS ss ts) := by unfold Hid eqScr; simp
      generalize eqS ss ts = x at *
      go_enter Try.func36, Try.ntmps36
      go_wp2_with fail
      refine (HK.out _ ((Hh.out.alloc _).alloc _) ((Hh'.out.alloc _).alloc _)).mono ?_
      rintro e w1 ⟨rfl, q, rfl⟩
      go_wp2_with fail
      go_ret
      exact ⟨ret_bool HE.out.symm, HB.out _ _ _⟩
    · subst hr
      have HE : Hid (eqScr r c ss r c' ts = false) := by unfold Hid eqScr; simp [hc]
      have hb : (c == c') = false := by rw [beq_eq_false_iff_ne]; exact hc
      clear hc
      go_enter Try.func36, Try.ntmps36
      go_wp2_with fail
      go_ret
      exact ⟨ret_bool HE.out.symm, HB.out _ _ 0⟩
  · have HE : Hid (eqScr r c ss r' c' ts = false) := by unfold Hid eqScr; simp [hr]
    have hb : (r == r') = false := by rw [beq_eq_false_iff_ne]; exact hr
    clear hr
    go_enter Try.func36, Try.ntmps36
    go_wp2_with fail
    go_ret
    exact ⟨ret_bool HE.out.symm, HB.out _ _ 0⟩

theorem str_beq {a b : ByteArray} (h : a ≠ b) : (a.toList == b.toList) = false := by
  have := str_bne h
  simpa using this

set_option maxHeartbeats 1000000 in
theorem sameFile_any (c0 c1 c2 c3 d0 d1 d2 d3 : Value) (a b : FileD) (w : World) (h : FileR w w.heap.size c0 c1 c2 c3 a) (h' : FileR w w.heap.size d0 d1 d2 d3 b) (hn : a.lines.length ≤ 1048576) (hn' : b.lines.length ≤ 1048576) :
    Calls Try.prog 39 #[.agg #[c0, c1, c2, c3], .agg #[d0, d1, d2, d3]] w fun e w' => e = .returned (.bool (eqF a b)) ∧ Below w.heap.size w w' := by
  obtain ⟨rfl, ⟨A, n, cap, rfl, hs⟩, rfl, rfl⟩ := h
  obtain ⟨rfl, ⟨A', n', cap', rfl, hs'⟩, rfl, rfl⟩ := h'
  rw [hs.1] at hn
  rw [hs'.1] at hn'
  have K := fun W (hW : Strs W W.heap.size A n a.lines) (hW' : Strs W W.heap.size A' n' b.lines) => slicesEqual_any A A' n cap n' cap' a.lines b.lines W hW hW' hn hn'
  have HK := Lib.hid K
  have Hh := Lib.hid hs
  have Hh' := Lib.hid hs'
  have hbb : ∀ o o' q, Below w.heap.size w (((w.alloc o).alloc o').drewN q) := fun o o' q => below_drewN ((Below.new w o).later (Below.new _ o')) q
  have HB := Lib.hid hbb
  have hR : eqF a b = eqF a b := rfl
  conv at hR => rhs; unfold eqF
  clear K hs hs' hbb
  generalize eqF a b = R at *
  generalize eqS a.lines b.lines = x at *
  generalize a.name = nm at *
  generalize b.name = nm' at *
  generalize a.part = pt at *
  generalize b.part = pt' at *
  generalize a.at_ = t at *
  generalize b.at_ = t' at *
  by_cases e1 : nm = nm'
  · subst e1
    by_cases e2 : pt = pt'
    · subst e2
      have HE : Hid (R = (x && decide (t = t'))) := by unfold Hid; rw [hR]; simp
      clear hR
      go_enter Try.func39, Try.ntmps39
      go_wp2_with fail
      refine (HK.out _ ((Hh.out.alloc _).alloc _) ((Hh'.out.alloc _).alloc _)).mono ?_
      rintro e w1 ⟨rfl, q, rfl⟩
      cases x
      all_goals
        go_wp2_with fail
        go_ret
        exact ⟨ret_bool (by rw [HE.out]; rfl), HB.out _ _ _⟩
    · have HE : Hid (R = false) := by unfold Hid; rw [hR]; simp [e2]
      have hb := str_beq e2
      clear hR e2
      go_enter Try.func39, Try.ntmps39
      go_wp2_with fail
      refine (HK.out _ ((Hh.out.alloc _).alloc _) ((Hh'.out.alloc _).alloc _)).mono ?_
      rintro e w1 ⟨rfl, q, rfl⟩
      cases x
      all_goals
        go_wp2_with fail
        go_ret
        exact ⟨ret_bool HE.out.symm, HB.out _ _ _⟩
  · have HE : Hid (R = false) := by unfold Hid; rw [hR]; simp [e1]
    have hb := str_beq e1
    clear hR e1
    go_enter Try.func39, Try.ntmps39
    go_wp2_with fail
    go_ret
    exact ⟨ret_bool HE.out.symm, HB.out _ _ 0⟩
end Go.Proofs.Ytjcpocedhaojpaa
