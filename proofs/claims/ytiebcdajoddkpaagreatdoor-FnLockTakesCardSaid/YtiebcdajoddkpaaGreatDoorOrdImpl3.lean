/-
  What compareLocations, begins, conflict and compareLocks of the program compute.
-/
import Derived.Test.YtiebcdajoddkpaaGreatDoorOrdImpl2
import Derived.Test.YtiebcdajoddkpaaGreatDoorLk2
namespace Go.Proofs.YtiebcdajoddkpaaGreatDoor
open Go.RowKit

theorem cell2_0 (w : World) (x y : Value) (t : TypeId) : (w.alloc (.cells #[x, y] t)).cell? ⟨w.heap.size, 0, none⟩ = some x := cell_of_row _ w.heap.size 0 #[x, y] t (0, 0) (heap_alloc_new w _)
theorem cell2_1 (w : World) (x y : Value) (t : TypeId) : (w.alloc (.cells #[x, y] t)).cell? ⟨w.heap.size, 1, none⟩ = some y := cell_of_row _ w.heap.size 1 #[x, y] t (0, 0) (heap_alloc_new w _)

set_option maxHeartbeats 400000 in
theorem compareLocations_any (nm nm' : ByteArray) (A A' : Option Addr) (n c n' c' : Nat) (ss ts : List ByteArray) (w : World) (htab : tabT w) (h : Strs w w.heap.size A n ss) (h' : Strs w w.heap.size A' n' ts) (hn : n ≤ 1048576) (hn' : n' ≤ 1048576)
    (hz : ∀ s ∈ ss, s.size ≤ 1048576) (hz' : ∀ s ∈ ts, s.size ≤ 1048576) :
    Calls Tryz.prog 130 #[.string nm, .slice A n c, .string nm', .slice A' n' c'] w fun e w' => e = .returned (.int .i64 (cmpLoc nm ss nm' ts)) ∧ Below w.heap.size w w' := by
  have HK1 := Lib.hid (cmpS_any nm nm' w)
  have HK2 := Lib.hid (collateLists_any A A' n c n' c' ss ts w htab h h' hn hn' hz hz')
  have HR : Hid (cmpLoc nm ss nm' ts = orI (cmpS nm nm') (colL ss ts)) := rfl
  clear htab h h' hz hz'
  generalize cmpLoc nm ss nm' ts = R at *
  generalize cmpS nm nm' = x at *
  generalize colL ss ts = y at *
  go_enter Tryz.func130, Tryz.ntmps130
  go_wp2_with fail
  refine HK1.out.mono ?_
  rintro e w1 ⟨rfl, rfl⟩
  go_wp2_with fail
  refine HK2.out.mono ?_
  rintro e w1 ⟨rfl, hb1⟩
  have HB1 := Lib.hid hb1
  clear hb1
  go_wp2_with fail
  refine (Or2_any _ x y _ (cell2_0 _ _ _ _) (cell2_1 _ _ _ _)).mono ?_
  rintro e w2 ⟨rfl, rfl⟩
  go_wp2_with fail
  go_ret
  exact ⟨ret_int HR.out.symm, HB1.out.later (Below.new _ _)⟩

theorem eqS_len {ss ts : List ByteArray} (h : ss.length ≠ ts.length) : eqS ss ts = false := by
  unfold eqS
  rw [decide_eq_false_iff_not]
  rintro rfl
  exact h rfl
set_option maxHeartbeats 400000 in
theorem slicesEqual_any (A A' : Option Addr) (n c n' c' : Nat) (ss ts : List ByteArray) (w : World) (h : Strs w w.heap.size A n ss) (h' : Strs w w.heap.size A' n' ts) (hn : n ≤ 1048576) (hn' : n' ≤ 1048576) :
    Calls Tryz.prog 153 #[.slice A n c, .slice A' n' c'] w fun e w' => e = .returned (.bool (eqS ss ts)) ∧ ∃ q, w' = w.drewN q := by
  obtain ⟨hlen, hc⟩ := h
  obtain ⟨hlen', hc'⟩ := h'
  have Hc := Lib.hid hc
  have Hlen := Lib.hid hlen
  have Hc' := Lib.hid hc'
  have Hlen' := Lib.hid hlen'
  clear hc hlen hc' hlen'
  by_cases hne : n = n'
  · subst hne
    have hE := eqS_starts ss ts
    rw [Hlen.out, Hlen'.out] at hE
    have HE : Hid (eqS ss ts = startsB ss ts) := by unfold Hid; rw [← hE]; simp
    clear hE
    go_enter Tryz.func153, Tryz.ntmps153
    go_wp2_with fail
    go_loopw [13] (fun i wr => ∃ (k : Nat), k ≤ n ∧ i = .int .i64 k ∧ (∃ q, wr = w.drewN q) ∧ Hid (startsB ss ts = startsB (ss.drop k) (ts.drop k))) (fun i _ => n - (intOf i).toNat)
    case atStart => exact ⟨0, Nat.zero_le _, rfl, ⟨0, rfl⟩, rfl⟩
    case round =>
      obtain ⟨k, hk, rfl, ⟨q, rfl⟩, hS⟩ := hrel
      by_cases hlt : k < n
      · obtain ⟨b, o, rfl, hb, hcell⟩ := Hc.out (by omega)
        obtain ⟨b', o', rfl, hb', hcell'⟩ := Hc'.out (by omega)
        have hck := hcell k hlt
        have hck' := hcell' k (by omega)
        clear hcell hcell'
        have HS := Lib.hid (startsB_step ss ts k (by rw [Hlen.out]; exact hlt) (by rw [Hlen'.out]; omega))
        generalize ss.getD k ByteArray.empty = s at *
        generalize ts.getD k ByteArray.empty = t at *
        go_wp2_with fail
        go_quiet (fail)
        go_wp2_with fail
        · go_ret
          have hst : s ≠ t := str_ne (by assumption)
          exact ⟨ret_bool (by rw [HE.out, hS.out, HS.out, decide_eq_false hst]; rfl), _, World.drewN_drewN _ _ _⟩
        · go_roundw
          case rel =>
            have hst : s = t := str_eq (by assumption)
            exact ⟨k + 1, by omega, by go_num, ⟨_, rfl⟩, by unfold Hid; rw [hS.out, HS.out, decide_eq_true hst]; rfl⟩
          case measure => simp [intOf]; omega
      · go_wp2_with fail
        go_ret
        exact ⟨ret_bool (by rw [HE.out, hS.out, List.drop_of_length_le (by rw [Hlen.out]; omega), startsB_nil]), _, rfl⟩
  · have HE : Hid (eqS ss ts = false) := eqS_len (by rw [Hlen.out, Hlen'.out]; exact hne)
    have hb : ((n : Int) != (n' : Int)) = true := by rw [bne_iff_ne]; omega
    have hb2 : (n != n') = true := by rw [bne_iff_ne]; omega
    clear hne
    go_enter Tryz.func153, Tryz.ntmps153
    go_wp2_with fail
    go_ret
    exact ⟨ret_bool HE.out.symm, 0, rfl⟩

theorem Strs.take {w : World} {B n : Nat} {A : Option Addr} {ss : List ByteArray} (h : Strs w B A n ss) (m : Nat) (hm : m ≤ n) : Strs w B A m (ss.take m) :=
  ⟨by rw [List.length_take, h.1]; omega, fun hp => by
    obtain ⟨b, o, e, hb, hc⟩ := h.2 (by omega)
    refine ⟨b, o, e, hb, fun j hj => ?_⟩
    rw [hc j (by omega)]
    simp [List.getD_eq_getElem?_getD, hj]⟩
theorem startsB_take : ∀ (a b : List ByteArray), (decide (a.length ≤ b.length) && eqS (b.take a.length) a) = startsB a b
  | [], b => by simp [startsB, eqS]
  | x :: r, [] => by simp [startsB]
  | x :: r, y :: s => by
    have := startsB_take r s
    simp only [startsB, List.length_cons, List.take_succ_cons]
    rw [← this]
    unfold eqS
    by_cases hx : x = y
    · subst hx; simp
    · have hyx : ¬ y = x := fun h => hx h.symm
      simp [hx, hyx]

set_option maxHeartbeats 400000 in
theorem begins_any (A A' : Option Addr) (n c n' c' : Nat) (ss ts : List ByteArray) (w : World) (h : Strs w w.heap.size A n ss) (h' : Strs w w.heap.size A' n' ts) (hn' : n' ≤ 1048576) (hc : n ≤ c) :
    Calls Tryz.prog 139 #[.slice A n c, .slice A' n' c'] w fun e w' => e = .returned (.bool (startsB ts ss)) ∧ ∃ q, w' = w.drewN q := by
  have hE := startsB_take ts ss
  rw [h.1, h'.1] at hE
  by_cases hle : n' ≤ n
  · have HK := Lib.hid (slicesEqual_any A A' n' c n' c' (ss.take n') ts w (h.take n' hle) h' (by omega) hn')
    have HE : Hid (eqS (ss.take n') ts = startsB ts ss) := by unfold Hid; rw [← hE]; simp [hle]
    clear h h' hE
    generalize eqS (ss.take n') ts = x at *
    go_enter Tryz.func139, Tryz.ntmps139
    go_wp2_with fail
    refine HK.out.mono ?_
    rintro e w1 ⟨rfl, q, rfl⟩
    go_wp2_with fail
    go_ret
    exact ⟨ret_bool HE.out, q, rfl⟩
  · have HE : Hid (false = startsB ts ss) := by unfold Hid; rw [← hE]; simp [hle]
    clear h h' hE
    go_enter Tryz.func139, Tryz.ntmps139
    go_wp2_with fail
    go_ret
    exact ⟨ret_bool HE.out, 0, rfl⟩

theorem wayB_swap (nm nm' : ByteArray) (ss ts : List ByteArray) : wayB nm ss nm' ts = (decide (nm = nm') && (startsB ts ss || startsB ss ts)) := by
  unfold wayB; rw [Bool.or_comm]
set_option maxHeartbeats 400000 in
theorem conflict_any (nm nm' : ByteArray) (A A' : Option Addr) (n c n' c' : Nat) (ss ts : List ByteArray) (w : World) (h : Strs w w.heap.size A n ss) (h' : Strs w w.heap.size A' n' ts) (hn : n ≤ 1048576) (hn' : n' ≤ 1048576)
    (hc : n ≤ c) (hc' : n' ≤ c') :
    Calls Tryz.prog 121 #[.string nm, .slice A n c, .string nm', .slice A' n' c'] w fun e w' => e = .returned (.bool (wayB nm ss nm' ts)) ∧ ∃ q, w' = w.drewN q := by
  have HK1 := Lib.hid (begins_any A A' n c n' c' ss ts w h h' hn' hc)
  have HK2 := Lib.hid (fun q => begins_any A' A n' c' n c ts ss (w.drewN q) h' h hn hc')
  have hR := wayB_swap nm nm' ss ts
  generalize wayB nm ss nm' ts = R at *
  clear h h'
  generalize startsB ss ts = x at *
  generalize startsB ts ss = y at *
  by_cases he : nm = nm'
  · subst he
    have HE : Hid (R = (y || x)) := by unfold Hid; rw [hR]; simp
    clear hR
    go_enter Tryz.func121, Tryz.ntmps121
    go_wp2_with fail
    refine HK1.out.mono ?_
    rintro e w1 ⟨rfl, q, rfl⟩
    cases y
    · go_wp2_with fail
      refine (HK2.out _).mono ?_
      rintro e w2 ⟨rfl, q2, rfl⟩
      go_wp2_with fail
      go_ret
      exact ⟨ret_bool (by rw [HE.out]; rfl), _, rfl⟩
    · go_wp2_with fail
      go_ret
      exact ⟨ret_bool (by rw [HE.out]; rfl), _, rfl⟩
  · have HE : Hid (R = false) := by unfold Hid; rw [hR]; simp [he]
    have hb := str_beq he
    clear hR he
    go_enter Tryz.func121, Tryz.ntmps121
    go_wp2_with fail
    go_ret
    exact ⟨ret_bool HE.out.symm, 0, rfl⟩

def cmpIt (x y : ItD) : Int := orI (cmpI x.a y.a) (cmpLoc x.name x.subs y.name y.subs)

set_option maxHeartbeats 1000000 in
theorem compareLocks_any (c0 c1 c2 c3 d0 d1 d2 d3 : Value) (x y : ItD) (w : World) (htab : tabT w) (h : ItR w w.heap.size c0 c1 c2 c3 x) (h' : ItR w w.heap.size d0 d1 d2 d3 y) (hs : x.small) (hs' : y.small) :
    Calls Tryz.prog 105 #[.agg #[c0, c1, c2, c3], .agg #[d0, d1, d2, d3]] w fun e w' => e = .returned (.int .i64 (cmpIt x y)) ∧ Below w.heap.size w w' := by
  obtain ⟨rfl, rfl, rfl, A, n, cap, rfl, h3, _⟩ := h
  obtain ⟨rfl, rfl, rfl, A', n', cap', rfl, h3', _⟩ := h'
  have hn : n ≤ 1048576 := by rw [← h3.1]; exact hs.2.1
  have hn' : n' ≤ 1048576 := by rw [← h3'.1]; exact hs'.2.1
  have HK1 := Lib.hid (cmpI_any x.a y.a)
  have HK2 := Lib.hid (fun W (hW : Below w.heap.size w W) => compareLocations_any x.name y.name A A' n cap n' cap' x.subs y.subs W (tab_later htab hW) (h3.later hW) (h3'.later hW) hn hn' hs.2.2 hs'.2.2)
  have HR : Hid (cmpIt x y = orI (cmpI x.a y.a) (cmpLoc x.name x.subs y.name y.subs)) := rfl
  clear htab h3 h3' hs hs'
  generalize cmpIt x y = R at *
  generalize cmpI x.a y.a = p at *
  generalize cmpLoc x.name x.subs y.name y.subs = q at *
  go_enter Tryz.func105, Tryz.ntmps105
  go_wp2_with fail
  have k0 := (show Blk _ _ _ _ from heap_two0 w (.cells #[.int .i64 x.a, .int .i64 x.b, .string x.name, .slice A n cap] 37) (.cells #[.int .i64 y.a, .int .i64 y.b, .string y.name, .slice A' n' cap'] 37)).cell
  have k1 := (show Blk _ _ _ _ from heap_two1 w (.cells #[.int .i64 x.a, .int .i64 x.b, .string x.name, .slice A n cap] 37) (.cells #[.int .i64 y.a, .int .i64 y.b, .string y.name, .slice A' n' cap'] 37)).cell
  have a0 := k0 0
  have a2 := k0 2
  have a3 := k0 3
  have b0 := k1 0
  have b2 := k1 2
  have b3 := k1 3
  clear k0 k1
  generalize hW : (w.alloc (.cells #[.int .i64 x.a, .int .i64 x.b, .string x.name, .slice A n cap] 37)).alloc (.cells #[.int .i64 y.a, .int .i64 y.b, .string y.name, .slice A' n' cap'] 37) = W at *
  have HBW : Hid (Below w.heap.size w W) := by unfold Hid; rw [← hW]; exact (Below.new _ _).later (Below.new _ _)
  have HW := Lib.hid hW
  clear hW
  go_region_held3 (fun w' => w'.cell? ⟨w.heap.size, 0, none⟩ = some (.int .i64 x.a) ∧ w'.cell? ⟨w.heap.size, 2, none⟩ = some (.string x.name) ∧ w'.cell? ⟨w.heap.size, 3, none⟩ = some (.slice A n cap) ∧ w'.cell? ⟨w.heap.size + 1, 0, none⟩ = some (.int .i64 y.a) ∧ w'.cell? ⟨w.heap.size + 1, 2, none⟩ = some (.string y.name) ∧ w'.cell? ⟨w.heap.size + 1, 3, none⟩ = some (.slice A' n' cap')) (first | exact ⟨a0, a2, a3, b0, b2, b3⟩ | exact ⟨cell_later hb2 a0, cell_later hb2 a2, cell_later hb2 a3, cell_later hb2 b0, cell_later hb2 b2, cell_later hb2 b3⟩ | exact ⟨cell_later (hb2.later (Below.new _ _)) a0, cell_later (hb2.later (Below.new _ _)) a2, cell_later (hb2.later (Below.new _ _)) a3, cell_later (hb2.later (Below.new _ _)) b0, cell_later (hb2.later (Below.new _ _)) b2, cell_later (hb2.later (Below.new _ _)) b3⟩)
    (first
      | (go_at_call 129; refine (HK1.out _).mono ?_; rintro e w1 ⟨rfl, rfl⟩)
      | (go_at_call 130; refine (HK2.out _ (by exact HBW.out.drew)).mono ?_; rintro e w2 ⟨rfl, hb2'⟩; have hb2 := undrew hb2'; clear hb2')
      | (go_at_call 128; refine (Or2_any _ p q _ (cell2_0 _ _ _ _) (cell2_1 _ _ _ _)).mono ?_; rintro e w3 ⟨rfl, rfl⟩))
  have HB2 := Lib.hid (HBW.out.later hb2)
  clear hb2
  go_wp2_with fail
  go_ret
  exact ⟨ret_int HR.out.symm, HB2.out.later (Below.new _ _)⟩
end Go.Proofs.YtiebcdajoddkpaaGreatDoor
