import Derived.Test.YtlicffeicmoifaaGreatDoorZ06
import Derived.Test.YtlicffeicmoifaaGreatDoorZ00
import Derived.Deep.RegionHeld3
set_option linter.unusedSimpArgs false
namespace Go.Proofs.YtlicffeicmoifaaGreatDoor
open Go.RowKit
theorem cell2_0 (w : World) (x y : Value) (t : TypeId) : (w.alloc (.cells #[x, y] t)).cell? ⟨w.heap.size, 0, none⟩ = some x := cell_of_row _ w.heap.size 0 #[x, y] t (0, 0) (heap_alloc_new w _)
theorem cell2_1 (w : World) (x y : Value) (t : TypeId) : (w.alloc (.cells #[x, y] t)).cell? ⟨w.heap.size, 1, none⟩ = some y := cell_of_row _ w.heap.size 1 #[x, y] t (0, 0) (heap_alloc_new w _)
set_option maxHeartbeats 400000 in
theorem compareLocations_any (nm nm' : ByteArray) (A A' : Option Addr) (n c n' c' : Nat) (ss ts : List ByteArray) (w : World) (htab : tabT w) (h : Strs w w.heap.size A n ss) (h' : Strs w w.heap.size A' n' ts) (hn : n ≤ 1048576) (hn' : n' ≤ 1048576)
 (hz : ∀ s ∈ ss, s.size ≤ 1048576) (hz' : ∀ s ∈ ts, s.size ≤ 1048576) :
 Calls Tryz.prog 90 #[.string nm, .slice A n c, .string nm', .slice A' n' c'] w fun e w' => e = .returned (.int .i64 (cmpLoc nm ss nm' ts)) ∧ Below w.heap.size w w' := by
 have HK1 := Lib.hid (cmpS_any nm nm' w)
 have HK2 := Lib.hid (collateLists_any A A' n c n' c' ss ts w htab h h' hn hn' hz hz')
 have HR : Hid (cmpLoc nm ss nm' ts = orI (cmpS nm nm') (colL ss ts)) := rfl
 clear htab h h' hz hz'
 generalize cmpLoc nm ss nm' ts = R at *
 generalize cmpS nm nm' = x at *
 generalize colL ss ts = y at *
 go_enter Tryz.func90, Tryz.ntmps90
 go_wp2_with fail
 refine HK1.out.mono ?_
 rintro e w1 ⟨rfl, rfl⟩
 go_wp2_with fail
 refine HK2.out.mono ?_
 rintro e w1 ⟨rfl, hb1⟩
 have HB1 := Lib.hid hb1
 clear hb1
 go_wp2_with fail
 refine (Or2_any _ x y _ (cell2_0 _ _ _ _) (cell2_1 _ _ _ _)).mono ?_
 rintro e w2 ⟨rfl, rfl⟩
 go_wp2_with fail
 go_ret
 exact ⟨ret_int HR.out.symm, HB1.out.later (Below.new _ _)⟩
theorem eqS_len {ss ts : List ByteArray} (h : ss.length ≠ ts.length) : eqS ss ts = false := by
 unfold eqS
 rw [decide_eq_false_iff_not]
 rintro rfl
 exact h rfl
set_option maxHeartbeats 400000 in
theorem slicesEqual_any (A A' : Option Addr) (n c n' c' : Nat) (ss ts : List ByteArray) (w : World) (h : Strs w w.heap.size A n ss) (h' : Strs w w.heap.size A' n' ts) (hn : n ≤ 1048576) (hn' : n' ≤ 1048576) :
 Calls Tryz.prog 201 #[.slice A n c, .slice A' n' c'] w fun e w' => e = .returned (.bool (eqS ss ts)) ∧ ∃ q, w' = w.drewN q := by
 obtain ⟨hlen, hc⟩ := h
 obtain ⟨hlen', hc'⟩ := h'
 have Hc := Lib.hid hc
 have Hlen := Lib.hid hlen
 have Hc' := Lib.hid hc'
 have Hlen' := Lib.hid hlen'
 clear hc hlen hc' hlen'
 by_cases hne : n = n'
 · subst hne
   have hE := eqS_starts ss ts
   rw [Hlen.out, Hlen'.out] at hE
   have HE : Hid (eqS ss ts = startsB ss ts) := by unfold Hid; rw [← hE]; simp
   clear hE
   go_enter Tryz.func201, Tryz.ntmps201
   go_wp2_with fail
   go_loopw [13] (fun i wr => ∃ (k : Nat), k ≤ n ∧ i = .int .i64 k ∧ (∃ q, wr = w.drewN q) ∧ Hid (startsB ss ts = startsB (ss.drop k) (ts.drop k))) (fun i _ => n - (intOf i).toNat)
   case atStart => exact ⟨0, Nat.zero_le _, rfl, ⟨0, rfl⟩, rfl⟩
   case round =>
    obtain ⟨k, hk, rfl, ⟨q, rfl⟩, hS⟩ := hrel
    by_cases hlt : k < n
    · obtain ⟨b, o, rfl, hb, hcell⟩ := Hc.out (by omega)
      obtain ⟨b', o', rfl, hb', hcell'⟩ := Hc'.out (by omega)
      have hck := hcell k hlt
      have hck' := hcell' k (by omega)
      clear hcell hcell'
      have HS := Lib.hid (startsB_step ss ts k (by rw [Hlen.out]; exact hlt) (by rw [Hlen'.out]; omega))
      generalize ss.getD k ByteArray.empty = s at *
      generalize ts.getD k ByteArray.empty = t at *
      go_wp2_with fail
      go_quiet (fail)
      go_wp2_with fail
      · go_ret
        have hst : s ≠ t := str_ne (by assumption)
        exact ⟨ret_bool (by rw [HE.out, hS.out, HS.out, decide_eq_false hst]; rfl), _, World.drewN_drewN _ _ _⟩
      · go_roundw
        case rel =>
         have hst : s = t := str_eq (by assumption)
         exact ⟨k + 1, by omega, by go_num, ⟨_, rfl⟩, by unfold Hid; rw [hS.out, HS.out, decide_eq_true hst]; rfl⟩
        case measure => simp [intOf]; omega
    · go_wp2_with fail
      go_ret
      exact ⟨ret_bool (by rw [HE.out, hS.out, List.drop_of_length_le (by rw [Hlen.out]; omega), startsB_nil]), _, rfl⟩
 · have HE : Hid (eqS ss ts = false) := eqS_len (by rw [Hlen.out, Hlen'.out]; exact hne)
   have hb : ((n : Int) != (n' : Int)) = true := by rw [bne_iff_ne]; omega
   have hb2 : (n != n') = true := by rw [bne_iff_ne]; omega
   clear hne
   go_enter Tryz.func201, Tryz.ntmps201
   go_wp2_with fail
   go_ret
   exact ⟨ret_bool HE.out.symm, 0, rfl⟩
theorem Strs.take {w : World} {B n : Nat} {A : Option Addr} {ss : List ByteArray} (h : Strs w B A n ss) (m : Nat) (hm : m ≤ n) : Strs w B A m (ss.take m) :=
 ⟨by rw [List.length_take, h.1]; omega, fun hp => by
   obtain ⟨b, o, e, hb, hc⟩ := h.2 (by omega)
   refine ⟨b, o, e, hb, fun j hj => ?_⟩
   rw [hc j (by omega)]
   simp [List.getD_eq_getElem?_getD, hj]⟩
theorem startsB_take : ∀ (a b : List ByteArray), (decide (a.length ≤ b.length) && eqS (b.take a.length) a) = startsB a b
 | [], b => by simp [startsB, eqS]
 | x :: r, [] => by simp [startsB]
 | x :: r, y :: s => by
   have := startsB_take r s
   simp only [startsB, List.length_cons, List.take_succ_cons]
   rw [← this]
   unfold eqS
   by_cases hx : x = y
   · subst hx; simp
   · have hyx : ¬ y = x := fun h => hx h.symm
     simp [hx, hyx]
set_option maxHeartbeats 400000 in
theorem begins_any (A A' : Option Addr) (n c n' c' : Nat) (ss ts : List ByteArray) (w : World) (h : Strs w w.heap.size A n ss) (h' : Strs w w.heap.size A' n' ts) (hn' : n' ≤ 1048576) (hc : n ≤ c) :
 Calls Tryz.prog 108 #[.slice A n c, .slice A' n' c'] w fun e w' => e = .returned (.bool (startsB ts ss)) ∧ ∃ q, w' = w.drewN q := by
 have hE := startsB_take ts ss
 rw [h.1, h'.1] at hE
 by_cases hle : n' ≤ n
 · have HK := Lib.hid (slicesEqual_any A A' n' c n' c' (ss.take n') ts w (h.take n' hle) h' (by omega) hn')
   have HE : Hid (eqS (ss.take n') ts = startsB ts ss) := by unfold Hid; rw [← hE]; simp [hle]
   clear h h' hE
   generalize eqS (ss.take n') ts = x at *
   go_enter Tryz.func108, Tryz.ntmps108
   go_wp2_with fail
   refine HK.out.mono ?_
   rintro e w1 ⟨rfl, q, rfl⟩
   go_wp2_with fail
   go_ret
   exact ⟨ret_bool HE.out, q, rfl⟩
 · have HE : Hid (false = startsB ts ss) := by unfold Hid; rw [← hE]; simp [hle]
   clear h h' hE
   go_enter Tryz.func108, Tryz.ntmps108
   go_wp2_with fail
   go_ret
   exact ⟨ret_bool HE.out, 0, rfl⟩
theorem wayB_swap (nm nm' : ByteArray) (ss ts : List ByteArray) : wayB nm ss nm' ts = (decide (nm = nm') && (startsB ts ss || startsB ss ts)) := by
 unfold wayB; rw [Bool.or_comm]
set_option maxHeartbeats 400000 in
theorem conflict_any (nm nm' : ByteArray) (A A' : Option Addr) (n c n' c' : Nat) (ss ts : List ByteArray) (w : World) (h : Strs w w.heap.size A n ss) (h' : Strs w w.heap.size A' n' ts) (hn : n ≤ 1048576) (hn' : n' ≤ 1048576)
 (hc : n ≤ c) (hc' : n' ≤ c') :
 Calls Tryz.prog 47 #[.string nm, .slice A n c, .string nm', .slice A' n' c'] w fun e w' => e = .returned (.bool (wayB nm ss nm' ts)) ∧ ∃ q, w' = w.drewN q := by
 have HK1 := Lib.hid (begins_any A A' n c n' c' ss ts w h h' hn' hc)
 have HK2 := Lib.hid (fun q => begins_any A' A n' c' n c ts ss (w.drewN q) h' h hn hc')
 have hR := wayB_swap nm nm' ss ts
 generalize wayB nm ss nm' ts = R at *
 clear h h'
 generalize startsB ss ts = x at *
 generalize startsB ts ss = y at *
 by_cases he : nm = nm'
 · subst he
   have HE : Hid (R = (y || x)) := by unfold Hid; rw [hR]; simp
   clear hR
   go_enter Tryz.func47, Tryz.ntmps47
   go_wp2_with fail
   refine HK1.out.mono ?_
   rintro e w1 ⟨rfl, q, rfl⟩
   cases y
   · go_wp2_with fail
     refine (HK2.out _).mono ?_
     rintro e w2 ⟨rfl, q2, rfl⟩
     go_wp2_with fail
     go_ret
     exact ⟨ret_bool (by rw [HE.out]; rfl), _, rfl⟩
   · go_wp2_with fail
     go_ret
     exact ⟨ret_bool (by rw [HE.out]; rfl), _, rfl⟩
 · have HE : Hid (R = false) := by unfold Hid; rw [hR]; simp [he]
   have hb := str_beq he
   clear hR he
   go_enter Tryz.func47, Tryz.ntmps47
   go_wp2_with fail
   go_ret
   exact ⟨ret_bool HE.out.symm, 0, rfl⟩
end Go.Proofs.YtlicffeicmoifaaGreatDoor
namespace Go.Proofs.YtlicffeicmoifaaGreatDoor
open Go.RowKit
set_option maxHeartbeats 1000000 in
theorem l02SubsBefore_any (A A' : Option Addr) (n c n' c' : Nat) (ss ts : List ByteArray) (w : World) (h : Strs w w.heap.size A n ss) (h' : Strs w w.heap.size A' n' ts) (hn : n ≤ 1048576) (hn' : n' ≤ 1048576)
 (hz : ∀ s ∈ ss, s.size ≤ 1048576) (hz' : ∀ s ∈ ts, s.size ≤ 1048576) :
 Calls Tryz.prog 249 #[.slice A n c, .slice A' n' c'] w fun e w' => e = .returned (.bool (lessS ss ts)) ∧ Below w.heap.size w w' := by
 obtain ⟨hlen, hc⟩ := h
 obtain ⟨hlen', hc'⟩ := h'
 have Hc := Lib.hid hc
 have Hlen := Lib.hid hlen
 have Hc' := Lib.hid hc'
 have Hlen' := Lib.hid hlen'
 have Hz := Lib.hid hz
 have Hz' := Lib.hid hz'
 clear hc hlen hc' hlen' hz hz'
 go_enter Tryz.func249, Tryz.ntmps249
 go_wp2_with fail
 go_loopw [5] (fun i wr => ∃ (k : Nat), k ≤ n ∧ k ≤ n' ∧ i = .int .i64 k ∧ (∃ q, wr = w.drewN q) ∧ Hid (lessS ss ts = lessS (ss.drop k) (ts.drop k))) (fun i _ => n - (intOf i).toNat)
 case atStart => exact ⟨0, Nat.zero_le _, Nat.zero_le _, rfl, ⟨0, rfl⟩, rfl⟩
 case round =>
  obtain ⟨k, hk, hk', rfl, ⟨q, rfl⟩, hS⟩ := hrel
  by_cases hlt : k < n
  · by_cases hlt' : k < n'
    · obtain ⟨b, o, rfl, hb, hcell⟩ := Hc.out (by omega)
      obtain ⟨b', o', rfl, hb', hcell'⟩ := Hc'.out (by omega)
      have hck := hcell k hlt
      have hck' := hcell' k hlt'
      clear hcell hcell'
      have HS := Lib.hid (lessS_step ss ts k (by rw [Hlen.out]; exact hlt) (by rw [Hlen'.out]; omega))
      have HK := Lib.hid (fun W => l02Before_any (ss.getD k ByteArray.empty) (ts.getD k ByteArray.empty) W (strs_sz Hz.out k (by rw [Hlen.out]; exact hlt)) (strs_sz Hz'.out k (by rw [Hlen'.out]; exact hlt')))
      generalize ss.getD k ByteArray.empty = s at *
      generalize ts.getD k ByteArray.empty = t at *
      generalize beforeB s t = x at *
      go_wp2_with fail
      go_quiet (fail)
      go_wp2_with fail
      · have hst : s ≠ t := str_ne (by assumption)
        have HF : Hid (lessS ss ts = x) := by unfold Hid; rw [hS.out, HS.out, if_neg hst]
        clear hst
        go_region_held3 (fun w' => w'.cell? ⟨b, o + k, none⟩ = some (.string s) ∧ w'.cell? ⟨b', o' + k, none⟩ = some (.string t)) (first | exact ⟨hck, hck'⟩ | exact ⟨cell_later hb1 hck, cell_later hb1 hck'⟩)
         (first | (go_at_call 300; refine (HK.out _).mono ?_; rintro e w1 ⟨rfl, hb1'⟩; have hb1 := undrewN hb1'; clear hb1'))
        have HB1 := Lib.hid hb1
        clear hb1
        go_wp2_with fail
        go_ret
        exact ⟨ret_bool HF.out.symm, HB1.out⟩
      · go_roundw
        case rel =>
         have hst : s = t := str_eq (by assumption)
         exact ⟨k + 1, by omega, by omega, by go_num, ⟨_, rfl⟩, by unfold Hid; rw [hS.out, HS.out, if_pos hst]⟩
        case measure => simp [intOf]; omega
    · have HF : Hid (lessS ss ts = decide (n < n')) := by
       unfold Hid
       rw [hS.out, lessS_end _ _ (Or.inr (List.drop_of_length_le (by rw [Hlen'.out]; omega))), List.length_drop, List.length_drop, Hlen.out, Hlen'.out]
       rw [Bool.eq_iff_iff]; simp <;> omega
      go_wp2_with fail
      go_ret
      exact ⟨ret_bool HF.out.symm, below_drewN (Below.refl _ _) _⟩
  · have HF : Hid (lessS ss ts = decide (n < n')) := by
     unfold Hid
     rw [hS.out, lessS_end _ _ (Or.inl (List.drop_of_length_le (by rw [Hlen.out]; omega))), List.length_drop, List.length_drop, Hlen.out, Hlen'.out]
     rw [Bool.eq_iff_iff]; simp <;> omega
    go_wp2_with fail
    go_ret
    exact ⟨ret_bool HF.out.symm, below_drewN (Below.refl _ _) _⟩
theorem specSubsBefore_any (A A' : Option Addr) (n c n' c' : Nat) (ss ts : List ByteArray) (w : World) (h : Strs w w.heap.size A n ss) (h' : Strs w w.heap.size A' n' ts) (hn : n ≤ 1048576) (hn' : n' ≤ 1048576)
 (hz : ∀ s ∈ ss, s.size ≤ 1048576) (hz' : ∀ s ∈ ts, s.size ≤ 1048576) :
 Calls Tryz.prog 185 #[.slice A n c, .slice A' n' c'] w fun e w' => e = .returned (.bool (lessS ss ts)) ∧ Below w.heap.size w w' := by
 have HK := Lib.hid (l02SubsBefore_any A A' n c n' c' ss ts w h h' hn hn' hz hz')
 clear h h' hz hz'
 generalize lessS ss ts = x at *
 go_enter Tryz.func185, Tryz.ntmps185
 go_wp2_with fail
 refine HK.out.mono ?_
 rintro e w1 ⟨rfl, hb1⟩
 have HB := Lib.hid hb1
 clear hb1
 go_wp2_with fail
 go_ret
 exact ⟨rfl, HB.out⟩
theorem l03Place_any (nm : ByteArray) (A : Option Addr) (n c : Nat) (ss : List ByteArray) (w : World) (hs : nm.size ≤ 1048576) (h : Strs w w.heap.size A n ss) (hn : n ≤ 1048576) (hz : ∀ s ∈ ss, s.size ≤ 1048576) :
 Calls Tryz.prog 172 #[.string nm, .slice A n c] w fun e w' => e = .returned (.bool (thingB nm ss)) ∧ w = w' := by
 have HK1 := Lib.hid (specNameOk_any nm w hs)
 have HK2 := Lib.hid (specSubsOk_any A n c ss w h hn hz)
 have hR : thingB nm ss = thingB nm ss := rfl
 conv at hR => rhs; unfold thingB
 generalize thingB nm ss = R at *
 clear h hz
 generalize nameB nm = x at *
 generalize subsB ss = y at *
 have HR := Lib.hid hR
 clear hR
 go_enter Tryz.func172, Tryz.ntmps172
 go_wp2_with fail
 refine HK1.out.mono ?_
 rintro e w1 ⟨rfl, rfl⟩
 cases x
 · go_wp2_with fail
   go_ret
   exact ⟨ret_bool (by rw [HR.out]; rfl), rfl⟩
 · go_wp2_with fail
   refine HK2.out.mono ?_
   rintro e w1 ⟨rfl, rfl⟩
   go_wp2_with fail
   go_ret
   exact ⟨ret_bool (by rw [HR.out]; rfl), rfl⟩
def aheadB (n : ByteArray) (s : List ByteArray) (n' : ByteArray) (s' : List ByteArray) : Bool := Op.bytesLess n.toList n'.toList || (decide (n = n') && lessS s s')
set_option maxHeartbeats 1000000 in
theorem l03Less_any (nm nm' : ByteArray) (A A' : Option Addr) (n c n' c' : Nat) (ss ts : List ByteArray) (w : World) (h : Strs w w.heap.size A n ss) (h' : Strs w w.heap.size A' n' ts) (hn : n ≤ 1048576) (hn' : n' ≤ 1048576)
 (hz : ∀ s ∈ ss, s.size ≤ 1048576) (hz' : ∀ s ∈ ts, s.size ≤ 1048576) :
 Calls Tryz.prog 97 #[.string nm, .slice A n c, .string nm', .slice A' n' c'] w fun e w' => e = .returned (.bool (aheadB nm ss nm' ts)) ∧ Below w.heap.size w w' := by
 have HK := Lib.hid (specSubsBefore_any A A' n c n' c' ss ts w h h' hn hn' hz hz')
 have hR : aheadB nm ss nm' ts = (Op.bytesLess nm.toList nm'.toList || (decide (nm = nm') && lessS ss ts)) := rfl
 generalize aheadB nm ss nm' ts = R at *
 clear h h' hz hz'
 generalize lessS ss ts = x at *
 cases hl : Op.bytesLess nm.toList nm'.toList
 · by_cases he : nm = nm'
   · have HE : Hid (R = x) := by unfold Hid; rw [hR, hl]; simp [he]
     subst he
     clear hR
     go_enter Tryz.func97, Tryz.ntmps97
     go_wp2_with fail
     refine HK.out.mono ?_
     rintro e w1 ⟨rfl, hb1⟩
     have HB := Lib.hid hb1
     clear hb1
     go_wp2_with fail
     go_ret
     exact ⟨ret_bool HE.out.symm, HB.out⟩
   · have HE : Hid (R = false) := by unfold Hid; rw [hR, hl]; simp [he]
     have hb := str_beq he
     clear hR he
     go_enter Tryz.func97, Tryz.ntmps97
     go_wp2_with fail
     go_ret
     exact ⟨ret_bool HE.out.symm, Below.refl _ _⟩
 · have HE : Hid (R = true) := by unfold Hid; rw [hR, hl]; rfl
   clear hR
   go_enter Tryz.func97, Tryz.ntmps97
   go_wp2_with fail
   go_ret
   exact ⟨ret_bool HE.out.symm, Below.refl _ _⟩
def nodeB (d : NodeD) : Bool := thingB d.name d.subs && decide (d.val.size ≤ 64)
set_option maxHeartbeats 1000000 in
theorem l03Node_any (c0 c1 c2 : Value) (d : NodeD) (w : World) (h : NodeR w w.heap.size c0 c1 c2 d) (hs : d.small) :
 Calls Tryz.prog 96 #[.agg #[c0, c1, c2]] w fun e w' => e = .returned (.bool (nodeB d)) ∧ Below w.heap.size w w' := by
 obtain ⟨rfl, ⟨A, n, cap, rfl, hS, _⟩, rfl⟩ := h
 obtain ⟨f1, ⟨f2, f3⟩, f4⟩ := hs
 have HK := Lib.hid (fun o => l03Place_any d.name A n cap d.subs (w.alloc o) f1 (hS.later (Below.new _ _)) (by rw [← hS.1]; exact f2) f3)
 have hR : nodeB d = (thingB d.name d.subs && decide (d.val.size ≤ 64)) := rfl
 generalize nodeB d = R at *
 generalize thingB d.name d.subs = x at *
 clear hS f2 f3 f1
 generalize d.val = v at *
 generalize d.name = nm at *
 cases x
 · have HE : Hid (R = false) := by unfold Hid; rw [hR]; rfl
   clear hR
   go_enter Tryz.func96, Tryz.ntmps96
   go_wp2_with fail
   refine (HK.out _).mono ?_
   rintro e w1 ⟨rfl, rfl⟩
   go_wp2_with fail
   go_ret
   exact ⟨ret_bool HE.out.symm, Below.new _ _⟩
 · have HE : Hid (R = decide (v.size ≤ 64)) := by unfold Hid; rw [hR]; rfl
   clear hR
   go_enter Tryz.func96, Tryz.ntmps96
   go_wp2_with fail
   refine (HK.out _).mono ?_
   rintro e w1 ⟨rfl, rfl⟩
   by_cases hv : v.size ≤ 64
   · have HE2 : Hid (R = true) := by unfold Hid; rw [HE.out]; simp [hv]
     go_wp2_with fail
     go_ret
     exact ⟨ret_bool (by rw [HE.out]; first | (simp; done) | (simp; omega) | (rw [Bool.eq_iff_iff]; simp)), Below.new _ _⟩
   · have HE2 : Hid (R = false) := by unfold Hid; rw [HE.out]; simp [hv]
     go_wp2_with fail
     go_ret
     exact ⟨ret_bool (by rw [HE.out]; first | (simp; done) | (simp; omega) | (rw [Bool.eq_iff_iff]; simp)), Below.new _ _⟩
end Go.Proofs.YtlicffeicmoifaaGreatDoor
