/-
  What toLock, toLockS, toAsk, toAskS and toLocks make: copies in memory of their own. (Printed by gen_lwto.py.)
-/
import Derived.Test.YtiebcdajoddkpaaGreatDoorLkI5
import Derived.Test.YtiebcdajoddkpaaGreatDoorLk6
namespace Go.Proofs.YtiebcdajoddkpaaGreatDoor
open Go.RowKit

theorem sub_of_blk {w : World} {g base : Nat} {ss : List ByteArray} (h : Blk w g 9 (strArr ss)) (hb : base ≤ g) (hm : ss.length ≤ maxLen) : SubO w base (.slice (some ⟨g, 0, none⟩) ss.length ss.length) ss :=
  ⟨by simp, .inr ⟨g, _, strArr ss, rfl, hb, h, Nat.le_refl _, hm, by simp [strArr], by simp [strArr, List.take_of_length_le]⟩⟩
theorem sub_far {w : World} {base g i : Nat} {v u : Value} {ss : List ByteArray} (h : SubO w base v ss) (hg : g < base) : SubO (w.setCell ⟨g, i, none⟩ u) base v ss :=
  World.ownsRow.kept h (row := some g) (grown_set _ _ _ _) (by
    cases hv : v.ownBlock with
    | none => exact .inl rfl
    | some b =>
      refine .inr ?_
      intro e
      have h1 := (World.ownsRow.lt h b hv).1
      have h2 : b = g := by simpa using e
      omega)
theorem take_set4 (cs : Array Value) (k : Nat) (a b c d : Value) (h : k * 4 + 3 < cs.size) :
    ((((cs.setIfInBounds (k * 4) a).setIfInBounds (k * 4 + 1) b).setIfInBounds (k * 4 + 2) c).setIfInBounds (k * 4 + 3) d).toList.take ((k + 1) * 4) = cs.toList.take (k * 4) ++ [a, b, c, d] := by
  apply List.ext_getElem?
  intro i
  rw [List.getElem?_take, List.getElem?_append]
  simp only [Array.getElem?_toList, Array.getElem?_setIfInBounds, Array.size_setIfInBounds, List.length_take, Array.length_toList]
  rw [Nat.min_eq_left (show k * 4 ≤ cs.size by omega), List.getElem?_take]
  by_cases h1 : i < k * 4
  · rw [if_pos (by omega), if_neg (by omega), if_neg (by omega), if_neg (by omega), if_neg (by omega), if_pos h1, if_pos h1, Array.getElem?_toList]
  · rw [if_neg h1]
    by_cases h2 : i < (k + 1) * 4
    · rw [if_pos h2]
      have h3 : i = k * 4 ∨ i = k * 4 + 1 ∨ i = k * 4 + 2 ∨ i = k * 4 + 3 := by omega
      rcases h3 with rfl | rfl | rfl | rfl
      · rw [if_neg (by omega), if_neg (by omega), if_neg (by omega), if_pos rfl, if_pos (by omega), show k * 4 - k * 4 = 0 by omega]; rfl
      · rw [if_neg (by omega), if_neg (by omega), if_pos rfl, if_pos (by omega), show k * 4 + 1 - k * 4 = 1 by omega]; rfl
      · rw [if_neg (by omega), if_pos rfl, if_pos (by omega), show k * 4 + 2 - k * 4 = 2 by omega]; rfl
      · rw [if_pos rfl, if_pos (by omega), show k * 4 + 3 - k * 4 = 3 by omega]; rfl
    · rw [if_neg h2, List.getElem?_eq_none (by simp; omega)]
theorem below_set4 {w V : World} {B g : Nat} (h : Below B w V) (hg : B ≤ g) (i0 i1 i2 i3 : Nat) (a b c d : Value) : Below B w ((((V.setCell ⟨g, i0, none⟩ a).setCell ⟨g, i1, none⟩ b).setCell ⟨g, i2, none⟩ c).setCell ⟨g, i3, none⟩ d) :=
  (((h.setCell (p := ⟨g, i0, none⟩) hg a).setCell (p := ⟨g, i1, none⟩) hg b).setCell (p := ⟨g, i2, none⟩) hg c).setCell (p := ⟨g, i3, none⟩) hg d
/-- The items laid so far. -/
structure LaidI (w : World) (g : Nat) (t : TypeId) (n : Nat) (fs : List ItD) (k : Nat) (cs : Array Value) (vs : List Value) : Prop where
  blk : Blk w g t cs
  size : cs.size = n * 4
  vlen : vs.length = k
  row : cs.toList.take (k * 4) = flat (fs.take k) vs
  subs : ∀ j, j < k → SubO w (g + 1) (vs.getD j (.slice none 0 0)) (fs.getD j default).subs
  aprt : vs.Pairwise apart
theorem LaidI.later {w w' : World} {g t n k : Nat} {fs : List ItD} {cs : Array Value} {vs : List Value} (h : LaidI w g t n fs k cs vs) (hb : Below w.heap.size w w') : LaidI w' g t n fs k cs vs :=
  ⟨h.blk.later hb h.blk.lt, h.size, h.vlen, h.row, fun j hj => own_later (h.subs j hj) hb, h.aprt⟩
theorem LaidI.snoc {w w1 : World} {g t n k : Nat} {fs : List ItD} {cs : Array Value} {vs : List Value} {v : Value} {d : ItD} (h : LaidI w g t n fs k cs vs) (hb : Below w.heap.size w w1) (hl : fs.length = n) (hk : k < n) (hd : fs.getD k default = d) (hs : SubO w1 w.heap.size v d.subs) :
    LaidI ((((w1.setCell ⟨g, k * 4, none⟩ (.int .i64 d.a)).setCell ⟨g, k * 4 + 1, none⟩ (.int .i64 d.b)).setCell ⟨g, k * 4 + 2, none⟩ (.string d.name)).setCell ⟨g, k * 4 + 3, none⟩ v) g t n fs (k + 1)
      ((((cs.setIfInBounds (k * 4) (.int .i64 d.a)).setIfInBounds (k * 4 + 1) (.int .i64 d.b)).setIfInBounds (k * 4 + 2) (.string d.name)).setIfInBounds (k * 4 + 3) v) (vs ++ [v]) := by
  have h1 := h.later hb
  have hz := h.size
  have hlt := h.blk.lt
  have hs4 : ∀ {v' : Value} {ss : List ByteArray}, SubO w1 (g + 1) v' ss → SubO ((((w1.setCell ⟨g, k * 4, none⟩ (.int .i64 d.a)).setCell ⟨g, k * 4 + 1, none⟩ (.int .i64 d.b)).setCell ⟨g, k * 4 + 2, none⟩ (.string d.name)).setCell ⟨g, k * 4 + 3, none⟩ v) (g + 1) v' ss :=
    fun hx => sub_far (sub_far (sub_far (sub_far hx (by omega)) (by omega)) (by omega)) (by omega)
  refine ⟨(((h1.blk.set_ _ _).set_ _ _).set_ _ _).set_ _ _, by simp [hz], by simp [h.vlen], ?_, fun j hj => ?_, ?_⟩
  · rw [take_set4 cs k _ _ _ _ (by omega), h.row, List.take_succ_eq_append_getElem (by omega), flat_append _ _ _ _ (by rw [h.vlen, List.length_take]; omega)]
    rw [List.getD_eq_getElem?_getD, List.getElem?_eq_getElem (by omega)] at hd
    simp only [Option.getD_some] at hd
    rw [hd]
    rfl
  · by_cases e : j = k
    · subst e
      rw [hd, List.getD_eq_getElem?_getD, List.getElem?_append_right (by rw [h.vlen]; exact Nat.le_refl _), h.vlen, Nat.sub_self]
      exact hs4 (own_base hs (by omega))
    · rw [List.getD_eq_getElem?_getD, List.getElem?_append_left (by rw [h.vlen]; omega), ← List.getD_eq_getElem?_getD]
      exact hs4 (h1.subs j (by omega))
  · rw [List.pairwise_append]
    refine ⟨h.aprt, List.pairwise_singleton _ _, fun a ha b hb' => ?_⟩
    rw [List.mem_singleton.1 hb']
    obtain ⟨j, hj, rfl⟩ := mem_getD ha
    exact apart_new (h.subs j (by rw [← h.vlen]; exact hj)) hs (Nat.le_refl _)
theorem LaidI.own {w : World} {g t : Nat} {fs : List ItD} {cs : Array Value} {vs : List Value} (h : LaidI w g t fs.length fs fs.length cs vs) (hm : fs.length ≤ maxLen) : OwnIts w g t (.slice (some ⟨g, 0, none⟩) fs.length fs.length) fs vs := by
  refine ⟨h.vlen, ⟨flat_len _ _ h.vlen, .inr ⟨g, fs.length, cs, rfl, Nat.le_refl _, h.blk, Nat.le_refl _, hm, h.size, ?_⟩⟩, fun j hj => own_base (h.subs j hj) (by omega), h.aprt⟩
  rw [h.row, List.take_of_length_le (Nat.le_refl _)]

set_option maxHeartbeats 400000 in
theorem toLock_any (c0 c1 c2 c3 : Value) (d : ItD) (w : World) (h : ItR w w.heap.size c0 c1 c2 c3 d) (hn : d.subs.length ≤ 1048576) :
    Calls Tryz.prog 110 #[.agg #[c0, c1, c2, c3]] w fun e w' => ∃ v, e = .returned (.agg #[.int .i64 d.a, .int .i64 d.b, .string d.name, v]) ∧ SubO w' w.heap.size v d.subs ∧ Below w.heap.size w w' := by
  obtain ⟨rfl, rfl, rfl, A, n, cap, rfl, hs, _⟩ := h
  obtain rfl : d.subs.length = n := hs.1
  have HK := Lib.hid (fun W (hW : Strs W W.heap.size A d.subs.length d.subs) => toStringS_any A d.subs.length cap d.subs W hW hn)
  have Hh := Lib.hid hs
  have HM : Hid (d.subs.length ≤ maxLen) := by unfold Hid maxLen; omega
  have HS := Lib.hid (fun W => sub_of_blk (w := W) (ss := d.subs) (g := w.heap.size + 1 + 1 + 1) (base := w.heap.size))
  clear hs hn
  generalize hN : d.subs.length = n at *
  have HN := Lib.hid hN
  clear hN
  go_enter Tryz.func110, Tryz.ntmps110
  go_wp2_with fail
  refine (HK.out _ (((Hh.out.later (Below.new _ _)).later (Below.new _ _)).later (Below.new _ _))).mono ?_
  rintro e w1 ⟨rfl, rfl⟩
  go_wp2_with fail
  refine bodyPost_ret (v := .agg #[.int .i64 d.a, .int .i64 d.b, .string d.name, .slice (some ⟨w.heap.size + 1 + 1 + 1, 0, none⟩) n n]) (by simp [results, Tryz.results110, go_sem]) rfl ⟨_, rfl, ?_, ?_⟩
  · exact HS.out _ (heap_last (by simp)) (by omega) HM.out
  · exact ((((Below.refl _ _).alloc (Nat.le_refl _) _).alloc (by simp) _).alloc (by simp; omega) _).alloc (by simp; omega) _

set_option maxHeartbeats 1000000 in
theorem toLockS_any (A : Option Addr) (n c : Nat) (fs : List ItD) (w : World) (h : Its w w.heap.size A n fs) (hs : smalls fs) :
    Calls Tryz.prog 67 #[.slice A n c] w (OwnPost w.heap.size 37 fs w) := by
  have Hh := Lib.hid h
  have Hlen := Lib.hid h.1
  have Hf := Lib.hid hs.2
  have hn : n ≤ 1048576 := by rw [← h.1]; exact hs.1
  clear h hs
  obtain ⟨i0, hi, hz0, hz1, hz2⟩ := info_parts infoLock
  have hmk := fun W => run_make_rowN (P := Tryz.prog) 24 37 i0 _ Tryz.underlying24 hi hz0 .i64 .i64 n n (Nat.le_refl _) (by rw [hz2]; omega) (by omega) W
  simp only [hz1] at hmk
  clear hz0 hz1 hz2 hi
  go_enter Tryz.func67, Tryz.ntmps67
  go_wp2_with fail
  clear hmk
  go_loopw [4] (fun i wr => ∃ (k : Nat) (cs : Array Value) (vs : List Value), k ≤ n ∧ i = .int .i64 k ∧ Below w.heap.size w wr ∧ LaidI wr w.heap.size 37 n fs k cs vs) (fun i _ => n - (intOf i).toNat)
  case atStart => exact ⟨0, _, [], Nat.zero_le _, rfl, Below.new _ _, heap_alloc_new _ _, size_madeCells _ _, rfl, by simp [flat], fun j hj => absurd hj (by omega), List.Pairwise.nil⟩
  case round =>
    obtain ⟨k, cs, vs, hk, rfl, hb, hlaid⟩ := hrel
    have HB := Lib.hid hb
    have HL := Lib.hid hlaid
    clear hb hlaid
    by_cases hlt : k < n
    · obtain ⟨b, o, rfl, hbB, hc⟩ := (Hh.out.later HB.out).2 (by omega)
      obtain ⟨c0, c1, c2, c3, k0, k1, k2, k3, hr⟩ := hc k hlt
      clear hc
      have hl' : k < fs.length := by rw [Hlen.out]; exact hlt
      have HC := Lib.hid (toLock_any c0 c1 c2 c3 (fs.getD k default) wr hr (Hf.out _ (getD_mem fs k hl')).2.1)
      clear hl' hr
      generalize hd : fs.getD k default = d at *
      have HD := Lib.hid hd
      clear hd
      go_wp2_with fail
      refine (HC.out).mono ?_
      rintro e w1 ⟨v, rfl, hsub, hb1⟩
      obtain ⟨A2, cap2, rfl, _⟩ := own_slice hsub
      have HB1 := Lib.hid (HB.out.later hb1)
      have HL1 := Lib.hid (HL.out.snoc hb1 Hlen.out hlt HD.out hsub)
      have hblk := (HL.out.later hb1).blk
      have hs4 : k * 4 + 3 < cs.size := by have := HL.out.size; omega
      have x0 := (hblk.cell (k * 4)).trans (Array.getElem?_eq_getElem (show k * 4 < cs.size by omega))
      have x1 := (hblk.cell (k * 4 + 1)).trans (Array.getElem?_eq_getElem (show k * 4 + 1 < cs.size by omega))
      have x2 := (hblk.cell (k * 4 + 2)).trans (Array.getElem?_eq_getElem (show k * 4 + 2 < cs.size by omega))
      have x3 := (hblk.cell (k * 4 + 3)).trans (Array.getElem?_eq_getElem (show k * 4 + 3 < cs.size by omega))
      have y0 := hblk.frozen (k * 4)
      have y1 := hblk.frozen (k * 4 + 1)
      have y2 := hblk.frozen (k * 4 + 2)
      have y3 := hblk.frozen (k * 4 + 3)
      have HW := Lib.hid (below_set4 HB1.out (Nat.le_refl _) (k * 4) (k * 4 + 1) (k * 4 + 2) (k * 4 + 3) (.int .i64 d.a) (.int .i64 d.b) (.string d.name) (.slice A2 d.subs.length cap2))
      clear hb1 hsub hblk
      generalize cs[k * 4] = v0 at *
      generalize cs[k * 4 + 1] = v1 at *
      generalize cs[k * 4 + 2] = v2 at *
      generalize cs[k * 4 + 3] = v3 at *
      go_wp2_with fail
      go_roundw
      case rel => exact ⟨k + 1, _, _, by omega, by go_num, HW.out, HL1.out⟩
      case measure => simp [intOf]; omega
    · obtain rfl : k = n := by omega
      have HM : Hid (k ≤ maxLen) := by unfold Hid maxLen; omega
      go_wp2_with fail
      go_ret
      refine ⟨_, vs, rfl, ?_, HB.out⟩
      have hx := HL.out
      have hl := Hlen.out
      subst hl
      exact hx.own HM.out

set_option maxHeartbeats 400000 in
theorem toAsk_any (c0 c1 c2 c3 : Value) (d : ItD) (w : World) (h : ItR w w.heap.size c0 c1 c2 c3 d) (hn : d.subs.length ≤ 1048576) :
    Calls Tryz.prog 111 #[.agg #[c0, c1, c2, c3]] w fun e w' => ∃ v, e = .returned (.agg #[.int .i64 d.a, .int .i64 d.b, .string d.name, v]) ∧ SubO w' w.heap.size v d.subs ∧ Below w.heap.size w w' := by
  obtain ⟨rfl, rfl, rfl, A, n, cap, rfl, hs, _⟩ := h
  obtain rfl : d.subs.length = n := hs.1
  have HK := Lib.hid (fun W (hW : Strs W W.heap.size A d.subs.length d.subs) => toStringS_any A d.subs.length cap d.subs W hW hn)
  have Hh := Lib.hid hs
  have HM : Hid (d.subs.length ≤ maxLen) := by unfold Hid maxLen; omega
  have HS := Lib.hid (fun W => sub_of_blk (w := W) (ss := d.subs) (g := w.heap.size + 1 + 1 + 1) (base := w.heap.size))
  clear hs hn
  generalize hN : d.subs.length = n at *
  have HN := Lib.hid hN
  clear hN
  go_enter Tryz.func111, Tryz.ntmps111
  go_wp2_with fail
  refine (HK.out _ (((Hh.out.later (Below.new _ _)).later (Below.new _ _)).later (Below.new _ _))).mono ?_
  rintro e w1 ⟨rfl, rfl⟩
  go_wp2_with fail
  refine bodyPost_ret (v := .agg #[.int .i64 d.a, .int .i64 d.b, .string d.name, .slice (some ⟨w.heap.size + 1 + 1 + 1, 0, none⟩) n n]) (by simp [results, Tryz.results111, go_sem]) rfl ⟨_, rfl, ?_, ?_⟩
  · exact HS.out _ (heap_last (by simp)) (by omega) HM.out
  · exact ((((Below.refl _ _).alloc (Nat.le_refl _) _).alloc (by simp) _).alloc (by simp; omega) _).alloc (by simp; omega) _

set_option maxHeartbeats 1000000 in
theorem toAskS_any (A : Option Addr) (n c : Nat) (fs : List ItD) (w : World) (h : Its w w.heap.size A n fs) (hs : smalls fs) :
    Calls Tryz.prog 68 #[.slice A n c] w (OwnPost w.heap.size 42 fs w) := by
  have Hh := Lib.hid h
  have Hlen := Lib.hid h.1
  have Hf := Lib.hid hs.2
  have hn : n ≤ 1048576 := by rw [← h.1]; exact hs.1
  clear h hs
  obtain ⟨i0, hi, hz0, hz1, hz2⟩ := info_parts infoAsk
  have hmk := fun W => run_make_rowN (P := Tryz.prog) 25 42 i0 _ Tryz.underlying25 hi hz0 .i64 .i64 n n (Nat.le_refl _) (by rw [hz2]; omega) (by omega) W
  simp only [hz1] at hmk
  clear hz0 hz1 hz2 hi
  go_enter Tryz.func68, Tryz.ntmps68
  go_wp2_with fail
  clear hmk
  go_loopw [4] (fun i wr => ∃ (k : Nat) (cs : Array Value) (vs : List Value), k ≤ n ∧ i = .int .i64 k ∧ Below w.heap.size w wr ∧ LaidI wr w.heap.size 42 n fs k cs vs) (fun i _ => n - (intOf i).toNat)
  case atStart => exact ⟨0, _, [], Nat.zero_le _, rfl, Below.new _ _, heap_alloc_new _ _, size_madeCells _ _, rfl, by simp [flat], fun j hj => absurd hj (by omega), List.Pairwise.nil⟩
  case round =>
    obtain ⟨k, cs, vs, hk, rfl, hb, hlaid⟩ := hrel
    have HB := Lib.hid hb
    have HL := Lib.hid hlaid
    clear hb hlaid
    by_cases hlt : k < n
    · obtain ⟨b, o, rfl, hbB, hc⟩ := (Hh.out.later HB.out).2 (by omega)
      obtain ⟨c0, c1, c2, c3, k0, k1, k2, k3, hr⟩ := hc k hlt
      clear hc
      have hl' : k < fs.length := by rw [Hlen.out]; exact hlt
      have HC := Lib.hid (toAsk_any c0 c1 c2 c3 (fs.getD k default) wr hr (Hf.out _ (getD_mem fs k hl')).2.1)
      clear hl' hr
      generalize hd : fs.getD k default = d at *
      have HD := Lib.hid hd
      clear hd
      go_wp2_with fail
      refine (HC.out).mono ?_
      rintro e w1 ⟨v, rfl, hsub, hb1⟩
      obtain ⟨A2, cap2, rfl, _⟩ := own_slice hsub
      have HB1 := Lib.hid (HB.out.later hb1)
      have HL1 := Lib.hid (HL.out.snoc hb1 Hlen.out hlt HD.out hsub)
      have hblk := (HL.out.later hb1).blk
      have hs4 : k * 4 + 3 < cs.size := by have := HL.out.size; omega
      have x0 := (hblk.cell (k * 4)).trans (Array.getElem?_eq_getElem (show k * 4 < cs.size by omega))
      have x1 := (hblk.cell (k * 4 + 1)).trans (Array.getElem?_eq_getElem (show k * 4 + 1 < cs.size by omega))
      have x2 := (hblk.cell (k * 4 + 2)).trans (Array.getElem?_eq_getElem (show k * 4 + 2 < cs.size by omega))
      have x3 := (hblk.cell (k * 4 + 3)).trans (Array.getElem?_eq_getElem (show k * 4 + 3 < cs.size by omega))
      have y0 := hblk.frozen (k * 4)
      have y1 := hblk.frozen (k * 4 + 1)
      have y2 := hblk.frozen (k * 4 + 2)
      have y3 := hblk.frozen (k * 4 + 3)
      have HW := Lib.hid (below_set4 HB1.out (Nat.le_refl _) (k * 4) (k * 4 + 1) (k * 4 + 2) (k * 4 + 3) (.int .i64 d.a) (.int .i64 d.b) (.string d.name) (.slice A2 d.subs.length cap2))
      clear hb1 hsub hblk
      generalize cs[k * 4] = v0 at *
      generalize cs[k * 4 + 1] = v1 at *
      generalize cs[k * 4 + 2] = v2 at *
      generalize cs[k * 4 + 3] = v3 at *
      go_wp2_with fail
      go_roundw
      case rel => exact ⟨k + 1, _, _, by omega, by go_num, HW.out, HL1.out⟩
      case measure => simp [intOf]; omega
    · obtain rfl : k = n := by omega
      have HM : Hid (k ≤ maxLen) := by unfold Hid maxLen; omega
      go_wp2_with fail
      go_ret
      refine ⟨_, vs, rfl, ?_, HB.out⟩
      have hx := HL.out
      have hl := Hlen.out
      subst hl
      exact hx.own HM.out

set_option maxHeartbeats 1000000 in
theorem toLocks_any (A A' : Option Addr) (n c n' c' : Nat) (held asks : List ItD) (w : World) (h : Its w w.heap.size A n held) (ha : Its w w.heap.size A' n' asks) (hs : smalls held) (hsa : smalls asks) :
    Calls Tryz.prog 27 #[.agg #[.slice A n c, .slice A' n' c']] w (OwnLks w.heap.size held asks w) := by
  have HK1 := Lib.hid (fun W (hW : Below w.heap.size w W) => toLockS_any A n c held W (h.later hW) hs)
  have HK2 := Lib.hid (fun W (hW : Below w.heap.size w W) => toAskS_any A' n' c' asks W (ha.later hW) hsa)
  clear h ha hs hsa
  go_enter Tryz.func27, Tryz.ntmps27
  go_wp2_with fail
  refine (HK1.out _ (by exact ((Below.new _ _).later (Below.new _ _)).later (Below.new _ _))).mono ?_
  rintro e w1 ⟨v0, vs, rfl, hO1, hb1⟩
  obtain ⟨A0, cap0, rfl, _⟩ := own_slice hO1.row
  have hz1 : w.heap.size + 3 ≤ w1.heap.size := by have := hb1.size; simp at this; omega
  have HBX := Lib.hid (Blk.later (heap_new0 w _ _ _) hb1 (by simp; omega))
  have HBY := Lib.hid (Blk.later (heap_new1 w _ _ _) hb1 (by simp))
  have HBZ := Lib.hid (Blk.later (heap_new2 w _ _ _) hb1 (by simp))
  have HB1 := Lib.hid ((((Below.new _ _).later (Below.new _ _)).later (Below.new _ _)).later hb1)
  have HO1 : Hid (OwnIts (w1.setCell ⟨w.heap.size + 1 + 1, 0, none⟩ (.slice A0 held.length cap0)) w.heap.size 37 (.slice A0 held.length cap0) held vs) := (hO1.base (by simp; omega)).grownOther HBZ.out (by decide) (by decide) (grown_set _ _ _ _)
  have HB2 := Lib.hid (HB1.out.setCell (p := ⟨w.heap.size + 1 + 1, 0, none⟩) (by simp; omega) (.slice A0 held.length cap0))
  have HBX2 := Lib.hid (HBX.out.far (p := ⟨w.heap.size + 1 + 1, 0, none⟩) (by simp; omega) (.slice A0 held.length cap0))
  have HBY2 := Lib.hid (HBY.out.far (p := ⟨w.heap.size + 1 + 1, 0, none⟩) (by simp) (.slice A0 held.length cap0))
  have HBZ2 := Lib.hid (HBZ.out.set_ 0 (.slice A0 held.length cap0))
  have pz := HBZ.out.cell
  have fz := HBZ.out.frozen
  have zz := HBZ.out.lt
  have px := HBX.out.cell
  clear hb1 hO1
  go_wp2_with fail
  refine (HK2.out _ HB2.out).mono ?_
  rintro e w2 ⟨v1, us, rfl, hO2, hb2⟩
  obtain ⟨A1, cap1, rfl, _⟩ := own_slice hO2.row
  have HX : Hid (∀ x ∈ vs, ∀ y ∈ us, apart x y) := fun x hx y hy => by
    obtain ⟨j, hj, rfl⟩ := mem_getD hy
    exact HO1.out.fresh (hO2.subs j (by rw [← hO2.len]; exact hj)) (Nat.le_refl _) x hx
  have HBY3 := Lib.hid (HBY2.out.later hb2 HBY2.out.lt)
  have HBZ3 := Lib.hid (HBZ2.out.later hb2 HBZ2.out.lt)
  have HO3 := Lib.hid (HO1.out.later hb2)
  have HA3 := Lib.hid (hO2.base (base := w.heap.size) HB2.out.size)
  have HB3 := Lib.hid (HB2.out.later hb2)
  clear hb2 hO2 pz fz zz px
  have pz := HBZ3.out.cell
  have fz := HBZ3.out.frozen
  have zz := HBZ3.out.lt
  have py := HBY3.out.cell
  have fy := HBY3.out.frozen
  have zy := HBY3.out.lt
  simp at pz
  have G3 := HBZ3.out.set_ 1 (.slice A1 asks.length cap1)
  have GY := HBY3.out.far (p := ⟨w.heap.size + 1 + 1, 1, none⟩) (by simp) (.slice A1 asks.length cap1)
  have GY2 := GY.set_ 0 (.slice A0 held.length cap0)
  have HHn : Hid (OwnIts (((w2.setCell ⟨w.heap.size + 1 + 1, 1, none⟩ (.slice A1 asks.length cap1)).setCell ⟨w.heap.size + 1, 0, none⟩ (.slice A0 held.length cap0)).setCell ⟨w.heap.size + 1, 1, none⟩ (.slice A1 asks.length cap1)) w.heap.size 37 (.slice A0 held.length cap0) held vs) :=
    ((HO3.out.grownOther HBZ3.out (by decide) (by decide) (grown_set _ _ _ _)).grownOther GY (by decide) (by decide) (grown_set _ _ _ _)).grownOther GY2 (by decide) (by decide) (grown_set _ _ _ _)
  have HAn : Hid (OwnIts (((w2.setCell ⟨w.heap.size + 1 + 1, 1, none⟩ (.slice A1 asks.length cap1)).setCell ⟨w.heap.size + 1, 0, none⟩ (.slice A0 held.length cap0)).setCell ⟨w.heap.size + 1, 1, none⟩ (.slice A1 asks.length cap1)) w.heap.size 42 (.slice A1 asks.length cap1) asks us) :=
    ((HA3.out.grownOther HBZ3.out (by decide) (by decide) (grown_set _ _ _ _)).grownOther GY (by decide) (by decide) (grown_set _ _ _ _)).grownOther GY2 (by decide) (by decide) (grown_set _ _ _ _)
  have HBr := Lib.hid (((HB3.out.setCell (p := ⟨w.heap.size + 1 + 1, 1, none⟩) (by simp; omega) (.slice A1 asks.length cap1)).setCell (p := ⟨w.heap.size + 1, 0, none⟩) (by simp) (.slice A0 held.length cap0)).setCell (p := ⟨w.heap.size + 1, 1, none⟩) (by simp) (.slice A1 asks.length cap1))
  clear G3 GY GY2
  go_wp2_with fail
  refine bodyPost_ret (v := .agg #[.slice A0 held.length cap0, .slice A1 asks.length cap1]) (by simp [results, Tryz.results27, go_sem, py]) rfl ?_
  exact ⟨_, _, vs, us, rfl, HHn.out, HAn.out, HX.out, HBr.out⟩
end Go.Proofs.YtiebcdajoddkpaaGreatDoor
