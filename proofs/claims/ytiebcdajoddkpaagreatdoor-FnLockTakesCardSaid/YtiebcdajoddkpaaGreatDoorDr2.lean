/-
  What is drawn beside calls that draw: frames; l00From, l24Some, l24Name. Drawn locks: l24Draw.
-/
import Derived.Test.YtiebcdajoddkpaaGreatDoorSv
import Derived.Test.YtiebcdajoddkpaaGreatDoorGs6
namespace Go.Proofs.YtiebcdajoddkpaaGreatDoor
open Go.RowKit
set_option linter.unusedVariables false

theorem Chg.fresh {P Q : Nat → Prop} {a b c : World} (h : Chg P a b) (k : Chg Q b c) (hQ : ∀ g, Q g → a.heap.size ≤ g) : Chg P a c :=
  ⟨k.os.trans h.os, k.tape.trans h.tape, k.output.trans h.output, Nat.le_trans h.size k.size, fun i hi' hr => (k.block i (Nat.lt_of_lt_of_le hi' h.size) (fun hq => by have := hQ i hq; omega)).trans (h.block i hi' hr)⟩
theorem SrcR.chg {P : Nat → Prop} {w w' : World} {p K : Nat} (h : SrcR w p K) (k : Chg P w w') (hP : ∀ g, P g → p < g) : SrcR w' p K := by
  obtain ⟨A, n, c, a, s, hB, hY, h1, h2, h3⟩ := h
  exact ⟨A, n, c, a, s, hB.chg k (fun hp => Nat.lt_irrefl _ (hP _ hp)), hY.later (fun i hi => k.block i (by have := hB.lt; omega) (fun hp => by have := hP _ hp; omega)), h1, h2, h3⟩
theorem Drawn.pre {p K : Nat} {a b c : World} (hb : Below a.heap.size a b) (h : Drawn p K b c) : Drawn p K a c := ⟨h.src, (Chg.of_below hb).trans h.chg⟩
/-- A row of the call's own grows: nothing else is touched. -/
theorem Drawn.grown {p K : Nat} {a b c : World} {row : Option Nat} (h : Drawn p K a b) (hg : b.grownBy c row) (hr : ∀ g, row = some g → a.heap.size ≤ g) (hp : p < a.heap.size) : Drawn p K a c :=
  ⟨h.src.chg (Chg.of_grown (P := fun g => a.heap.size ≤ g) hg hr) (fun g hg' => Nat.lt_of_lt_of_le hp hg'), h.chg.fresh (Chg.of_grown (P := fun g => a.heap.size ≤ g) hg hr) (fun g hg' => hg')⟩
theorem Drawn.lt {p K : Nat} {a b : World} (h : Drawn p K a b) : p < b.heap.size := h.src.lt
theorem SubO.drawn {w w' : World} {p K K' base : Nat} {v : Value} {ss : List ByteArray} (h : SubO w base v ss) (hs : SrcR w p K) (hd : Drawn p K' w w') : SubO w' base v ss :=
  own_chg h hd.chg (hs.not_own h (by decide))
theorem Blk.drawn {w w' : World} {p K g t : Nat} {cs : Array Value} (h : Blk w g t cs) (hd : Drawn p K w w') (hp : g ≠ p) : Blk w' g t cs := h.chg hd.chg hp
theorem strs_lit (w : World) (t : TypeId) (ss : List ByteArray) (cs : Array Value) (h : cs = strArr ss) : Strs (w.alloc (.cells cs t)) (w.alloc (.cells cs t)).heap.size (some ⟨w.heap.size, 0, none⟩) ss.length ss := by
  subst h
  exact (Strs.made w t ss).more (by simp)
theorem ints_lit (w : World) (t : TypeId) (zs : List Int) (cs : Array Value) (h : cs = (zs.map (Value.int .i64)).toArray) : Ints (w.alloc (.cells cs t)) (w.alloc (.cells cs t)).heap.size (some ⟨w.heap.size, 0, none⟩) zs.length zs := by
  subst h
  refine ⟨rfl, fun hn => ⟨w.heap.size, 0, rfl, by simp, fun j hj => ?_⟩⟩
  refine (Blk.cell (t := t) (heap_alloc_new w _) _).trans ?_
  simp [List.getD_eq_getElem?_getD, List.getElem?_eq_getElem hj]

/-- Names and subscripts of few bytes. -/
def tinyS (ss : List ByteArray) : Prop := ss.length ≤ 5 ∧ ∀ s ∈ ss, s.size ≤ 16
theorem tgt_tiny {job : Int} {nm : ByteArray} {ss : List ByteArray} (h1 : nm.size ≤ 16) (h2 : tinyS ss) : (tgt job nm ss).small :=
  ⟨by show nm.size ≤ _; omega, by show ss.length ≤ _; have := h2.1; omega, fun s hs => by have := h2.2 s hs; omega⟩
def SomePost (p K m : Nat) (w : World) (e : Ending) (w' : World) : Prop :=
  ∃ nm v ss, e = .returned (.tuple #[.string nm, v]) ∧ SubO w' w.heap.size v ss ∧ nm.size ≤ 16 ∧ tinyS ss ∧ ss.length ≤ m ∧ Drawn p K w w'
set_option maxRecDepth 100000 in
set_option maxHeartbeats 2000000 in
theorem l24Some_any (p K : Nat) (w : World) (h : SrcR w p K) (hK : K ≤ 549755813888) :
    Calls Tryz.prog 97 #[.pointer (some ⟨p, 0, none⟩)] w (SomePost p (K + 8) 2 w) := by
  obtain ⟨i0, hi, hz0, hz1, hz2⟩ := info_parts infoS
  have hpw := h.lt
  have HK1 := Lib.hid (text_any p K (some ⟨w.heap.size, 0, none⟩) 3 3 [⟨#[65]⟩, ⟨#[65]⟩, ⟨#[66]⟩] (w.alloc (.cells #[.string ⟨#[65]⟩, .string ⟨#[65]⟩, .string ⟨#[66]⟩] 9)) (h.later (Below.new _ _)) (by omega) (strs_lit w _ [⟨#[65]⟩, ⟨#[65]⟩, ⟨#[66]⟩] _ rfl) (by omega) (by omega))
  have HK2 := Lib.hid (fun W (hW : SrcR W p (K + 2)) => pick_any p (K + 2) 3 W hW (by omega) (by omega))
  have HK3 := Lib.hid (fun W k (hk : k ≤ 2) (hW : SrcR W p (K + 4 + 2 * k)) => text_any p (K + 4 + 2 * k) (some ⟨W.heap.size, 0, none⟩) 3 3 [⟨#[49]⟩, ⟨#[50]⟩, ⟨#[120]⟩] (W.alloc (.cells #[.string ⟨#[49]⟩, .string ⟨#[50]⟩, .string ⟨#[120]⟩] 9)) (hW.later (Below.new _ _)) (by omega) (strs_lit W _ [⟨#[49]⟩, ⟨#[50]⟩, ⟨#[120]⟩] _ rfl) (by omega) (by omega))
  clear h
  go_enter Tryz.func97, Tryz.ntmps97
  go_wp2_with fail
  refine HK1.out.mono ?_
  rintro e w1 ⟨nm, hnm, rfl, hd1⟩
  have hnm2 : nm.size ≤ 16 := by
    simp only [List.mem_cons, List.not_mem_nil, or_false] at hnm
    rcases hnm with rfl | rfl | rfl <;> decide
  have HD1 := Lib.hid (hd1.pre (Below.new _ _))
  have HNM := Lib.hid hnm2
  clear hd1 hnm hnm2 HK1
  have hz1' := HD1.out.chg.size
  go_wp2_with fail
  refine (HK2.out _ (HD1.out.src.later (Below.new _ _))).mono ?_
  rintro e w2 ⟨x, rfl, hx, hd2⟩
  have HR2 : Hid (SubO w2 w.heap.size (.slice (some ⟨w1.heap.size, 0, none⟩) 0 0) []) := by
    have h : (w1.alloc (.cells #[] 9)).ownsRow w.heap.size 9 1 (.slice (some ⟨w1.heap.size, 0, none⟩) 0 0) 0 [] := World.ownsRow_lit (base := w.heap.size) (e := 9) (size := 1) w1 #[] 0 hz1' (by omega) rfl
    have h2 : SubO (w1.alloc (.cells #[] 9)) w.heap.size (.slice (some ⟨w1.heap.size, 0, none⟩) 0 0) [] := h
    exact h2.drawn (HD1.out.src.later (Below.new _ _)) hd2
  have HD2 := Lib.hid ((HD1.out.later (Below.new _ _)).trans hd2)
  have hxx : x ≤ 2 := by omega
  clear hd2 HD1 hx HK2
  go_wp2_with fail
  go_loopw [5, 6] (fun v kv wr => ∃ (k : Nat) (ss : List ByteArray), kv = .int .i64 k ∧ k + ss.length ≤ 2 ∧ Hid (SubO wr w.heap.size v ss) ∧ Hid (Drawn p (K + 4 + 2 * ss.length) w wr) ∧ Hid (∀ s ∈ ss, s.size ≤ 1)) (fun _ kv _ => (intOf kv).toNat)
  case atStart => exact ⟨x, [], rfl, by simpa using hxx, HR2.out, HD2.out, fun s hs => by cases hs⟩
  case round =>
    obtain ⟨k, ss, rfl, hks, HS, HD, HZ⟩ := hrel
    clear HR2 HD2
    generalize hm : ss.length = m at *
    have HM := Lib.hid hm
    clear hm
    by_cases hk : 0 < k
    · have hwz := HD.out.chg.size
      go_wp2_with fail
      refine (HK3.out _ m (by omega) HD.out.src).mono ?_
      rintro e w3 ⟨t, ht, rfl, hd3⟩
      have ht2 : t.size ≤ 1 := by
        simp only [List.mem_cons, List.not_mem_nil, or_false] at ht
        rcases ht with rfl | rfl | rfl <;> decide
      have HS3 := Lib.hid ((SubO.drawn (own_later HS.out (Below.new _ _)) (HD.out.src.later (Below.new _ _)) hd3))
      have HD3 := Lib.hid ((HD.out.later (Below.new _ _)).trans hd3)
      have HT2 := Lib.hid ht2
      clear hd3 ht ht2
      have hw3 := HD3.out.chg.size
      have HRW : Hid (∀ o, (w3.alloc o).ownsRow w.heap.size 9 1 u5 m (ss.map Value.string)) := fun o => by
        have h := own_later HS3.out (Below.new w3 o)
        rw [HM.out] at h
        exact h
      go_wp2_with (at_builtin; refine wpList_append_own _ rfl (.tmp 17) (.tmp 21) 35 rfl w.heap.size 9 i0 (.string .empty) 1 16 Tryz.underlying35 hi hz0 hz1 hz2 rfl (by decide) _ m _ rfl (HRW.out _) ⟨_, 0, none⟩ 1 1 [.string t] rfl rfl ?c1 ?c2 ?c3 ?c4 ?c5 ?_)
      case c1 => exact cell_one_new _ _ _
      case c2 => simp [Value.oneCell']
      case c3 => unfold maxLen; omega
      case c4 => omega
      case c5 => simp; omega
      intro v4 w4 hown4 hg4 _
      have HS4 : Hid (SubO w4 w.heap.size v4 (ss ++ [t])) := by
        unfold Hid SubO
        rw [List.length_append, HM.out, List.map_append]
        exact hown4
      have HD4 : Hid (Drawn p (K + 4 + 2 * (ss ++ [t]).length) w w4) := by
        have h := (HD3.out.later (Below.new _ _)).grown hg4 (fun g hg => ((HRW.out (.cells #[] 0)).lt g hg).1) hpw
        rw [List.length_append, HM.out]
        exact h.mono (by simp; omega)
      have HZ4 : Hid (∀ s ∈ ss ++ [t], s.size ≤ 1) := fun s hs => by
        rcases List.mem_append.1 hs with h | h
        · exact HZ.out s h
        · rw [List.mem_singleton.1 h]; exact HT2.out
      have HL4 : Hid ((ss ++ [t]).length = m + 1) := by unfold Hid; rw [List.length_append, HM.out]; rfl
      clear hown4 hg4
      go_wp2_with fail
      go_roundw
      case rel => exact ⟨k - 1, ss ++ [t], by go_num, by rw [HL4.out]; omega, HS4.out, HD4.out, HZ4.out⟩
      case measure => simp [intOf]; omega
    · obtain rfl : k = 0 := by omega
      have hm2 : m ≤ 2 := by omega
      go_wp2_with fail
      go_ret2
      exact ⟨nm, _, ss, rfl, HS.out, HNM.out, ⟨by rw [HM.out]; omega, fun s hs => by have := HZ.out s hs; omega⟩, by rw [HM.out]; exact hm2, HD.out.mono (by omega)⟩
end Go.Proofs.YtiebcdajoddkpaaGreatDoor

namespace Go.Proofs.YtiebcdajoddkpaaGreatDoor
open Go.RowKit
set_option linter.unusedVariables false

theorem tl_ok {held asks : List ItD} {job t : Int} {nm : ByteArray} {ss : List ByteArray} (h : (tlB held asks job nm ss t).2.1 = 0) : OkP (tlB held asks job nm ss t).2.2.1 (tlB held asks job nm ss t).2.2.2 := by
  unfold tlB at h ⊢
  split at h
  · next hc =>
    rw [if_pos hc]
    simp only [Bool.and_eq_true] at hc
    obtain ⟨⟨⟨h1, h2⟩, h3⟩, h4⟩ := hc
    have ho := okP_of h1
    split at h
    · cases h
    · next ha =>
      rw [if_neg ha]
      split at h
      · cases h
      · next hr =>
        rw [if_neg hr]
        split
        · exact ho.ask h2 h4 h3 (by omega)
        · next hb =>
          have hb2 : blocksB held asks job nm ss = false := by simpa using hb
          unfold blocksB at hb2
          rw [Bool.or_eq_false_iff] at hb2
          exact ho.acq h2 h3 (by simpa using hr) hb2.1
  · cases h
theorem lockAt_lt {held : List ItD} {job : Int} {nm : ByteArray} {ss : List ByteArray} (h : ¬ lockAt held job nm ss < 0) : (lockAt held job nm ss).toNat < held.length := by
  obtain ⟨j, h1, h2, _⟩ := idxF_hit (atP job nm ss) held 0 (by unfold lockAt at h; omega)
  unfold lockAt
  rw [h2]
  omega
theorem drop_ok {held asks : List ItD} {job : Int} {nm : ByteArray} {ss : List ByteArray} (h : (dropB held asks job nm ss).1 = 0) : OkP (dropB held asks job nm ss).2.1 (dropB held asks job nm ss).2.2.1 := by
  unfold dropB at h ⊢
  split at h
  · next hc =>
    rw [if_pos hc]
    simp only [Bool.and_eq_true] at hc
    split at h
    · cases h
    · next ha =>
      rw [if_neg ha]
      exact ((okP_of hc.1.1).less (lockAt_lt ha)).grant
  · cases h

/-- Locks of the call's own in a box, drawn so far. -/
structure DrawS (p K : Nat) (w : World) (base q r : Nat) (held asks : List ItD) (vs us : List Value) (v0 v1 : Value) (X : World) : Prop where
  h : OwnIts X base 37 v0 held vs
  a : OwnIts X base 42 v1 asks us
  cross : ∀ x ∈ vs, ∀ y ∈ us, apart x y
  box : Blk X q 27 #[v0, v1]
  res : Blk X r 27 #[.slice none 0 0, .slice none 0 0]
  draw : Drawn p K w X
section
variable {p K K' : Nat} {w : World} {base q r : Nat} {held asks : List ItD} {vs us : List Value} {v0 v1 : Value} {X Y : World}
theorem DrawS.later (s : DrawS p K w base q r held asks vs us v0 v1 X) (hb : Below X.heap.size X Y) : DrawS p K w base q r held asks vs us v0 v1 Y :=
  ⟨s.h.later hb, s.a.later hb, s.cross, s.box.later hb s.box.lt, s.res.later hb s.res.lt, s.draw.later hb⟩
theorem DrawS.drawn (s : DrawS p K w base q r held asks vs us v0 v1 X) (hd : Drawn p K' X Y) (hq : p < q) (hr : p < r) : DrawS p K' w base q r held asks vs us v0 v1 Y :=
  ⟨s.h.drawn s.draw.src hd (by decide), s.a.drawn s.draw.src hd (by decide), s.cross, s.box.drawn hd (by omega), s.res.drawn hd (by omega), s.draw.trans hd⟩
theorem DrawS.mono (s : DrawS p K w base q r held asks vs us v0 v1 X) (hK : K ≤ K') : DrawS p K' w base q r held asks vs us v0 v1 X := ⟨s.h, s.a, s.cross, s.box, s.res, s.draw.mono hK⟩
theorem DrawS.views (s : DrawS p K w base q r held asks vs us v0 v1 X) : ∃ A0 c0 A1 c1, v0 = .slice A0 held.length c0 ∧ v1 = .slice A1 asks.length c1 ∧ held.length ≤ c0 ∧ asks.length ≤ c1 ∧ Its X X.heap.size A0 held.length held ∧ Its X X.heap.size A1 asks.length asks := by
  obtain ⟨A0, c0, e0, h0, _, i0⟩ := s.h.its
  obtain ⟨A1, c1, e1, h1, _, i1⟩ := s.a.its
  exact ⟨A0, c0, A1, c1, e0, e1, h0, h1, i0, i1⟩
/-- Other locks put into the box. -/
theorem DrawS.put (s : DrawS p K w base q r held asks vs us v0 v1 X) {held2 asks2 : List ItD} {vs2 us2 : List Value} {x0 x1 : Value} (h0 : OwnIts X base 37 x0 held2 vs2) (h1 : OwnIts X base 42 x1 asks2 us2) (hx : ∀ x ∈ vs2, ∀ y ∈ us2, apart x y) (hqr : r ≠ q) (hpw : p < w.heap.size) (hq : w.heap.size ≤ q) : DrawS p K w base q r held2 asks2 vs2 us2 x0 x1 ((X.setCell ⟨q, 0, none⟩ x0).setCell ⟨q, 1, none⟩ x1) := by
  have hgr := (grown_set X q 0 x0).trans (grown_set (X.setCell ⟨q, 0, none⟩ x0) q 1 x1)
  exact ⟨h0.two s.box (by decide), h1.two s.box (by decide), hx, box_two s.box x0 x1, (s.res.far (p := ⟨q, 0, none⟩) hqr _).far (p := ⟨q, 1, none⟩) hqr _, s.draw.grown hgr (fun g e => by cases e; exact hq) hpw⟩
end
theorem SubO.strs3 {w : World} {base q : Nat} {S : Option Addr} {ss : List ByteArray} (h : SubO w base (.slice S ss.length q) ss) : Strs w w.heap.size S ss.length ss := by
  obtain ⟨S', q', e, _, _, h⟩ := h.strs
  injection e with e1 _ e3
  subst e1 e3
  exact h
/-- A box beside written. -/
theorem DrawS.side {p K : Nat} {w : World} {base q r b : Nat} {held asks : List ItD} {vs us : List Value} {v0 v1 x y : Value} {X : World} {cs : Array Value} (s : DrawS p K w base q r held asks vs us v0 v1 X) (hb : Blk X b 27 cs) (hq : q ≠ b) (hr : r ≠ b) (hw : w.heap.size ≤ b) (hp : p < w.heap.size) : DrawS p K w base q r held asks vs us v0 v1 ((X.setCell ⟨b, 0, none⟩ x).setCell ⟨b, 1, none⟩ y) := by
  have hgr := (grown_set X b 0 x).trans (grown_set (X.setCell ⟨b, 0, none⟩ x) b 1 y)
  exact ⟨s.h.two hb (by decide), s.a.two hb (by decide), s.cross, (s.box.far (p := ⟨b, 0, none⟩) hq _).far (p := ⟨b, 1, none⟩) hq _, (s.res.far (p := ⟨b, 0, none⟩) hr _).far (p := ⟨b, 1, none⟩) hr _, s.draw.grown hgr (fun g e => by cases e; exact hw) hp⟩
theorem DrawS.its {p K : Nat} {w : World} {base q r : Nat} {held asks : List ItD} {vs us : List Value} {A0 A1 : Option Addr} {c0 c1 : Nat} {X : World} (s : DrawS p K w base q r held asks vs us (.slice A0 held.length c0) (.slice A1 asks.length c1) X) : Its X X.heap.size A0 held.length held ∧ Its X X.heap.size A1 asks.length asks := by
  obtain ⟨B0, d0, B1, d1, e0, e1, _, _, i0, i1⟩ := s.views
  injection e0 with e2 _ e3
  injection e1 with e4 _ e5
  subst e2 e4
  exact ⟨i0, i1⟩

def DrawPost (p K : Nat) (w : World) (e : Ending) (w' : World) : Prop :=
  ∃ v0 v1 held asks vs us, e = .returned (.agg #[v0, v1]) ∧ OwnIts w' w.heap.size 37 v0 held vs ∧ OwnIts w' w.heap.size 42 v1 asks us ∧ (∀ x ∈ vs, ∀ y ∈ us, apart x y) ∧ OkP held asks ∧ Drawn p K w w'
set_option maxRecDepth 100000 in
set_option maxHeartbeats 8000000 in
theorem l24Draw_any (p K : Nat) (w : World) (h : SrcR w p K) (hK : K ≤ 274877906944) :
    Calls Tryz.prog 76 #[.pointer (some ⟨p, 0, none⟩)] w (DrawPost p (K + 256) w) := by
  have hpw := h.lt
  have hbn := (Below.new w (.cells #[.slice none 0 0, .slice none 0 0] 27)).later (Below.new _ (.cells #[.slice none 0 0, .slice none 0 0] 27))
  have HK1 := Lib.hid (pick_any p K 14 _ (h.later hbn) (by omega) (by omega))
  have HS0 : Hid (DrawS p K w w.heap.size (w.heap.size + 1) w.heap.size [] [] [] [] (.slice none 0 0) (.slice none 0 0) ((w.alloc (.cells #[.slice none 0 0, .slice none 0 0] 27)).alloc (.cells #[.slice none 0 0, .slice none 0 0] 27))) :=
    ⟨own_none _ _ _, own_none _ _ _, by simp, heap_two1 _ _ _, heap_two0 _ _ _, (Drawn.refl h).later hbn⟩
  have HOK0 : Hid (OkP [] []) := ⟨by simp, by simp, by simp, List.Pairwise.nil, by simp, List.Pairwise.nil⟩
  clear h hbn
  go_enter Tryz.func76, Tryz.ntmps76
  go_wp2_with fail
  refine HK1.out.mono ?_
  rintro e w1 ⟨x, rfl, hx, hd1⟩
  have HS1 := Lib.hid (HS0.out.drawn hd1 (by omega) (by omega))
  clear hd1 HS0 HK1
  have hx13 : x ≤ 13 := by omega
  go_wp2_with fail
  go_loopw [4] (fun kv wr => ∃ (k : Nat) (held asks : List ItD) (vs us : List Value) (v0 v1 : Value), kv = .int .i64 k ∧ k ≤ 13 ∧ Hid (OkP held asks) ∧ Hid (DrawS p (K + 2 + 16 * (13 - k)) w w.heap.size (w.heap.size + 1) w.heap.size held asks vs us v0 v1 wr)) (fun kv _ => (intOf kv).toNat)
  case atStart => exact ⟨x, [], [], [], [], _, _, rfl, hx13, HOK0.out, HS1.out.mono (by omega)⟩
  case round =>
    obtain ⟨k, held, asks, vs, us, v0, v1, rfl, hk, HOK, HS⟩ := hrel
    clear HS1 HOK0
    generalize hKK : K + 2 + 16 * (13 - k) = KK at *
    by_cases hk0 : 0 < k
    · have hkA : KK + 8 + 2 + 2 ≤ K + 2 + 16 * (13 - (k - 1)) := by omega
      have hkB : KK + 8 + 2 + 2 + 2 ≤ K + 2 + 16 * (13 - (k - 1)) := by omega
      have hKb : KK ≤ 274877907200 := by omega
      clear hKK
      have HKn := Lib.hid (l24Some_any p KK wr HS.out.draw.src (by omega))
      have hwr := HS.out.draw.chg.size
      have bxz := HS.out.box.lt
      go_wp2_with fail
      refine HKn.out.mono ?_
      rintro e w2 ⟨nm, vn, ss, rfl, hsn, hnm, hss, _, hd2⟩
      obtain ⟨S, q, rfl, hq, _, _⟩ := hsn.strs
      have HS2 := Lib.hid (HS.out.drawn hd2 (by omega) hpw)
      have HN2 := Lib.hid hsn
      have HSM := Lib.hid (fun job : Int => tgt_tiny (job := job) hnm hss)
      have HLN := Lib.hid hss.1
      clear hsn hnm hss hd2 HKn
      have HK3 := Lib.hid (pick_any p (KK + 8) 4 w2 HS2.out.draw.src (by omega) (by omega))
      go_wp2_with fail
      refine HK3.out.mono ?_
      rintro e w3 ⟨xj, rfl, hxj, hd3⟩
      have HS3 := Lib.hid (HS2.out.drawn hd3 (by omega) hpw)
      have HN3 := Lib.hid (HN2.out.drawn HS2.out.draw.src hd3)
      have HK4 := Lib.hid (pick_any p (KK + 8 + 2) 6 w3 HS3.out.draw.src (by omega) (by omega))
      clear hd3 HK3 HS2 HN2
      have hj4 : xj ≤ 3 := by omega
      go_wp2_with fail
      refine HK4.out.mono ?_
      rintro e w4 ⟨xc, rfl, hxc, hd4⟩
      have HS4 := Lib.hid (HS3.out.drawn hd4 (by omega) hpw)
      have HN4 := Lib.hid (HN3.out.drawn HS3.out.draw.src hd4)
      clear hd4 HK4 HS3 HN3 HS
      have hw4 := HS4.out.draw.chg.size
      obtain ⟨A0, c0, A1, c1, rfl, rfl, hc0, hc1, hi0, hi1⟩ := HS4.out.views
      have p0 := HS4.out.box.cell 0
      have p1 := HS4.out.box.cell 1
      have f0 := HS4.out.box.frozen 0
      have f1 := HS4.out.box.frozen 1
      have pz := HS4.out.box.lt
      simp at p0 p1
      have hsm := HOK.out.small
      have HSS : Hid (Strs w4 w4.heap.size S ss.length ss) := SubO.strs3 HN4.out
      by_cases h0 : xc = 0
      · subst h0
        have HKD := Lib.hid (specDropLock_any A0 A1 held.length c0 asks.length c1 held asks (1 + (xj : Int)) nm S ss.length q ss w4 hi0 hi1 hsm.1 hsm.2 HSS.out (HSM.out _))
        generalize hrr : dropB held asks (1 + (xj : Int)) nm ss = r at *
        have HDO : Hid (r.1 = 0 → OkP r.2.1 r.2.2.1) := by rw [← hrr]; exact drop_ok
        clear hrr
        obtain ⟨code, h2, a2, told⟩ := r
        dsimp only at HDO
        go_wp2_with fail
        refine HKD.out.mono ?_
        rintro e w5 ⟨x0, x1, vs5, us5, vo, rfl, g0, g1, gx, gr, hb5⟩
        obtain ⟨A5, c5, rfl, _, _, _⟩ := own_slice g0.row
        obtain ⟨A6, c6, rfl, _, _, _⟩ := own_slice g1.row
        have HS5 := Lib.hid (HS4.out.later hb5)
        have HPUT := Lib.hid ((HS5.out.put (g0.base hw4) (g1.base hw4) gx (by omega) hpw (Nat.le_succ _)))
        clear p0 p1 f0 f1 pz g0 g1 gx gr hb5 HKD
        have p0 := HS5.out.box.cell 0
        have p1 := HS5.out.box.cell 1
        have f0 := HS5.out.box.frozen 0
        have f1 := HS5.out.box.frozen 1
        have pz := HS5.out.box.lt
        simp at p0 p1
        by_cases hc : code = 0
        · subst hc
          have HOK5 := Lib.hid (HDO.out rfl)
          have HS6 := Lib.hid (HPUT.out.later (Below.new _ (.cells #[.slice A5 h2.length c5, .slice A6 a2.length c6] 27)))
          clear HDO HPUT
          go_wp2_with fail
          go_roundw
          case rel => exact ⟨k - 1, h2, a2, vs5, us5, _, _, by go_num, by omega, HOK5.out, HS6.out.mono hkA⟩
          case measure => simp [intOf]; omega
        · have hc2 : (code == 0) = false := beq_eq_false_iff_ne.2 hc
          have HS6 := Lib.hid (HS5.out.later (Below.new _ (.cells #[.slice A5 h2.length c5, .slice A6 a2.length c6] 27)))
          clear HDO HPUT
          go_wp2_with fail
          go_roundw
          case rel => exact ⟨k - 1, held, asks, vs, us, _, _, by go_num, by omega, HOK.out, HS6.out.mono hkA⟩
          case measure => simp [intOf]; omega
      · by_cases h1 : xc = 1
        · subst h1
          have HKO := Lib.hid (one_any p (KK + 8 + 2 + 2) 4 w4 HS4.out.draw.src (by omega) (by omega))
          go_wp2_with fail
          refine HKO.out.mono ?_
          rintro e w5 ⟨b, rfl, hd5⟩
          have HS5 := Lib.hid (HS4.out.drawn hd5 (by omega) hpw)
          have hw5 := HS5.out.draw.chg.size
          clear p0 p1 f0 f1 pz hd5 HKO hi0 hi1
          have p0 := HS5.out.box.cell 0
          have p1 := HS5.out.box.cell 1
          have f0 := HS5.out.box.frozen 0
          have f1 := HS5.out.box.frozen 1
          have pz := HS5.out.box.lt
          simp at p0 p1
          cases b
          · go_wp2_with fail
            go_roundw
            case rel => exact ⟨k - 1, held, asks, vs, us, _, _, by go_num, by omega, HOK.out, HS5.out.mono hkB⟩
            case measure => simp [intOf]; omega
          · obtain ⟨hi0, hi1⟩ := HS5.out.its
            have HKD := Lib.hid (l24Drop_any A0 A1 held.length c0 asks.length c1 held asks (1 + (xj : Int)) w5 hi0 hi1 hsm.1 hsm.2 HOK.out)
            have HOK5 := Lib.hid ((HOK.out.sub (List.filter_sublist (p := notJob (1 + (xj : Int))) (l := held)) (List.filter_sublist (p := notJob (1 + (xj : Int))) (l := asks))).grant)
            generalize grantB (held.filter (notJob (1 + (xj : Int)))) (asks.filter (notJob (1 + (xj : Int)))) = R at *
            obtain ⟨h2, a2, told⟩ := R
            go_wp2_with fail
            refine HKD.out.mono ?_
            rintro e w6 ⟨x0, x1, vs5, us5, vo, rfl, g0, g1, gx, gr, hb6⟩
            obtain ⟨A5, c5, rfl, _, _, _⟩ := own_slice g0.row
            obtain ⟨A6, c6, rfl, _, _, _⟩ := own_slice g1.row
            have HS6 := Lib.hid (HS5.out.later hb6)
            have HPUT := Lib.hid ((HS6.out.put (g0.base hw5) (g1.base hw5) gx (by omega) hpw (Nat.le_succ _)))
            clear p0 p1 f0 f1 pz g0 g1 gx gr hb6 HKD
            have p0 := HS6.out.box.cell 0
            have p1 := HS6.out.box.cell 1
            have f0 := HS6.out.box.frozen 0
            have f1 := HS6.out.box.frozen 1
            have pz := HS6.out.box.lt
            simp at p0 p1
            go_wp2_with fail
            go_roundw
            case rel => exact ⟨k - 1, h2, a2, vs5, us5, _, _, by go_num, by omega, HOK5.out, HPUT.out.mono hkB⟩
            case measure => simp [intOf]; omega
        · have hc01 : ((xc : Int) == 0) = false := beq_eq_false_iff_ne.2 (by omega)
          have hc11 : ((xc : Int) == 1) = false := beq_eq_false_iff_ne.2 (by omega)
          have HKA := Lib.hid (fun b W (hW : Below w4.heap.size w4 W) (hI : Ints W W.heap.size (some ⟨b, 0, none⟩) 4 [0, 0, 5, 9]) (hb : b ≠ p) => among_any p (KK + 8 + 2 + 2) b 4 4 [0, 0, 5, 9] W (HS4.out.draw.src.later hW) (by omega) hI hb (by omega) (by omega))
          have HKT := Lib.hid (fun (z : Int) W (hi : Its W W.heap.size A0 held.length held ∧ Its W W.heap.size A1 asks.length asks) (hS : Strs W W.heap.size S ss.length ss) => specTakeLock_any A0 A1 held.length c0 asks.length c1 held asks (1 + (xj : Int)) nm S ss.length q ss z W hi.1 hi.2 hsm.1 hsm.2 hS (HSM.out _))
          have HTO := Lib.hid (fun z => @tl_ok held asks (1 + (xj : Int)) z nm ss)
          have HI1 : Hid (Ints (w4.alloc (.cells #[.int .i64 0, .int .i64 0, .int .i64 5, .int .i64 9] 2)) (w4.alloc (.cells #[.int .i64 0, .int .i64 0, .int .i64 5, .int .i64 9] 2)).heap.size (some ⟨w4.heap.size, 0, none⟩) 4 [0, 0, 5, 9]) := ints_lit w4 _ [0, 0, 5, 9] _ rfl
          have HI2 := Lib.hid (HI1.out.later (Below.new (w4.alloc (.cells #[.int .i64 0, .int .i64 0, .int .i64 5, .int .i64 9] 2)) (.cells #[.slice none 0 0, .slice none 0 0] 27)))
          have HI3 : Hid (Ints ((w4.alloc (.cells #[.slice none 0 0, .slice none 0 0] 27)).alloc (.cells #[.int .i64 0, .int .i64 0, .int .i64 5, .int .i64 9] 2)) ((w4.alloc (.cells #[.slice none 0 0, .slice none 0 0] 27)).alloc (.cells #[.int .i64 0, .int .i64 0, .int .i64 5, .int .i64 9] 2)).heap.size (some ⟨w4.heap.size + 1, 0, none⟩) 4 [0, 0, 5, 9]) := by
            have h := ints_lit (w4.alloc (.cells #[.slice none 0 0, .slice none 0 0] 27)) 2 [0, 0, 5, 9] _ rfl
            have e : (w4.alloc (.cells #[.slice none 0 0, .slice none 0 0] 27)).heap.size = w4.heap.size + 1 := by simp
            rw [e] at h
            exact h
          have HW1 := Lib.hid (Below.new w4 (.cells #[.int .i64 0, .int .i64 0, .int .i64 5, .int .i64 9] 2))
          have HW2 := Lib.hid (HW1.out.later (Below.new _ (.cells #[.slice none 0 0, .slice none 0 0] 27)))
          have HW3 := Lib.hid ((Below.new w4 (.cells #[.slice none 0 0, .slice none 0 0] 27)).later (Below.new _ (.cells #[.int .i64 0, .int .i64 0, .int .i64 5, .int .i64 9] 2)))
          have HE2 : Hid (Blk ((w4.alloc (.cells #[.int .i64 0, .int .i64 0, .int .i64 5, .int .i64 9] 2)).alloc (.cells #[.slice none 0 0, .slice none 0 0] 27)) (w4.heap.size + 1) 27 #[.slice none 0 0, .slice none 0 0]) := heap_two1 _ _ _
          have HE3 : Hid (Blk ((w4.alloc (.cells #[.slice none 0 0, .slice none 0 0] 27)).alloc (.cells #[.int .i64 0, .int .i64 0, .int .i64 5, .int .i64 9] 2)) w4.heap.size 27 #[.slice none 0 0, .slice none 0 0]) := heap_two0 _ _ _
          go_wp2_with fail
          have HC4 : Hid (∀ W', Below w4.heap.size w4 W' → (W'.cell? ⟨w.heap.size + 1, 0, none⟩ = some (.slice A0 held.length c0) ∧ W'.cell? ⟨w.heap.size + 1, 1, none⟩ = some (.slice A1 asks.length c1))) := fun W' hW => ⟨cell_later hW p0, cell_later hW p1⟩
          go_region_held3 (fun w' => w'.cell? ⟨w.heap.size + 1, 0, none⟩ = some (.slice A0 held.length c0) ∧ w'.cell? ⟨w.heap.size + 1, 1, none⟩ = some (.slice A1 asks.length c1))
            (first | exact HC4.out _ (Below.refl _ _).drew | exact HC4.out _ (Below.new _ _).drew | exact HC4.out _ ((Below.new _ _).later (Below.new _ _)).drew | exact HC5.out _ (Below.refl _ _) | exact HC5.out _ (Below.new _ _) | exact HC6.out _ (Below.refl _ _) | exact HC6.out _ (Below.new _ _) | exact HC7.out)
            (first
            | (go_at_call 46
               with_reducible refine (HKA.out w4.heap.size _ ?_ ?_ ?_).mono ?_
               · with_reducible exact HW1.out.drew
               · exact HI1.out
               · omega
               rintro e w5 ⟨z, hz, rfl, hd5⟩
               have hd5' : Drawn p (KK + 8 + 2 + 2 + 2) (w4.alloc (.cells #[.int .i64 0, .int .i64 0, .int .i64 5, .int .i64 9] 2)) w5 := ⟨hd5.src, ⟨hd5.chg.os, hd5.chg.tape, hd5.chg.output, hd5.chg.size, hd5.chg.block⟩⟩
               have HS5 := Lib.hid ((HS4.out.later HW1.out).drawn hd5' (by omega) hpw)
               have HSS5 := Lib.hid (SubO.strs3 (SubO.drawn (own_later HN4.out HW1.out) (HS4.out.draw.src.later HW1.out) hd5'))
               skip
               have q0 := HS5.out.box.cell 0
               have q1 := HS5.out.box.cell 1
               have qz := HS5.out.box.lt
               simp at q0 q1
               have HC5 : Hid (∀ W', Below w5.heap.size w5 W' → (W'.cell? ⟨w.heap.size + 1, 0, none⟩ = some (.slice A0 held.length c0) ∧ W'.cell? ⟨w.heap.size + 1, 1, none⟩ = some (.slice A1 asks.length c1))) := fun W' hW => ⟨cell_later hW q0, cell_later hW q1⟩
               clear hd5 hd5')
            | (go_at_call 46
               with_reducible refine (HKA.out w4.heap.size _ ?_ ?_ ?_).mono ?_
               · with_reducible exact HW2.out.drew
               · exact HI2.out
               · omega
               rintro e w5 ⟨z, hz, rfl, hd5⟩
               have hd5' : Drawn p (KK + 8 + 2 + 2 + 2) ((w4.alloc (.cells #[.int .i64 0, .int .i64 0, .int .i64 5, .int .i64 9] 2)).alloc (.cells #[.slice none 0 0, .slice none 0 0] 27)) w5 := ⟨hd5.src, ⟨hd5.chg.os, hd5.chg.tape, hd5.chg.output, hd5.chg.size, hd5.chg.block⟩⟩
               have HS5 := Lib.hid ((HS4.out.later HW2.out).drawn hd5' (by omega) hpw)
               have HSS5 := Lib.hid (SubO.strs3 (SubO.drawn (own_later HN4.out HW2.out) (HS4.out.draw.src.later HW2.out) hd5'))
               have HBXE := Lib.hid (HE2.out.drawn hd5' (show w4.heap.size + 1 ≠ p by omega))
               have q0 := HS5.out.box.cell 0
               have q1 := HS5.out.box.cell 1
               have qz := HS5.out.box.lt
               simp at q0 q1
               have HC5 : Hid (∀ W', Below w5.heap.size w5 W' → (W'.cell? ⟨w.heap.size + 1, 0, none⟩ = some (.slice A0 held.length c0) ∧ W'.cell? ⟨w.heap.size + 1, 1, none⟩ = some (.slice A1 asks.length c1))) := fun W' hW => ⟨cell_later hW q0, cell_later hW q1⟩
               clear hd5 hd5')
            | (go_at_call 46
               with_reducible refine (HKA.out (w4.heap.size + 1) _ ?_ ?_ ?_).mono ?_
               · with_reducible exact HW3.out.drew
               · exact HI3.out
               · omega
               rintro e w5 ⟨z, hz, rfl, hd5⟩
               have hd5' : Drawn p (KK + 8 + 2 + 2 + 2) ((w4.alloc (.cells #[.slice none 0 0, .slice none 0 0] 27)).alloc (.cells #[.int .i64 0, .int .i64 0, .int .i64 5, .int .i64 9] 2)) w5 := ⟨hd5.src, ⟨hd5.chg.os, hd5.chg.tape, hd5.chg.output, hd5.chg.size, hd5.chg.block⟩⟩
               have HS5 := Lib.hid ((HS4.out.later HW3.out).drawn hd5' (by omega) hpw)
               have HSS5 := Lib.hid (SubO.strs3 (SubO.drawn (own_later HN4.out HW3.out) (HS4.out.draw.src.later HW3.out) hd5'))
               have HBXE := Lib.hid (HE3.out.drawn hd5' (show w4.heap.size ≠ p by omega))
               have q0 := HS5.out.box.cell 0
               have q1 := HS5.out.box.cell 1
               have qz := HS5.out.box.lt
               simp at q0 q1
               have HC5 : Hid (∀ W', Below w5.heap.size w5 W' → (W'.cell? ⟨w.heap.size + 1, 0, none⟩ = some (.slice A0 held.length c0) ∧ W'.cell? ⟨w.heap.size + 1, 1, none⟩ = some (.slice A1 asks.length c1))) := fun W' hW => ⟨cell_later hW q0, cell_later hW q1⟩
               clear hd5 hd5')
            | (go_at_call 19
               have hguard : Blk w5 (w4.heap.size + 1) 27 #[.slice none 0 0, .slice none 0 0] := by with_reducible exact HBXE.out
               clear hguard
               with_reducible refine (HKT.out z w5 ?_ ?_).mono ?_
               · exact HS5.out.its
               · exact HSS5.out
               rintro e w6 ⟨x0, x1, vs6, us6, rfl, g0, g1, gx, hb6⟩
               have HDO := Lib.hid (HTO.out z)
               generalize tlB held asks (1 + (xj : Int)) nm ss z = r at *
               obtain ⟨tk, code, h2, a2⟩ := r
               obtain ⟨A5, c5, rfl, _, _, _⟩ := own_slice g0.row
               obtain ⟨A6, c6, rfl, _, _, _⟩ := own_slice g1.row
               have hw55 := HS5.out.draw.chg.size
               have hw5 := hw55
               have HS6 := Lib.hid (HS5.out.later hb6)
               have hbx : Blk w6 (w4.heap.size + 1) 27 #[.slice none 0 0, .slice none 0 0] := HBXE.out.later hb6 HBXE.out.lt
               have hside := HS6.out.side (x := .slice A5 h2.length c5) (y := .slice A6 a2.length c6) hbx (by omega) (by omega) (by omega) hpw
               have HSa := Lib.hid hside
               have HSb := Lib.hid (hside.put ((g0.base hw5).two hbx (by decide)) ((g1.base hw5).two hbx (by decide)) gx (by omega) hpw (Nat.le_succ _))
               have bx0 := hbx.cell 0
               have bx1 := hbx.cell 1
               have bf0 := hbx.frozen 0
               have bf1 := hbx.frozen 1
               have bz := hbx.lt
               simp at bx0 bx1
               clear hbx hside
               have s0 := HS6.out.box.cell 0
               have s1 := HS6.out.box.cell 1
               have sf0 := HS6.out.box.frozen 0
               have sf1 := HS6.out.box.frozen 1
               have sz := HS6.out.box.lt
               simp at s0 s1
               have HC6 : Hid (∀ W', Below w6.heap.size w6 W' → (W'.cell? ⟨w.heap.size + 1, 0, none⟩ = some (.slice A0 held.length c0) ∧ W'.cell? ⟨w.heap.size + 1, 1, none⟩ = some (.slice A1 asks.length c1))) := fun W' hW => ⟨cell_later hW s0, cell_later hW s1⟩
               have HC7 := Lib.hid (And.intro ((HSa.out.box.cell 0).trans (show _ = some (Value.slice A0 held.length c0) from rfl)) ((HSa.out.box.cell 1).trans (show _ = some (Value.slice A1 asks.length c1) from rfl)))
               clear g0 g1 gx hb6)
            | (go_at_call 19
               have hguard : Blk w5 (w4.heap.size) 27 #[.slice none 0 0, .slice none 0 0] := by with_reducible exact HBXE.out
               clear hguard
               with_reducible refine (HKT.out z w5 ?_ ?_).mono ?_
               · exact HS5.out.its
               · exact HSS5.out
               rintro e w6 ⟨x0, x1, vs6, us6, rfl, g0, g1, gx, hb6⟩
               have HDO := Lib.hid (HTO.out z)
               generalize tlB held asks (1 + (xj : Int)) nm ss z = r at *
               obtain ⟨tk, code, h2, a2⟩ := r
               obtain ⟨A5, c5, rfl, _, _, _⟩ := own_slice g0.row
               obtain ⟨A6, c6, rfl, _, _, _⟩ := own_slice g1.row
               have hw55 := HS5.out.draw.chg.size
               have hw5 := hw55
               have HS6 := Lib.hid (HS5.out.later hb6)
               have hbx : Blk w6 (w4.heap.size) 27 #[.slice none 0 0, .slice none 0 0] := HBXE.out.later hb6 HBXE.out.lt
               have hside := HS6.out.side (x := .slice A5 h2.length c5) (y := .slice A6 a2.length c6) hbx (by omega) (by omega) (by omega) hpw
               have HSa := Lib.hid hside
               have HSb := Lib.hid (hside.put ((g0.base hw5).two hbx (by decide)) ((g1.base hw5).two hbx (by decide)) gx (by omega) hpw (Nat.le_succ _))
               have bx0 := hbx.cell 0
               have bx1 := hbx.cell 1
               have bf0 := hbx.frozen 0
               have bf1 := hbx.frozen 1
               have bz := hbx.lt
               simp at bx0 bx1
               clear hbx hside
               have s0 := HS6.out.box.cell 0
               have s1 := HS6.out.box.cell 1
               have sf0 := HS6.out.box.frozen 0
               have sf1 := HS6.out.box.frozen 1
               have sz := HS6.out.box.lt
               simp at s0 s1
               have HC6 : Hid (∀ W', Below w6.heap.size w6 W' → (W'.cell? ⟨w.heap.size + 1, 0, none⟩ = some (.slice A0 held.length c0) ∧ W'.cell? ⟨w.heap.size + 1, 1, none⟩ = some (.slice A1 asks.length c1))) := fun W' hW => ⟨cell_later hW s0, cell_later hW s1⟩
               have HC7 := Lib.hid (And.intro ((HSa.out.box.cell 0).trans (show _ = some (Value.slice A0 held.length c0) from rfl)) ((HSa.out.box.cell 1).trans (show _ = some (Value.slice A1 asks.length c1) from rfl)))
               clear g0 g1 gx hb6)
            | (go_at_call 19
               with_reducible refine (HKT.out z w5 ?_ ?_).mono ?_
               · exact HS5.out.its
               · exact HSS5.out
               rintro e w6 ⟨x0, x1, vs6, us6, rfl, g0, g1, gx, hb6⟩
               have HDO := Lib.hid (HTO.out z)
               generalize tlB held asks (1 + (xj : Int)) nm ss z = r at *
               obtain ⟨tk, code, h2, a2⟩ := r
               obtain ⟨A5, c5, rfl, _, _, _⟩ := own_slice g0.row
               obtain ⟨A6, c6, rfl, _, _, _⟩ := own_slice g1.row
               have hw55 := HS5.out.draw.chg.size
               have hw5 := hw55
               have HS6 := Lib.hid (HS5.out.later hb6)
               have HSa := Lib.hid (HS6.out.later (Below.new w6 (.cells #[.slice A5 h2.length c5, .slice A6 a2.length c6] 27)))
               have HSb := Lib.hid ((HS6.out.put (g0.base hw5) (g1.base hw5) gx (by omega) hpw (Nat.le_succ _)).later (Below.new _ (.cells #[.slice A5 h2.length c5, .slice A6 a2.length c6] 27)))
               have s0 := HS6.out.box.cell 0
               have s1 := HS6.out.box.cell 1
               have sf0 := HS6.out.box.frozen 0
               have sf1 := HS6.out.box.frozen 1
               have sz := HS6.out.box.lt
               simp at s0 s1
               have HC6 : Hid (∀ W', Below w6.heap.size w6 W' → (W'.cell? ⟨w.heap.size + 1, 0, none⟩ = some (.slice A0 held.length c0) ∧ W'.cell? ⟨w.heap.size + 1, 1, none⟩ = some (.slice A1 asks.length c1))) := fun W' hW => ⟨cell_later hW s0, cell_later hW s1⟩
               have HC7 := Lib.hid (And.intro ((HSa.out.box.cell 0).trans (show _ = some (Value.slice A0 held.length c0) from rfl)) ((HSa.out.box.cell 1).trans (show _ = some (Value.slice A1 asks.length c1) from rfl)))
               clear g0 g1 gx hb6)
            | (go_at_call 19
               with_reducible refine (HKT.out z (w5.alloc (.cells #[.slice none 0 0, .slice none 0 0] 27)) ?_ ?_).mono ?_
               · exact (HS5.out.later (Below.new w5 _)).its
               · exact HSS5.out.later (Below.new w5 _)
               rintro e w6 ⟨x0, x1, vs6, us6, rfl, g0, g1, gx, hb6⟩
               have HDO := Lib.hid (HTO.out z)
               generalize tlB held asks (1 + (xj : Int)) nm ss z = r at *
               obtain ⟨tk, code, h2, a2⟩ := r
               obtain ⟨A5, c5, rfl, _, _, _⟩ := own_slice g0.row
               obtain ⟨A6, c6, rfl, _, _, _⟩ := own_slice g1.row
               have hw55 := HS5.out.draw.chg.size
               have hw5 : w.heap.size ≤ (w5.alloc (.cells #[.slice none 0 0, .slice none 0 0] 27)).heap.size := by have := HS5.out.draw.chg.size; simp; omega
               have HS6 := Lib.hid ((HS5.out.later (Below.new w5 (.cells #[.slice none 0 0, .slice none 0 0] 27))).later hb6)
               have hbx : Blk w6 (w5.heap.size) 27 #[.slice none 0 0, .slice none 0 0] := Blk.later (heap_last rfl) hb6 (by simp)
               have hside := HS6.out.side (x := .slice A5 h2.length c5) (y := .slice A6 a2.length c6) hbx (by omega) (by omega) (by omega) hpw
               have HSa := Lib.hid hside
               have HSb := Lib.hid (hside.put ((g0.base hw5).two hbx (by decide)) ((g1.base hw5).two hbx (by decide)) gx (by omega) hpw (Nat.le_succ _))
               have bx0 := hbx.cell 0
               have bx1 := hbx.cell 1
               have bf0 := hbx.frozen 0
               have bf1 := hbx.frozen 1
               have bz := hbx.lt
               simp at bx0 bx1
               clear hbx hside
               have s0 := HS6.out.box.cell 0
               have s1 := HS6.out.box.cell 1
               have sf0 := HS6.out.box.frozen 0
               have sf1 := HS6.out.box.frozen 1
               have sz := HS6.out.box.lt
               simp at s0 s1
               have HC6 : Hid (∀ W', Below w6.heap.size w6 W' → (W'.cell? ⟨w.heap.size + 1, 0, none⟩ = some (.slice A0 held.length c0) ∧ W'.cell? ⟨w.heap.size + 1, 1, none⟩ = some (.slice A1 asks.length c1))) := fun W' hW => ⟨cell_later hW s0, cell_later hW s1⟩
               have HC7 := Lib.hid (And.intro ((HSa.out.box.cell 0).trans (show _ = some (Value.slice A0 held.length c0) from rfl)) ((HSa.out.box.cell 1).trans (show _ = some (Value.slice A1 asks.length c1) from rfl)))
               clear g0 g1 gx hb6))
          all_goals
            try dsimp only at HDO
            clear p0 p1 f0 f1 pz q0 q1 qz
            by_cases hc : code = 0
            · subst hc
              have HOK5 := Lib.hid (HDO.out rfl)
              clear HDO HSa
              go_wp2_with fail
              go_roundw
              case rel => exact ⟨k - 1, h2, a2, vs6, us6, _, _, by go_num, by omega, HOK5.out, HSb.out.mono hkB⟩
              case measure => simp [intOf]; omega
            · have hc2 : (code == 0) = false := beq_eq_false_iff_ne.2 hc
              clear HDO HSb
              go_wp2_with fail
              go_roundw
              case rel => exact ⟨k - 1, held, asks, vs, us, _, _, by go_num, by omega, HOK.out, HSa.out.mono hkB⟩
              case measure => simp [intOf]; omega
    · obtain rfl : k = 0 := by omega
      obtain ⟨A0, c0, A1, c1, rfl, rfl, hc0, hc1, hi0, hi1⟩ := HS.out.views
      have p0 := HS.out.box.cell 0
      have p1 := HS.out.box.cell 1
      have r0 := HS.out.res.cell 0
      have r1 := HS.out.res.cell 1
      have f0 := HS.out.res.frozen 0
      have f1 := HS.out.res.frozen 1
      have pz := HS.out.box.lt
      have rz := HS.out.res.lt
      simp at p0 p1 r0 r1
      go_wp2_with fail
      have hbf := box_two HS.out.res (.slice A0 held.length c0) (.slice A1 asks.length c1)
      have t0 := (hbf.cell 0).trans rfl
      have t1 := (hbf.cell 1).trans rfl
      refine bodyPost_ret (v := .agg #[.slice A0 held.length c0, .slice A1 asks.length c1]) (by simp [results, Tryz.results76, go_sem, t0, t1]) rfl ?_
      have hgr := (grown_set wr w.heap.size 0 (.slice A0 held.length c0)).trans (grown_set (wr.setCell ⟨w.heap.size, 0, none⟩ (.slice A0 held.length c0)) w.heap.size 1 (.slice A1 asks.length c1))
      exact ⟨_, _, held, asks, vs, us, rfl, HS.out.h.two HS.out.res (by decide), HS.out.a.two HS.out.res (by decide), HS.out.cross, HOK.out, (HS.out.draw.grown hgr (fun g e => by cases e; exact Nat.le_refl _) hpw).mono (by omega)⟩
end Go.Proofs.YtiebcdajoddkpaaGreatDoor

