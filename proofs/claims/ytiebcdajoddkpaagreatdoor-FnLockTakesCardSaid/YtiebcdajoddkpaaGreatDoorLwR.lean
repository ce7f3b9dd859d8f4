/-
  Frames by ranges of blocks; items of the call's own, changed cell by cell; marks in strings of the call's own.
-/
import Derived.Test.YtiebcdajoddkpaaGreatDoorLkAcq
namespace Go.Proofs.YtiebcdajoddkpaaGreatDoor
open Go.RowKit

/-- Of the blocks that were there, those with P alone may have changed. -/
structure Chg (P : Nat → Prop) (w w' : World) : Prop where
  os : w'.os = w.os
  tape : w'.tape = w.tape
  output : w'.output = w.output
  size : w.heap.size ≤ w'.heap.size
  block : ∀ i, i < w.heap.size → ¬ P i → w'.heap[i]? = w.heap[i]?
theorem Chg.refl (P : Nat → Prop) (w : World) : Chg P w w := ⟨rfl, rfl, rfl, Nat.le_refl _, fun _ _ _ => rfl⟩
theorem Chg.trans {P : Nat → Prop} {a b c : World} (h : Chg P a b) (k : Chg P b c) : Chg P a c :=
  ⟨k.os.trans h.os, k.tape.trans h.tape, k.output.trans h.output, Nat.le_trans h.size k.size, fun i hi' hr => (k.block i (Nat.lt_of_lt_of_le hi' h.size) hr).trans (h.block i hi' hr)⟩
theorem Chg.of_below {P : Nat → Prop} {a b : World} (h : Below a.heap.size a b) : Chg P a b := ⟨h.os, h.tape, h.output, h.size, fun i hi' _ => h.block i hi'⟩
theorem Chg.of_grown {P : Nat → Prop} {a b : World} {row : Option Nat} (h : a.grownBy b row) (hr : ∀ g, row = some g → P g) : Chg P a b :=
  ⟨h.os, h.tape, h.output, h.size, fun i hi' ho => h.block i hi' (fun e => ho (hr i e.symm))⟩
theorem Chg.set {P : Nat → Prop} {a b : World} {g : Nat} (h : Chg P a b) (h1 : P g) (i : Nat) (u : Value) : Chg P a (b.setCell ⟨g, i, none⟩ u) :=
  h.trans (Chg.of_grown (grown_set b g i u) (fun g' e => by obtain rfl : g = g' := by simpa using e
                                                            exact h1))
theorem Chg.mono {P Q : Nat → Prop} {a b : World} (h : Chg P a b) (h1 : ∀ g, P g → Q g) : Chg Q a b :=
  ⟨h.os, h.tape, h.output, h.size, fun i hx ho => h.block i hx (fun hp => ho (h1 i hp))⟩
theorem Chg.below {P : Nat → Prop} {B : Nat} {a b c : World} (h : Below B a b) (k : Chg P b c) (hB : ∀ g, P g → B ≤ g) (hs : B ≤ a.heap.size) : Below B a c :=
  ⟨k.os.trans h.os, k.tape.trans h.tape, k.output.trans h.output, Nat.le_trans h.size k.size, fun i hi' => (k.block i (Nat.lt_of_lt_of_le (Nat.lt_of_lt_of_le hi' hs) h.size) (fun hp => by have := hB i hp; omega)).trans (h.block i hi')⟩
theorem Blk.chg {P : Nat → Prop} {w w' : World} {g : Nat} {t : TypeId} {cs : Array Value} (h : Blk w g t cs) (k : Chg P w w') (hg : ¬ P g) : Blk w' g t cs := (k.block g h.lt hg).trans h
/-- All of its blocks have P. -/
def inP (P : Nat → Prop) (v : Value) : Prop := ∀ g, v.ownBlock = some g → P g
theorem own_chg {P : Nat → Prop} {w w' : World} {base e size n : Nat} {v : Value} {xs : List Value} (h : w.ownsRow base e size v n xs) (k : Chg P w w') (hg : inP (fun g => ¬ P g) v) : w'.ownsRow base e size v n xs := by
  refine ⟨h.1, ?_⟩
  rcases h.2 with hn | ⟨g, cap, cur, rfl, hb, hgg, rest⟩
  · exact .inl hn
  · exact .inr ⟨g, cap, cur, rfl, hb, (k.block g (Blk.lt (t := e) hgg) (hg g rfl)).trans hgg, rest⟩
theorem inP_of {w : World} {base e size n : Nat} {v : Value} {xs : List Value} (h : w.ownsRow base e size v n xs) {P : Nat → Prop} (hP : ∀ g, base ≤ g → g < w.heap.size → P g) : inP P v := fun g hg => by
  have := h.lt g hg
  exact hP g this.1 this.2
theorem mem_of_getD {α : Type} (l : List α) (j : Nat) (dd : α) (h : j < l.length) : l.getD j dd ∈ l := by
  rw [List.getD_eq_getElem?_getD, List.getElem?_eq_getElem h]; simp
theorem OwnIts.inP {w : World} {base t : Nat} {v : Value} {fs : List ItD} {vs : List Value} (h : OwnIts w base t v fs vs) {P : Nat → Prop} (hP : ∀ g, base ≤ g → g < w.heap.size → P g) : inP P v ∧ ∀ u ∈ vs, Go.Proofs.YtiebcdajoddkpaaGreatDoor.inP P u :=
  ⟨inP_of h.row hP, fun u hu => by
    obtain ⟨j, hj, rfl⟩ := mem_getD hu
    exact inP_of (h.subs j (by rw [← h.len]; exact hj)) hP⟩
theorem OwnIts.chg {P : Nat → Prop} {w w' : World} {base t : Nat} {v : Value} {fs : List ItD} {vs : List Value} (h : OwnIts w base t v fs vs) (k : Chg P w w') (hu : Go.Proofs.YtiebcdajoddkpaaGreatDoor.inP (fun g => ¬ P g) v) (hus : ∀ u ∈ vs, Go.Proofs.YtiebcdajoddkpaaGreatDoor.inP (fun g => ¬ P g) u) : OwnIts w' base t v fs vs :=
  ⟨h.len, own_chg h.row k hu, fun j hj => own_chg (h.subs j hj) k (hus _ (mem_of_getD _ _ _ (by rw [h.len]; exact hj))), h.aprt⟩
theorem inP_mono {P Q : Nat → Prop} {v : Value} (h : inP P v) (hq : ∀ g, P g → Q g) : inP Q v := fun g hg => hq g (h g hg)
/-- Own blocks of some items. -/
def blocksOf (v : Value) (vs : List Value) (g : Nat) : Prop := v.ownBlock = some g ∨ ∃ u ∈ vs, u.ownBlock = some g

theorem flat_set : ∀ (fs : List ItD) (vs : List Value) (i c : Nat) (u : Value) (d : ItD), vs.length = fs.length → i < fs.length → c < 4 → (∀ v, cellsIt d v = (cellsIt (fs.getD i default) v).set c u) →
    (flat fs vs).set (i * 4 + c) u = flat (fs.set i d) vs
  | f :: fs, v :: vs, 0, c, u, d, _, _, hc, hd => by
    have h1 := hd v
    rw [List.getD_cons_zero] at h1
    rw [List.set_cons_zero, flat, flat, h1, Nat.zero_mul, Nat.zero_add, List.set_append_left _ _ (by simp [cellsIt]; omega)]
  | f :: fs, v :: vs, i + 1, c, u, d, h, hi, hc, hd => by
    have ih := flat_set fs vs i c u d (by simpa using h) (by simpa using hi) hc (by simpa using hd)
    rw [List.set_cons_succ, flat, flat, List.set_append_right _ _ (by simp [cellsIt]; omega), ← ih]
    congr 2
    simp [cellsIt]; omega
  | [], _, _, _, _, _, _, hi, _, _ => by simp at hi
  | _ :: _, [], _, _, _, _, h, _, _, _ => by simp at h
theorem flat_subs : ∀ (fs : List ItD) (vs : List Value) (i : Nat) (ss : List ByteArray), flat (fs.set i { fs.getD i default with subs := ss }) vs = flat fs vs
  | f :: fs, v :: vs, 0, ss => rfl
  | f :: fs, v :: vs, i + 1, ss => by
    have ih := flat_subs fs vs i ss
    rw [List.set_cons_succ, flat, flat, List.getD_cons_succ, ih]
  | [], _, _, _ => rfl
  | _ :: _, [], 0, _ => rfl
  | _ :: _, [], _ + 1, _ => rfl
theorem getD_set_ {α : Type} (l : List α) (i j : Nat) (x dd : α) (hi : i < l.length) : (l.set i x).getD j dd = if i = j then x else l.getD j dd := by
  rw [List.getD_eq_getElem?_getD, List.getElem?_set]
  by_cases e : i = j
  · subst e; simp [hi]
  · simp [e]

/-- One cell of an item is written. -/
theorem OwnIts.put {w : World} {base t g n cap : Nat} {fs : List ItD} {vs : List Value} (h : OwnIts w base t (.slice (some ⟨g, 0, none⟩) n cap) fs vs) (hn : fs.length = n) {i c q : Nat} (hi : i < n) (hc : c < 4) (hq : q = i * 4 + c) {u : Value} {d d' : ItD}
    (hd : fs.getD i default = d) (hc' : ∀ v, cellsIt d' v = (cellsIt d v).set c u) (hsub : d'.subs = d.subs) (ht : 9 ≠ t) : OwnIts (w.setCell ⟨g, q, none⟩ u) base t (.slice (some ⟨g, 0, none⟩) n cap) (fs.set i d') vs := by
  subst hn hq hd
  obtain ⟨h1, h2⟩ := h.row.stored (i * 4 + c) u
  refine ⟨by simpa using h.len, ?_, fun j hj => ?_, h.aprt⟩
  · rw [flat_set fs vs i c u d' h.len hi hc hc'] at h1
    rw [List.length_set]
    exact h1
  · have hs := h.subs j (by simpa using hj)
    have hse : ((fs.set i d').getD j default).subs = (fs.getD j default).subs := by
      rw [getD_set_ _ _ _ _ _ hi]
      by_cases e : i = j
      · subst e; rw [if_pos rfl, hsub]
      · rw [if_neg e]
    rw [hse]
    exact World.ownsRow.kept hs h2 (apart_types hs h.row ht)
theorem pw_apart {vs : List Value} (h : vs.Pairwise apart) {i j : Nat} (hi : i < vs.length) (hj : j < vs.length) (hne : j ≠ i) (dd : Value) : apart (vs.getD j dd) (vs.getD i dd) := by
  rw [List.pairwise_iff_getElem] at h
  rw [List.getD_eq_getElem?_getD, List.getD_eq_getElem?_getD, List.getElem?_eq_getElem hi, List.getElem?_eq_getElem hj]
  rcases Nat.lt_or_gt_of_ne hne with h1 | h1
  · exact h j i hj hi h1
  · exact apart_symm (h i j hi hj h1)
/-- The strings of an item are written. -/
theorem OwnIts.mark {w w' : World} {base t : Nat} {v : Value} {fs : List ItD} {vs : List Value} (h : OwnIts w base t v fs vs) {i : Nat} (hi : i < fs.length) {ss : List ByteArray} (hs : SubO w' base (vs.getD i (.slice none 0 0)) ss) (hg : w.grownBy w' (vs.getD i (.slice none 0 0)).ownBlock) (ht : 9 ≠ t) :
    OwnIts w' base t v (fs.set i { fs.getD i default with subs := ss }) vs := by
  refine ⟨by simpa using h.len, ?_, fun j hj => ?_, h.aprt⟩
  · rw [flat_subs, List.length_set]
    exact kept_apart h.row hg (apart_symm (apart_types (h.subs i hi) h.row ht))
  · rw [List.length_set] at hj
    rw [getD_set_ _ _ _ _ _ hi]
    by_cases e : i = j
    · subst e
      rw [if_pos rfl]
      exact hs
    · rw [if_neg e]
      exact kept_apart (h.subs j hj) hg (pw_apart h.aprt (by rw [h.len]; exact hi) (by rw [h.len]; exact hj) (fun e' => e e'.symm) _)
theorem own_blk {w : World} {base e size n g cap : Nat} {xs : List Value} (h : w.ownsRow base e size (.slice (some ⟨g, 0, none⟩) n cap) n xs) : ∃ cur, Blk w g e cur := by
  rcases h.2 with ⟨h', _⟩ | ⟨g', cap', cur, h', _, hg, _⟩
  · simp at h'
  · simp only [Value.slice.injEq, Option.some.injEq, Addr.mk.injEq, and_true, true_and] at h'
    obtain ⟨rfl, rfl⟩ := h'
    exact ⟨cur, hg⟩

def MarkPost (base k n : Nat) (v : Value) (w : World) (e : Ending) (w' : World) : Prop := e = .returned (.int .i64 (k + n : Nat)) ∧ SubO w' base v (marks n k) ∧ w.grownBy w' v.ownBlock
set_option maxHeartbeats 1000000 in
theorem markStringS_own (base k : Nat) (v : Value) (ss : List ByteArray) (w : World) (h : SubO w base v ss) (hn : ss.length ≤ 1048576) (hk : k ≤ 4398046511104) :
    Calls Tryz.prog 32 #[v, .int .i64 k] w (MarkPost base k ss.length v w) := by
  obtain ⟨A, cap, rfl, _, _, hA⟩ := own_slice h
  have HO := Lib.hid h
  clear h
  generalize hN : ss.length = n at *
  have HN := Lib.hid hN
  clear hN
  go_enter Tryz.func32, Tryz.ntmps32
  go_wp2_with fail
  go_loopw [1, 5] (fun q i wr => ∃ (j : Nat) (ms : List ByteArray), j ≤ n ∧ i = .int .i64 j ∧ q = .int .i64 (k + j : Nat) ∧ w.grownBy wr (Value.slice A n cap).ownBlock ∧ Hid (ms.length = n) ∧ wr.ownsRow base 9 1 (.slice A n cap) n (ms.map Value.string) ∧ Hid (∀ i, i < j → ms.getD i ByteArray.empty = markT (k + i))) (fun _ i _ => n - (intOf i).toNat)
  case atStart =>
    refine ⟨0, ss, Nat.zero_le _, rfl, rfl, World.grownBy.refl w _, HN.out, ?_, fun i hi => absurd hi (by omega)⟩
    have hx := HO.out
    unfold SubO at hx
    rw [HN.out] at hx
    exact hx
  case round =>
    obtain ⟨j, ms, hj, rfl, rfl, hg, hml, hO, hM⟩ := hrel
    have HG := Lib.hid hg
    have HO1 := Lib.hid hO
    clear hg hO
    by_cases hlt : j < n
    · obtain ⟨g, rfl, hgl, hgb⟩ := hA (by omega)
      obtain ⟨cur, hblk⟩ := own_blk HO1.out
      have hs : (ms.map Value.string)[j]? = some (.string (ms.getD j ByteArray.empty)) := by
        have hl : j < ms.length := by rw [hml.out]; exact hlt
        rw [List.getElem?_map, List.getElem?_eq_getElem hl, List.getD_eq_getElem?_getD, List.getElem?_eq_getElem hl]; rfl
      have HK := Lib.hid (markText_any (k + j))
      go_wp2_with fail
      refine (HK.out _ (by omega)).mono ?_
      rintro e w1 ⟨rfl, hb1⟩
      have hO2 := own_later HO1.out hb1
      have x0 := own_cell hO2 j _ (by omega) hs
      have y0 := (hblk.later hb1 hblk.lt).frozen j
      have z0 := (hblk.later hb1 hblk.lt).lt
      have HG1 := Lib.hid (grown_trans' HG.out (grown_of_below hb1 (some g)))
      have HO2 := Lib.hid (hO2.stored j (.string (markT (k + j))))
      clear hb1 hblk hs hO2
      generalize ms.getD j ByteArray.empty = old at *
      generalize hm : markT (k + j) = mt at *
      have HM := Lib.hid hm
      clear hm
      go_wp2_with fail
      go_roundw
      case rel =>
        refine ⟨j + 1, ms.set j mt, by omega, by go_num, by go_num, grown_trans' HG1.out HO2.out.2, ?_, ?_, fun i hi => ?_⟩
        · unfold Hid; simp [hml.out]
        · rw [List.map_set]; exact HO2.out.1
        · rw [getD_set_ _ _ _ _ _ (by rw [hml.out]; exact hlt)]
          by_cases e : j = i
          · subst e; rw [if_pos rfl, HM.out]
          · rw [if_neg e]; exact hM.out i (by omega)
      case measure => simp [intOf]; omega
    · obtain rfl : j = n := by omega
      go_wp2_with fail
      go_ret
      refine ⟨rfl, ?_, HG.out⟩
      have he : ms = marks j k := by
        apply List.ext_getElem (by rw [hml.out, marks_len])
        intro i h1 h2
        have e1 := hM.out i (by rw [hml.out] at h1; exact h1)
        have e2 := marks_at j k i (by rw [hml.out] at h1; exact h1)
        rw [List.getD_eq_getElem?_getD, List.getElem?_eq_getElem h1] at e1
        rw [List.getD_eq_getElem?_getD, List.getElem?_eq_getElem h2] at e2
        simp only [Option.getD_some] at e1 e2
        rw [e1, e2]
      have hx := HO1.out
      rw [he] at hx
      unfold SubO
      rw [marks_len]
      exact hx
end Go.Proofs.YtiebcdajoddkpaaGreatDoor
