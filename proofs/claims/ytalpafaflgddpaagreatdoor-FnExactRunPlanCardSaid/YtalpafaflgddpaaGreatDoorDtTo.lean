/-
  What toX and toXS make of the struct types: copies in memory of their own. (Printed by gen_dtto.py.)
-/
import Derived.Test.YtalpafaflgddpaaGreatDoorOwnC
import Derived.Test.YtalpafaflgddpaaGreatDoorDtSz
namespace Go.Proofs.YtalpafaflgddpaaGreatDoor
open Go.RowKit Own
set_option linter.unusedVariables false

theorem own_far {w : World} {base e size n g i : Nat} {v u : Value} {xs : List Value} (h : w.ownsRow base e size v n xs) (hg : g < base) : (w.setCell ⟨g, i, none⟩ u).ownsRow base e size v n xs :=
  World.ownsRow.kept h (row := some g) (grown_set _ _ _ _) (by
    cases hv : v.ownBlock with
    | none => exact .inl rfl
    | some b =>
      refine .inr ?_
      intro e
      have h1 := (World.ownsRow.lt h b hv).1
      have h2 : b = g := by simpa using e
      omega)
section
variable {α : Type} [Inhabited α]
/-- The items laid so far. -/
structure LaidG (K : Kind α) (w : World) (g : Nat) (t : TypeId) (n : Nat) (fs : List α) (k : Nat) (cs : Array Value) (vs : List Value) : Prop where
  blk : Blk w g t cs
  size : cs.size = n * K.size
  vlen : vs.length = k
  row : cs.toList.take (k * K.size) = flat K (fs.take k) vs
  subs : ∀ j, j < k → SubO w (g + 1) (vs.getD j (.slice none 0 0)) (K.subs (fs.getD j default))
  aprt : vs.Pairwise apart
variable {K : Kind α}
theorem LaidG.later {w w' : World} {g t n k : Nat} {fs : List α} {cs : Array Value} {vs : List Value} (h : LaidG K w g t n fs k cs vs) (hb : Below w.heap.size w w') : LaidG K w' g t n fs k cs vs :=
  ⟨h.blk.later hb h.blk.lt, h.size, h.vlen, h.row, fun j hj => own_later (h.subs j hj) hb, h.aprt⟩
theorem LaidG.snoc {w w1 w2 : World} {g t n k : Nat} {fs : List α} {cs cs' : Array Value} {vs : List Value} {v : Value} {d : α} (h : LaidG K w g t n fs k cs vs) (hb : Below w.heap.size w w1) (hl : fs.length = n) (hk : k < n) (hd : fs.getD k default = d) (hs : SubO w1 w.heap.size v (K.subs d))
    (hblk : Blk w2 g t cs') (hsz : cs'.size = cs.size) (hrow : cs'.toList.take ((k + 1) * K.size) = cs.toList.take (k * K.size) ++ K.cells d v) (hkeep : ∀ {v' : Value} {ss : List ByteArray}, SubO w1 (g + 1) v' ss → SubO w2 (g + 1) v' ss) :
    LaidG K w2 g t n fs (k + 1) cs' (vs ++ [v]) := by
  have h1 := h.later hb
  have hlt := h.blk.lt
  refine ⟨hblk, hsz.trans h.size, by simp [h.vlen], ?_, fun j hj => ?_, ?_⟩
  · rw [hrow, h.row, List.take_succ_eq_append_getElem (by omega), flat_append K _ _ _ _ (by rw [h.vlen, List.length_take]; omega)]
    rw [List.getD_eq_getElem?_getD, List.getElem?_eq_getElem (by omega)] at hd
    simp only [Option.getD_some] at hd
    rw [hd]
    simp [flat]
  · by_cases e : j = k
    · subst e
      rw [hd, List.getD_eq_getElem?_getD, List.getElem?_append_right (by rw [h.vlen]; exact Nat.le_refl _), h.vlen, Nat.sub_self]
      exact hkeep (own_base hs (by omega))
    · rw [List.getD_eq_getElem?_getD, List.getElem?_append_left (by rw [h.vlen]; omega), ← List.getD_eq_getElem?_getD]
      exact hkeep (h1.subs j (by omega))
  · rw [List.pairwise_append]
    refine ⟨h.aprt, List.pairwise_singleton _ _, fun a ha b hb' => ?_⟩
    rw [List.mem_singleton.1 hb']
    obtain ⟨j, hj, rfl⟩ := mem_getD ha
    exact apart_new (h.subs j (by rw [← h.vlen]; exact hj)) hs (Nat.le_refl _)
theorem LaidG.own {w : World} {g t : Nat} {fs : List α} {cs : Array Value} {vs : List Value} (h : LaidG K w g t fs.length fs fs.length cs vs) (hm : fs.length ≤ maxLen) : OwnL K w g t (.slice (some ⟨g, 0, none⟩) fs.length fs.length) fs vs := by
  refine ⟨h.vlen, ⟨flat_len K _ _ h.vlen, .inr ⟨g, fs.length, cs, rfl, Nat.le_refl _, h.blk, Nat.le_refl _, hm, h.size, ?_⟩⟩, fun j hj => own_base (h.subs j hj) (by omega), h.aprt⟩
  rw [h.row, List.take_of_length_le (Nat.le_refl _)]
/-- A slice of items of the call's own is handed back. -/
def OwnPost (K : Kind α) (base : Nat) (t : TypeId) (fs : List α) (w : World) (e : Ending) (w' : World) : Prop := ∃ v vs, e = .returned v ∧ OwnL K w' base t v fs vs ∧ Below w.heap.size w w'
theorem own_chg_far {w w' : World} {base e size n B0 : Nat} {v : Value} {xs : List Value} (h : w.ownsRow base e size v n xs) (k : Chg (fun g => B0 ≤ g ∧ g < base) w w') : w'.ownsRow base e size v n xs :=
  own_chg h k (inP_of h (fun g hg _ hP => by omega))
theorem OwnL.chg_far {w w' : World} {base t B0 : Nat} {v : Value} {fs : List α} {vs : List Value} (h : OwnL K w base t v fs vs) (k : Chg (fun g => B0 ≤ g ∧ g < base) w w') : OwnL K w' base t v fs vs :=
  ⟨h.len, own_chg_far h.row k, fun j hj => own_chg_far (h.subs j hj) k, h.aprt⟩
theorem chg_wider {w w' : World} {B0 B1 B2 : Nat} (k : Chg (fun g => B0 ≤ g ∧ g < B1) w w') (h : B1 ≤ B2) : Chg (fun g => B0 ≤ g ∧ g < B2) w w' := k.mono fun g hg => ⟨hg.1, by omega⟩
end
theorem heap_3of4 (w : World) (a b c d : Obj) : ((((w.alloc a).alloc b).alloc c).alloc d).heap[w.heap.size + 1 + 1 + 1]? = some d := heap_last (by simp)
theorem heap_2of4 (w : World) (a b c d : Obj) : ((((w.alloc a).alloc b).alloc c).alloc d).heap[w.heap.size + 1 + 1]? = some c := (Below.heap_alloc _ d _ (by simp)).trans (heap_new2 w a b c)
theorem heap_1of4 (w : World) (a b c d : Obj) : ((((w.alloc a).alloc b).alloc c).alloc d).heap[w.heap.size + 1]? = some b := (Below.heap_alloc _ d _ (by simp)).trans (heap_new1 w a b c)
theorem heap_0of4 (w : World) (a b c d : Obj) : ((((w.alloc a).alloc b).alloc c).alloc d).heap[w.heap.size]? = some a := (Below.heap_alloc _ d _ (by simp; omega)).trans (heap_new0 w a b c)
theorem below_new4 (w : World) (a b c d : Obj) : Below w.heap.size w ((((w.alloc a).alloc b).alloc c).alloc d) := (((Below.new w a).later (Below.new _ b)).later (Below.new _ c)).later (Below.new _ d)
theorem below_new3 (w : World) (a b c : Obj) : Below w.heap.size w (((w.alloc a).alloc b).alloc c) := ((Below.new w a).later (Below.new _ b)).later (Below.new _ c)
theorem take_set3d (cs : Array Value) (k : Nat) (x0 x1 x2 : Value) (h : k * 3 + 2 < cs.size) :
    (((cs.setIfInBounds (k * 3) x0).setIfInBounds (k * 3 + 1) x1).setIfInBounds (k * 3 + 2) x2).toList.take ((k + 1) * 3) = cs.toList.take (k * 3) ++ [x0, x1, x2] := by
  apply List.ext_getElem?
  intro i
  rw [List.getElem?_take, List.getElem?_append]
  simp only [Array.getElem?_toList, Array.getElem?_setIfInBounds, Array.size_setIfInBounds, List.length_take, Array.length_toList]
  rw [Nat.min_eq_left (show k * 3 ≤ cs.size by omega), List.getElem?_take]
  by_cases h1 : i < k * 3
  · rw [if_pos (by omega), if_neg (by omega), if_neg (by omega), if_neg (by omega), if_pos h1, if_pos h1, Array.getElem?_toList]
  · rw [if_neg h1]
    by_cases h2 : i < (k + 1) * 3
    · rw [if_pos h2]
      have h3 : i = k * 3 ∨ i = k * 3 + 1 ∨ i = k * 3 + 2 := by omega
      rcases h3 with rfl | rfl | rfl
      · rw [if_neg (by omega), if_neg (by omega), if_pos rfl, if_pos (by omega), show k * 3 - k * 3 = 0 by omega]; rfl
      · rw [if_neg (by omega), if_pos rfl, if_pos (by omega), show k * 3 + 1 - k * 3 = 1 by omega]; rfl
      · rw [if_pos rfl, if_pos (by omega), show k * 3 + 2 - k * 3 = 2 by omega]; rfl
    · rw [if_neg h2, List.getElem?_eq_none (by simp; omega)]

def nodeK : Kind NodeD := ⟨3, fun d v => [.string d.name, v, .string d.val], fun d => d.subs, fun _ _ => rfl, by decide⟩
theorem infoNodeD : (Tryz.prog.info? 78).map (fun i => (i.zero, i.size, i.bytes)) = some (some (.agg #[.string .empty, .slice none 0 0, .string .empty]), 3, 56) := by kernel_rfl
theorem OwnL.Nodes {w : World} {base t : Nat} {v : Value} {fs : List NodeD} {vs : List Value} (h : OwnL nodeK w base t v fs vs) : ∃ A cap, v = .slice A fs.length cap ∧ fs.length ≤ cap ∧ Nodes w w.heap.size A fs.length fs := by
  obtain ⟨A, cap, rfl, hc, _, hA⟩ := own_slice h.row
  refine ⟨A, cap, rfl, hc, rfl, fun hn => ?_⟩
  obtain ⟨g, rfl, hg, _⟩ := hA hn
  refine ⟨g, 0, rfl, hg, fun j hj => ?_⟩
  have h0 := h.cellAt rfl j 0 hj (by decide)
  have h1 := h.cellAt rfl j 1 hj (by decide)
  have h2 := h.cellAt rfl j 2 hj (by decide)
  obtain ⟨A1, cap1, e1, hc1, hs1⟩ := (h.subs j hj).strs
  refine ⟨_, _, _, by rw [Nat.zero_add]; exact h0, by rw [Nat.zero_add]; exact h1, by rw [Nat.zero_add]; exact h2, rfl, ⟨A1, _, cap1, e1, hs1, hc1⟩, rfl⟩

set_option maxHeartbeats 2000000 in
theorem toNode_any (c0 c1 c2 : Value) (d : NodeD) (w : World) (h : NodeR w w.heap.size c0 c1 c2 d) (hs : d.small) :
    Calls Tryz.prog 69 #[.agg #[c0, c1, c2]] w fun e w' => ∃ v1, e = .returned (.agg #[.string d.name, v1, .string d.val]) ∧ SubO w' w.heap.size v1 d.subs ∧ Below w.heap.size w w' := by
  obtain ⟨rfl, ⟨A1, n1, p1, rfl, s1, k1⟩, rfl⟩ := h
  have HK1 := Lib.hid (fun W (hW : Below w.heap.size w W) => toStringS_any A1 n1 p1 d.subs W (s1.later hW) (by rw [← s1.1]; exact hs.2.1.1))
  have HM1 : Hid (d.subs.length ≤ maxLen) := by unfold Hid maxLen; have := hs.2.1.1; omega
  have HN1 := Lib.hid s1.1
  clear s1 hs
  go_enter Tryz.func69, Tryz.ntmps69
  go_wp2_with fail
  refine (HK1.out _ (by exact below_new3 _ _ _ _)).mono ?_
  rintro e w1 ⟨rfl, rfl⟩
  go_wp2_with fail
  refine bodyPost_ret (v := .agg #[.string d.name, .slice (some ⟨w.heap.size + 1 + 1 + 1, 0, none⟩) n1 n1, .string d.val]) (by simp [results, Tryz.results69, go_sem]) rfl ⟨_, rfl, ?_, ?_⟩
  · have hN := HN1.out
    subst hN
    exact sub_of_blk (heap_3of4 _ _ _ _ _) (by omega) HM1.out
  · exact below_new4 _ _ _ _ _

set_option maxHeartbeats 2000000 in
theorem toNodeS_any (A : Option Addr) (n c : Nat) (fs : List NodeD) (w : World) (h : Nodes w w.heap.size A n fs) (hs : fs.length ≤ 1048576 ∧ ∀ d ∈ fs, d.small) :
    Calls Tryz.prog 37 #[.slice A n c] w (OwnPost nodeK w.heap.size 78 fs w) := by
  have Hh := Lib.hid h
  have Hlen := Lib.hid h.1
  have Hf := Lib.hid hs.2
  have hn : n ≤ 1048576 := by rw [← h.1]; exact hs.1
  clear h hs
  obtain ⟨i0, hi, hz0, hz1, hz2⟩ := info_parts infoNodeD
  have hmk := fun W => run_make_rowN (P := Tryz.prog) 39 78 i0 _ Tryz.underlying39 hi hz0 .i64 .i64 n n (Nat.le_refl _) (by rw [hz2]; omega) (by omega) W
  simp only [hz1] at hmk
  clear hz0 hz1 hz2 hi
  go_enter Tryz.func37, Tryz.ntmps37
  go_wp2_with fail
  clear hmk
  go_loopw [4] (fun i wr => ∃ (k : Nat) (cs : Array Value) (vs : List Value), k ≤ n ∧ i = .int .i64 k ∧ Below w.heap.size w wr ∧ LaidG nodeK wr w.heap.size 78 n fs k cs vs) (fun i _ => n - (intOf i).toNat)
  case atStart => exact ⟨0, _, [], Nat.zero_le _, rfl, Below.new _ _, heap_alloc_new _ _, size_madeCells _ _, rfl, by simp [flat], fun j hj => absurd hj (by omega), List.Pairwise.nil⟩
  case round =>
    obtain ⟨k, cs, vs, hk, rfl, hb, hlaid⟩ := hrel
    have HB := Lib.hid hb
    have HL := Lib.hid hlaid
    clear hb hlaid
    by_cases hlt : k < n
    · obtain ⟨b, o, rfl, hbB, hc⟩ := (Hh.out.later HB.out).2 (by omega)
      obtain ⟨c0, c1, c2, k0, k1, k2, hr⟩ := hc k hlt
      clear hc
      have hl' : k < fs.length := by rw [Hlen.out]; exact hlt
      have HC := Lib.hid (toNode_any c0 c1 c2 (fs.getD k default) wr hr (Hf.out _ (getD_memD fs k hl')))
      clear hl' hr
      generalize hd : fs.getD k default = d at *
      have HD := Lib.hid hd
      clear hd
      go_wp2_with fail
      refine (HC.out).mono ?_
      rintro e w1 ⟨v, rfl, hsub, hb1⟩
      obtain ⟨A2, cap2, rfl, _⟩ := own_slice hsub
      have HB1 := Lib.hid (HB.out.later hb1)
      have hsz : k * 3 + 2 < cs.size := by have := HL.out.size; simp only [nodeK] at this; omega
      have HL1 : Hid (LaidG nodeK (((w1.setCell ⟨w.heap.size, k * 3, none⟩ (.string d.name)).setCell ⟨w.heap.size, k * 3 + 1, none⟩ (.slice A2 d.subs.length cap2)).setCell ⟨w.heap.size, k * 3 + 2, none⟩ (.string d.val)) w.heap.size 78 n fs (k + 1) (((cs.setIfInBounds (k * 3) (.string d.name)).setIfInBounds (k * 3 + 1) (.slice A2 d.subs.length cap2)).setIfInBounds (k * 3 + 2) (.string d.val)) (vs ++ [(.slice A2 d.subs.length cap2)])) :=
        HL.out.snoc hb1 Hlen.out hlt HD.out hsub ((((Blk.later HL.out.blk hb1 HL.out.blk.lt).set_ _ _).set_ _ _).set_ _ _) (by simp) (take_set3d cs k _ _ _ hsz) (fun hx => (sub_far (sub_far (sub_far hx (by omega)) (by omega)) (by omega)))
      have hblk := (HL.out.later hb1).blk
      have x0 := (hblk.cell (k * 3)).trans (Array.getElem?_eq_getElem (show k * 3 < cs.size by omega))
      have x1 := (hblk.cell (k * 3 + 1)).trans (Array.getElem?_eq_getElem (show k * 3 + 1 < cs.size by omega))
      have x2 := (hblk.cell (k * 3 + 2)).trans (Array.getElem?_eq_getElem (show k * 3 + 2 < cs.size by omega))
      have y0 := hblk.frozen (k * 3)
      have y1 := hblk.frozen (k * 3 + 1)
      have y2 := hblk.frozen (k * 3 + 2)
      have HW : Hid (Below w.heap.size w (((w1.setCell ⟨w.heap.size, k * 3, none⟩ (.string d.name)).setCell ⟨w.heap.size, k * 3 + 1, none⟩ (.slice A2 d.subs.length cap2)).setCell ⟨w.heap.size, k * 3 + 2, none⟩ (.string d.val))) := (((HB1.out.setCell (p := ⟨w.heap.size, k * 3, none⟩) (Nat.le_refl _) _).setCell (p := ⟨w.heap.size, k * 3 + 1, none⟩) (Nat.le_refl _) _).setCell (p := ⟨w.heap.size, k * 3 + 2, none⟩) (Nat.le_refl _) _)
      clear hb1 hsub hblk
      generalize cs[k * 3] = v0 at *
      generalize cs[k * 3 + 1] = v1 at *
      generalize cs[k * 3 + 2] = v2 at *
      go_wp2_with fail
      go_roundw
      case rel => exact ⟨k + 1, _, _, by omega, by go_num, HW.out, HL1.out⟩
      case measure => simp [intOf]; omega
    · obtain rfl : k = n := by omega
      have HM : Hid (k ≤ maxLen) := by unfold Hid maxLen; omega
      go_wp2_with fail
      go_ret
      refine ⟨_, vs, rfl, ?_, HB.out⟩
      have hx := HL.out
      have hl := Hlen.out
      subst hl
      exact hx.own HM.out

def condK : Kind CondD := ⟨3, fun d v => [.string d.col, .int .i64 d.op, .string d.val], fun d => [], fun _ _ => rfl, by decide⟩
theorem infoCondD : (Tryz.prog.info? 101).map (fun i => (i.zero, i.size, i.bytes)) = some (some (.agg #[.string .empty, .int .i64 0, .string .empty]), 3, 40) := by kernel_rfl
theorem OwnL.Conds {w : World} {base t : Nat} {v : Value} {fs : List CondD} {vs : List Value} (h : OwnL condK w base t v fs vs) : ∃ A cap, v = .slice A fs.length cap ∧ fs.length ≤ cap ∧ Conds w w.heap.size A fs.length fs := by
  obtain ⟨A, cap, rfl, hc, _, hA⟩ := own_slice h.row
  refine ⟨A, cap, rfl, hc, rfl, fun hn => ?_⟩
  obtain ⟨g, rfl, hg, _⟩ := hA hn
  refine ⟨g, 0, rfl, hg, fun j hj => ?_⟩
  have h0 := h.cellAt rfl j 0 hj (by decide)
  have h1 := h.cellAt rfl j 1 hj (by decide)
  have h2 := h.cellAt rfl j 2 hj (by decide)
  refine ⟨_, _, _, by rw [Nat.zero_add]; exact h0, by rw [Nat.zero_add]; exact h1, by rw [Nat.zero_add]; exact h2, rfl, rfl, rfl⟩

set_option maxHeartbeats 2000000 in
theorem toCond_any (c0 c1 c2 : Value) (d : CondD) (w : World) (h : CondR w w.heap.size c0 c1 c2 d) :
    Calls Tryz.prog 70 #[.agg #[c0, c1, c2]] w fun e w' => e = .returned (.agg #[.string d.col, .int .i64 d.op, .string d.val]) ∧ Below w.heap.size w w' := by
  obtain ⟨rfl, rfl, rfl⟩ := h
  go_enter Tryz.func70, Tryz.ntmps70
  go_wp2_with fail
  refine bodyPost_ret (v := .agg #[.string d.col, .int .i64 d.op, .string d.val]) (by simp [results, Tryz.results70, go_sem]) rfl ⟨rfl, below_new3 _ _ _ _⟩

set_option maxHeartbeats 2000000 in
theorem toCondS_any (A : Option Addr) (n c : Nat) (fs : List CondD) (w : World) (h : Conds w w.heap.size A n fs) (hs : fs.length ≤ 1048576 ∧ ∀ d ∈ fs, d.small) :
    Calls Tryz.prog 39 #[.slice A n c] w (OwnPost condK w.heap.size 101 fs w) := by
  have Hh := Lib.hid h
  have Hlen := Lib.hid h.1
  have Hf := Lib.hid hs.2
  have hn : n ≤ 1048576 := by rw [← h.1]; exact hs.1
  clear h hs
  obtain ⟨i0, hi, hz0, hz1, hz2⟩ := info_parts infoCondD
  have hmk := fun W => run_make_rowN (P := Tryz.prog) 45 101 i0 _ Tryz.underlying45 hi hz0 .i64 .i64 n n (Nat.le_refl _) (by rw [hz2]; omega) (by omega) W
  simp only [hz1] at hmk
  clear hz0 hz1 hz2 hi
  go_enter Tryz.func39, Tryz.ntmps39
  go_wp2_with fail
  clear hmk
  go_loopw [4] (fun i wr => ∃ (k : Nat) (cs : Array Value) (vs : List Value), k ≤ n ∧ i = .int .i64 k ∧ Below w.heap.size w wr ∧ LaidG condK wr w.heap.size 101 n fs k cs vs) (fun i _ => n - (intOf i).toNat)
  case atStart => exact ⟨0, _, [], Nat.zero_le _, rfl, Below.new _ _, heap_alloc_new _ _, size_madeCells _ _, rfl, by simp [flat], fun j hj => absurd hj (by omega), List.Pairwise.nil⟩
  case round =>
    obtain ⟨k, cs, vs, hk, rfl, hb, hlaid⟩ := hrel
    have HB := Lib.hid hb
    have HL := Lib.hid hlaid
    clear hb hlaid
    by_cases hlt : k < n
    · obtain ⟨b, o, rfl, hbB, hc⟩ := (Hh.out.later HB.out).2 (by omega)
      obtain ⟨c0, c1, c2, k0, k1, k2, hr⟩ := hc k hlt
      clear hc
      have hl' : k < fs.length := by rw [Hlen.out]; exact hlt
      have HC := Lib.hid (toCond_any c0 c1 c2 (fs.getD k default) wr hr)
      clear hl' hr
      generalize hd : fs.getD k default = d at *
      have HD := Lib.hid hd
      clear hd
      go_wp2_with fail
      refine (HC.out).mono ?_
      rintro e w1 ⟨rfl, hb1⟩
      have hsub : SubO w1 wr.heap.size (.slice none 0 0) [] := sub_nil _ _
      have HB1 := Lib.hid (HB.out.later hb1)
      have hsz : k * 3 + 2 < cs.size := by have := HL.out.size; simp only [condK] at this; omega
      have HL1 : Hid (LaidG condK (((w1.setCell ⟨w.heap.size, k * 3, none⟩ (.string d.col)).setCell ⟨w.heap.size, k * 3 + 1, none⟩ (.int .i64 d.op)).setCell ⟨w.heap.size, k * 3 + 2, none⟩ (.string d.val)) w.heap.size 101 n fs (k + 1) (((cs.setIfInBounds (k * 3) (.string d.col)).setIfInBounds (k * 3 + 1) (.int .i64 d.op)).setIfInBounds (k * 3 + 2) (.string d.val)) (vs ++ [(.slice none 0 0)])) :=
        HL.out.snoc hb1 Hlen.out hlt HD.out hsub ((((Blk.later HL.out.blk hb1 HL.out.blk.lt).set_ _ _).set_ _ _).set_ _ _) (by simp) (take_set3d cs k _ _ _ hsz) (fun hx => (sub_far (sub_far (sub_far hx (by omega)) (by omega)) (by omega)))
      have hblk := (HL.out.later hb1).blk
      have x0 := (hblk.cell (k * 3)).trans (Array.getElem?_eq_getElem (show k * 3 < cs.size by omega))
      have x1 := (hblk.cell (k * 3 + 1)).trans (Array.getElem?_eq_getElem (show k * 3 + 1 < cs.size by omega))
      have x2 := (hblk.cell (k * 3 + 2)).trans (Array.getElem?_eq_getElem (show k * 3 + 2 < cs.size by omega))
      have y0 := hblk.frozen (k * 3)
      have y1 := hblk.frozen (k * 3 + 1)
      have y2 := hblk.frozen (k * 3 + 2)
      have HW : Hid (Below w.heap.size w (((w1.setCell ⟨w.heap.size, k * 3, none⟩ (.string d.col)).setCell ⟨w.heap.size, k * 3 + 1, none⟩ (.int .i64 d.op)).setCell ⟨w.heap.size, k * 3 + 2, none⟩ (.string d.val))) := (((HB1.out.setCell (p := ⟨w.heap.size, k * 3, none⟩) (Nat.le_refl _) _).setCell (p := ⟨w.heap.size, k * 3 + 1, none⟩) (Nat.le_refl _) _).setCell (p := ⟨w.heap.size, k * 3 + 2, none⟩) (Nat.le_refl _) _)
      clear hb1 hsub hblk
      generalize cs[k * 3] = v0 at *
      generalize cs[k * 3 + 1] = v1 at *
      generalize cs[k * 3 + 2] = v2 at *
      go_wp2_with fail
      go_roundw
      case rel => exact ⟨k + 1, _, _, by omega, by go_num, HW.out, HL1.out⟩
      case measure => simp [intOf]; omega
    · obtain rfl : k = n := by omega
      have HM : Hid (k ≤ maxLen) := by unfold Hid maxLen; omega
      go_wp2_with fail
      go_ret
      refine ⟨_, vs, rfl, ?_, HB.out⟩
      have hx := HL.out
      have hl := Hlen.out
      subst hl
      exact hx.own HM.out

set_option maxHeartbeats 2000000 in
theorem toTree_any (c0 : Value) (d : TreeD) (w : World) (h : TreeR w w.heap.size c0 d) (hs : d.small) :
    Calls Tryz.prog 11 #[.agg #[c0]] w fun e w' => ∃ v0 vs0, e = .returned (.agg #[v0]) ∧ OwnL nodeK w' w.heap.size 78 v0 d.nodes vs0 ∧ Below w.heap.size w w' := by
  obtain ⟨A0, n0, p0, rfl, s0, k0⟩ := h
  have HK := Lib.hid (fun W (hW : Below w.heap.size w W) => toNodeS_any A0 n0 p0 d.nodes W (s0.later hW) hs)
  clear s0 hs
  go_enter Tryz.func11, Tryz.ntmps11
  go_wp2_with fail
  refine (HK.out _ (by exact below_new3 _ _ _ _)).mono ?_
  rintro e w1 ⟨v, vs, rfl, hO, hb⟩
  obtain ⟨A, cap, rfl, _⟩ := own_slice hO.row
  have hz : w.heap.size + 1 + 1 + 1 ≤ w1.heap.size := by have := hb.size; simp at this; omega
  have HY := Lib.hid (Blk.later (heap_new1 w _ _ _) hb (by simp))
  have HZ := Lib.hid (Blk.later (heap_new2 w _ _ _) hb (by simp))
  have HB := Lib.hid ((below_new3 w _ _ _).later hb)
  have HO : Hid (OwnL nodeK w1 (w.heap.size + 1 + 1 + 1) 78 (.slice A d.nodes.length cap) d.nodes vs) := hO.base (by simp)
  have py := HY.out.cell
  have fy := HY.out.frozen
  have pz := HZ.out.cell
  have fz := HZ.out.frozen
  clear hb hO
  go_wp2_with fail
  have HC : Hid (Chg (fun g => w.heap.size ≤ g ∧ g < w.heap.size + 1 + 1 + 1) w1 ((w1.setCell ⟨w.heap.size + 1 + 1, 0, none⟩ (.slice A d.nodes.length cap)).setCell ⟨w.heap.size + 1, 0, none⟩ (.slice A d.nodes.length cap))) :=
    ((Chg.refl _ _).set (by constructor <;> omega) _ _).set (by constructor <;> omega) _ _
  refine bodyPost_ret (v := .agg #[.slice A d.nodes.length cap]) (by simp [results, Tryz.results11, go_sem, py]) rfl ⟨_, vs, rfl, ?_, ?_⟩
  · exact (OwnL.chg_far HO.out HC.out).base (by omega)
  · exact Chg.below HB.out HC.out (fun g hg => hg.1) (Nat.le_refl _)

set_option maxHeartbeats 2000000 in
theorem toTable_any (c0 c1 c2 c3 : Value) (d : TableD) (w : World) (h : TableR w w.heap.size c0 c1 c2 c3 d) (hs : d.small) :
    Calls Tryz.prog 12 #[.agg #[c0, c1, c2, c3]] w fun e w' => ∃ v2 v3, e = .returned (.agg #[.string d.name, .string d.glob, v2, v3]) ∧ SubO w' w.heap.size v2 d.cols ∧ SubO w' w.heap.size v3 d.idx ∧ apart v2 v3 ∧ Below w.heap.size w w' := by
  obtain ⟨rfl, rfl, ⟨A2, n2, p2, rfl, s2, k2⟩, ⟨A3, n3, p3, rfl, s3, k3⟩⟩ := h
  have HK2 := Lib.hid (fun W (hW : Below w.heap.size w W) => toStringS_any A2 n2 p2 d.cols W (s2.later hW) (by rw [← s2.1]; exact hs.2.2.1.1))
  have HM2 : Hid (d.cols.length ≤ maxLen) := by unfold Hid maxLen; have := hs.2.2.1.1; omega
  have HN2 := Lib.hid s2.1
  have HK3 := Lib.hid (fun W (hW : Below w.heap.size w W) => toStringS_any A3 n3 p3 d.idx W (s3.later hW) (by rw [← s3.1]; exact hs.2.2.2.1))
  have HM3 : Hid (d.idx.length ≤ maxLen) := by unfold Hid maxLen; have := hs.2.2.2.1; omega
  have HN3 := Lib.hid s3.1
  clear s2 s3 hs
  go_enter Tryz.func12, Tryz.ntmps12
  go_wp2_with fail
  refine (HK2.out _ (by exact below_new3 _ _ _ _)).mono ?_
  rintro e w2 ⟨rfl, rfl⟩
  go_wp2_with fail
  refine (HK3.out _ (by exact below_new4 _ _ _ _ _)).mono ?_
  rintro e w3 ⟨rfl, rfl⟩
  go_wp2_with fail
  refine bodyPost_ret (v := .agg #[.string d.name, .string d.glob, .slice (some ⟨w.heap.size + 1 + 1 + 1, 0, none⟩) n2 n2, .slice (some ⟨w.heap.size + 1 + 1 + 1 + 1, 0, none⟩) n3 n3]) (by simp [results, Tryz.results12, go_sem]) rfl ⟨_, _, rfl, ?_, ?_, ?_, ?_⟩
  · have hN := HN2.out
    subst hN
    exact sub_of_blk ((Below.heap_alloc _ _ _ (by simp)).trans (heap_3of4 _ _ _ _ _)) (by omega) HM2.out
  · have hN := HN3.out
    subst hN
    exact sub_of_blk (heap_last (by simp)) (by omega) HM3.out
  · exact .inr (by simp [Value.ownBlock])
  · exact (below_new4 _ _ _ _ _).later (Below.new _ _)

set_option maxHeartbeats 2000000 in
theorem toQuery_any (c0 c1 c2 c3 c4 c5 : Value) (d : QueryD) (w : World) (h : QueryR w w.heap.size c0 c1 c2 c3 c4 c5 d) (hs : d.small) :
    Calls Tryz.prog 13 #[.agg #[c0, c1, c2, c3, c4, c5]] w fun e w' => ∃ v1 v2 vs2, e = .returned (.agg #[.string d.table, v1, v2, .string d.order, .bool d.desc, .int .i64 d.limit]) ∧ SubO w' w.heap.size v1 d.cols ∧ OwnL condK w' w.heap.size 101 v2 d.wher vs2 ∧ Below w.heap.size w w' := by
  obtain ⟨rfl, ⟨A1, n1, p1, rfl, s1, k1⟩, ⟨A2, n2, p2, rfl, s2, k2⟩, rfl, rfl, rfl⟩ := h
  have HK1 := Lib.hid (fun W (hW : Below w.heap.size w W) => toStringS_any A1 n1 p1 d.cols W (s1.later hW) (by rw [← s1.1]; exact hs.2.1.1))
  have HM1 : Hid (d.cols.length ≤ maxLen) := by unfold Hid maxLen; have := hs.2.1.1; omega
  have HN1 := Lib.hid s1.1
  have HK2 := Lib.hid (fun W (hW : Below w.heap.size w W) => toCondS_any A2 n2 p2 d.wher W (s2.later hW) hs.2.2.1)
  clear s1 s2 hs
  go_enter Tryz.func13, Tryz.ntmps13
  go_wp2_with fail
  refine (HK1.out _ (by exact below_new3 _ _ _ _)).mono ?_
  rintro e w1 ⟨rfl, rfl⟩
  go_wp2_with fail
  refine (HK2.out _ (by exact below_new4 _ _ _ _ _)).mono ?_
  rintro e w1 ⟨v, vs, rfl, hO, hb⟩
  obtain ⟨A, cap, rfl, _⟩ := own_slice hO.row
  have hz : w.heap.size + 1 + 1 + 1 + 1 ≤ w1.heap.size := by have := hb.size; simp at this; omega
  have HX := Lib.hid (Blk.later (heap_0of4 w _ _ _ _) hb (by first | (simp; done) | (simp; omega)))
  have HY := Lib.hid (Blk.later (heap_1of4 w _ _ _ _) hb (by first | (simp; done) | (simp; omega)))
  have HZ := Lib.hid (Blk.later (heap_2of4 w _ _ _ _) hb (by simp))
  have HB := Lib.hid ((below_new4 w _ _ _ _).later hb)
  have HO : Hid (OwnL condK w1 (w.heap.size + 1 + 1 + 1) 101 (.slice A d.wher.length cap) d.wher vs) := hO.base (by first | (simp; done) | (simp; omega))
  have HS : Hid (SubO w1 (w.heap.size + 1 + 1 + 1) (.slice (some ⟨w.heap.size + 1 + 1 + 1, 0, none⟩) n1 n1) d.cols) := by
    have hN := HN1.out
    subst hN
    exact sub_of_blk (Blk.later (heap_3of4 w _ _ _ _) hb (by simp)) (Nat.le_refl _) HM1.out
  have px := HX.out.cell
  have py := HY.out.cell
  have fy := HY.out.frozen
  have pz := HZ.out.cell
  have fz := HZ.out.frozen
  clear hb hO
  go_wp2_with fail
  refine bodyPost_ret (v := .agg #[.string d.table, .slice (some ⟨w.heap.size + 1 + 1 + 1, 0, none⟩) n1 n1, .slice A d.wher.length cap, .string d.order, .bool d.desc, .int .i64 d.limit]) (by simp [results, Tryz.results13, go_sem, py]) rfl ⟨_, _, vs, rfl, ?_, ?_, ?_⟩
  · refine own_base (own_chg_far (B0 := w.heap.size) HS.out ?_) (show w.heap.size ≤ w.heap.size + 1 + 1 + 1 by omega)
    iterate 10 (refine Chg.set ?_ (by constructor <;> omega) _ _)
    exact Chg.refl _ _
  · refine (OwnL.chg_far (B0 := w.heap.size) HO.out ?_).base (by omega)
    iterate 10 (refine Chg.set ?_ (by constructor <;> omega) _ _)
    exact Chg.refl _ _
  · refine Chg.below (P := fun g => w.heap.size ≤ g ∧ g < w.heap.size + 1 + 1 + 1) HB.out ?_ (fun g hg => hg.1) (Nat.le_refl _)
    iterate 10 (refine Chg.set ?_ (by constructor <;> omega) _ _)
    exact Chg.refl _ _

set_option maxHeartbeats 2000000 in
theorem toPlan_any (c0 c1 c2 : Value) (d : PlanD) (w : World) (h : PlanR w w.heap.size c0 c1 c2 d) :
    Calls Tryz.prog 14 #[.agg #[c0, c1, c2]] w fun e w' => e = .returned (.agg #[.int .i64 d.kind, .string d.col, .string d.val]) ∧ Below w.heap.size w w' := by
  obtain ⟨rfl, rfl, rfl⟩ := h
  go_enter Tryz.func14, Tryz.ntmps14
  go_wp2_with fail
  refine bodyPost_ret (v := .agg #[.int .i64 d.kind, .string d.col, .string d.val]) (by simp [results, Tryz.results14, go_sem]) rfl ⟨rfl, below_new3 _ _ _ _⟩
end Go.Proofs.YtalpafaflgddpaaGreatDoor
