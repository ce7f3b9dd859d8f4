/-
  slices.Sorted(slices.Values(names)) at strings: the names, sorted, in memory of the call's own. (The iterator's part is turned from the kit's GgSlicesIterAtTheDump.) slices.Sorted(slices.Values(names)) and slices.Compact at strings; distinct of the program. Plain laws of row nodes: in a right tree the nodes of a table's rows with one key are at most one. Those events of a row that are notes: l25Safe. (Printed by gen_ty6.py.) Any event, drawn: l25AnyEvent. (Printed by gen_ty7.py.)
-/
import Derived.Test.YtgmaamnofhmecaaGreatDoorZ00
import Derived.Test.YtgmaamnofhmecaaGreatDoorZ01
import Derived.Test.YtgmaamnofhmecaaGreatDoorZ02
import Derived.Test.YtgmaamnofhmecaaGreatDoorZ03
import Derived.Test.YtgmaamnofhmecaaGreatDoorZ04
import Derived.Test.YtgmaamnofhmecaaGreatDoorZ05
import Derived.Test.YtgmaamnofhmecaaGreatDoorZ06
import Derived.Test.YtgmaamnofhmecaaGreatDoorZ07
import Derived.Test.YtgmaamnofhmecaaGreatDoorZ08
import Derived.Test.YtgmaamnofhmecaaGreatDoorZ09
import Derived.Test.YtgmaamnofhmecaaGreatDoorZ10
import Derived.Test.YtgmaamnofhmecaaGreatDoorZ11
import Derived.Test.YtgmaamnofhmecaaGreatDoorZ12
import Derived.Test.YtgmaamnofhmecaaGreatDoorZ13
import Derived.Test.YtgmaamnofhmecaaGreatDoorZ14
import Derived.Test.YtgmaamnofhmecaaGreatDoorZ15
import Derived.Test.YtgmaamnofhmecaaGreatDoorZ16
import Derived.Test.YtgmaamnofhmecaaGreatDoorZ17
import Derived.Test.YtgmaamnofhmecaaGreatDoorZ18
import Derived.Test.YtgmaamnofhmecaaGreatDoorZ19
import Derived.Test.YtgmaamnofhmecaaGreatDoorZ20
import Derived.Test.YtgmaamnofhmecaaGreatDoorZ21
import Derived.Test.YtgmaamnofhmecaaGreatDoorZ22
import Derived.Test.YtgmaamnofhmecaaGreatDoorZ23
import Derived.Test.YtgmaamnofhmecaaGreatDoorZ24
import Derived.Test.YtgmaamnofhmecaaGreatDoorZ25
import Derived.Test.YtgmaamnofhmecaaGreatDoorZ26
import Derived.Test.YtgmaamnofhmecaaGreatDoorZ27
import Derived.Test.YtgmaamnofhmecaaGreatDoorZ28
import Derived.Test.YtgmaamnofhmecaaGreatDoorZ29
import Derived.Test.YtgmaamnofhmecaaGreatDoorZ30
import Derived.Test.YtgmaamnofhmecaaGreatDoorZ31
import Derived.Test.YtgmaamnofhmecaaGreatDoorZ32
import Derived.Test.YtgmaamnofhmecaaGreatDoorZ33
import Derived.Test.YtgmaamnofhmecaaGreatDoorZ34
import Derived.Test.YtgmaamnofhmecaaGreatDoorZ35
import Derived.Test.YtgmaamnofhmecaaGreatDoorZ36
import Derived.Test.YtgmaamnofhmecaaGreatDoorZ37
import Derived.Test.YtgmaamnofhmecaaGreatDoorZ38
import Derived.Test.YtgmaamnofhmecaaGreatDoorZ39
import Derived.Test.YtgmaamnofhmecaaGreatDoorZ40
import Derived.Test.YtgmaamnofhmecaaGreatDoorZ41
import Derived.Test.YtgmaamnofhmecaaGreatDoorZ42
import Derived.Test.YtgmaamnofhmecaaGreatDoorZ43
import Derived.Test.YtgmaamnofhmecaaGreatDoorProg
import Derived.BigQuiet
import Derived.Deep.QuietTactic
import Derived.Deep.RegionHeld3
import Derived.Ground.GgwProg
import Derived.Ground.Names2Prog
import Derived.Ground.SlgnProg
import Derived.Lib.Hide
import Derived.Lib.OwnBridge
import Derived.Lib.SliceRun
import Derived.Lib.Strings
import Derived.LoopIn
import Derived.LoopNIn
import Derived.Maps.AppendAt
import Derived.OwnWalkIn
import Derived.RangeFuncBox
import Derived.RangeFuncLeaves
import Derived.Shelf.Abstract
import Derived.Shelf.GgClosure.StringsIndexFunc
import Derived.Shelf.GgClosure.StringsIndexFuncTop
import Derived.Shelf.LaysM
import Derived.Shelf.Slices.Cells
import Derived.Shelf.Slices.Clone
import Derived.Shelf.Slices.CompactS
import Derived.Shelf.Slices.Empties2
import Derived.Shelf.Slices.Equal
import Derived.Shelf.Slices.In.SortNone
import Derived.Shelf.Slices.Turned
import Derived.Shelf.SlicesE.Clone
import Derived.Shelf.SlicesG.SearchI
import Derived.Shelf.Small.Bits
import Derived.Shelf.Small.Strs
import Derived.Shelf.Small.Utf8
import Derived.Shelf.Small.Wraps
import Derived.Shelf.Sort.Plain
import Derived.Shelf.Strconv.Itoa0
import Derived.Shelf.Strconv.Itoa1
import Derived.Shelf.Strconv.Itoa2
import Derived.Shelf.Strconv.Itoa3
import Derived.Shelf.Strconv.Itoa4
import Derived.Shelf.Strings.AsciiSet
import Derived.Shelf.Strings.Builder1
import Derived.Shelf.Strings.Builder2
import Derived.Shelf.Strings.Count
import Derived.Shelf.Strings.Explode
import Derived.Shelf.Strings.FuncGrows
import Derived.Shelf.Strings.OnBuilder
import Derived.Shelf.Strings.Prefix
import Derived.Shelf.Strings.Replace
import Derived.Shelf.Strings.RuneCount
import Derived.Shelf.Strings.Runes
import Derived.Shelf.Strings.Search1
import Derived.Shelf.Strings.Search2
import Derived.Shelf.Strings.Search3
import Derived.Shelf.Strings.Shaped
import Derived.Shelf.Strings.Split
import Derived.Shelf.Strings.SplitShaped
import Derived.Shelf.Strings.Trim
import Derived.Shelf.Unicode.Decode
import Derived.Shelf.Unicode.DecodeAny
import Derived.Shelf.Unicode.DecodeLast
import Derived.Shelf.Unicode.DecodeSlow
import Derived.Shelf.Utf8.RuneCount
import Derived.TacticsInMore
import Derived.WalkKit
import Derived.WalkLawsBesides
import Derived.WalkSpells
import Derived.Shelf.SlIter.Collect
import Derived.Deep.AppendLies
import Derived.Deep.CutBlock
import Derived.Deep.DeepCutAuto
import Derived.Deep.RegionLaw
import Derived.Deep.RegionWith
import Derived.IntWalk
import Derived.Laws.OwnMore
import Derived.Lib.AppendIntMem
import Derived.Lib.IndexAny
import Derived.Lib.ItoaNum
import Derived.Lib.SlTrimSet
import Derived.Lib.TrimUEq
import Derived.OwnWalk
import Derived.RegionTactic
import Derived.Shelf.Strings.SlTrimAscii
import Derived.Shelf.Unicode.PredsPay
import Derived.Laws.BitsAllLaws
import Derived.Laws.CopyOwn
import Derived.Laws.CopyRow
import Derived.Laws.IdiomStrings
import Derived.Lib.BufferWrite
import Derived.Lib.IndexBytes
import Derived.Lib.Join
import Derived.Lib.SplitLaws
set_option linter.unusedSimpArgs false
namespace Go.Proofs.YtgmaamnofhmecaaGreatDoor
open Go.RowKit Go.Shelf Go.Proofs.YtgmaamnofhmecaaGreatDoor.Own

attribute [local go_sem] Oper.semAt_some

end Go.Proofs.YtgmaamnofhmecaaGreatDoor
namespace Go.Proofs.YtgmaamnofhmecaaGreatDoor
open Go.RowKit Go.Shelf Go.Proofs.YtgmaamnofhmecaaGreatDoor.Own

attribute [local go_sem] Oper.semAt_some

end Go.Proofs.YtgmaamnofhmecaaGreatDoor
namespace Go.Proofs.YtgmaamnofhmecaaGreatDoor
open Go.RowKit

theorem stepB_irr {a b : NodeD} (hn : a.name = b.name) (hs : a.subs = b.subs) : stepB a b = false := by
  unfold stepB
  rw [aheadB_eq, hn, hs, ← cmpLoc_lt, (cmpLoc_zero _ _ _ _).2 ⟨rfl, rfl⟩]
  rfl
end Go.Proofs.YtgmaamnofhmecaaGreatDoor
namespace Go.Proofs.YtgmaamnofhmecaaGreatDoor
open Go.RowKit
set_option linter.unusedVariables false
set_option linter.unusedSimpArgs false

def evC (w : World) (B : Nat) (c : List Value) (d : EvD) : Prop := ∃ c0 c1 c2 c3 c4, c = [c0, c1, c2, c3, c4] ∧ EvR w B c0 c1 c2 c3 c4 d
theorem evs_of_row {w W : World} {base n : Nat} {v : Value} {l : List EvD} {cs : List Value} (h : W.ownsRow base 55 5 v n cs) (hn : l.length = n) (hc : CellsG 5 (evC w w.heap.size) l cs) (hb : Below w.heap.size w W) : ∃ A cap, v = .slice A n cap ∧ n ≤ cap ∧ Evs W W.heap.size A n l := by
  obtain ⟨A, cap, rfl, hcap, _, hA⟩ := Own.own_slice h
  refine ⟨A, cap, rfl, hcap, hn, fun h0 => ?_⟩
  obtain ⟨g, rfl, hg, _⟩ := hA h0
  refine ⟨g, 0, rfl, hg, fun j hj => ?_⟩
  obtain ⟨c, _, hr, ht⟩ := hc.at j (by rw [hn]; exact hj)
  obtain ⟨c0, c1, c2, c3, c4, rfl, hr⟩ := hr
  have k0 := ht 0 (by decide)
  have k1 := ht 1 (by decide)
  have k2 := ht 2 (by decide)
  have k3 := ht 3 (by decide)
  have k4 := ht 4 (by decide)
  refine ⟨c0, c1, c2, c3, c4, ?_, ?_, ?_, ?_, ?_, hr.later hb⟩
  · rw [Nat.zero_add]; exact Own.own_cell h (j * 5) _ (by omega) k0
  · rw [Nat.zero_add]; exact Own.own_cell h (j * 5 + 1) _ (by omega) k1
  · rw [Nat.zero_add]; exact Own.own_cell h (j * 5 + 2) _ (by omega) k2
  · rw [Nat.zero_add]; exact Own.own_cell h (j * 5 + 3) _ (by omega) k3
  · rw [Nat.zero_add]; exact Own.own_cell h (j * 5 + 4) _ (by omega) k4
def SafePost (l : List EvD) (w : World) (e : Ending) (w' : World) : Prop := ∃ A cap, e = .returned (.slice A l.length cap) ∧ l.length ≤ cap ∧ Evs w' w'.heap.size A l.length l ∧ Below w.heap.size w w'
set_option maxRecDepth 100000 in
set_option maxHeartbeats 8000000 in
theorem l25Safe_any (A : Option Addr) (n c : Nat) (l : List EvD) (w : World) (h : Evs w w.heap.size A n l) (hok : okEs l) :
    Calls Tryz.prog 98 #[.slice A n c] w (SafePost (l.filter noteB) w) := by
  obtain ⟨i0, hi, hz0, hz1, hz2⟩ := info_parts infoEvD
  have H := Lib.hid h
  have HL := Lib.hid h.1
  have hn : n ≤ 1048576 := by rw [← h.1]; exact hok.1
  have HSM := Lib.hid hok.2
  clear h hok
  go_enter Tryz.func98, Tryz.ntmps98
  go_wp2_with fail
  go_loopw [3, 4] (fun v i wr => ∃ (k : Nat) (cs : List Value), k ≤ n ∧ i = .int .i64 k ∧ wr.ownsRow w.heap.size 55 5 v ((l.take k).filter noteB).length cs ∧ CellsG 5 (evC w w.heap.size) ((l.take k).filter noteB) cs ∧ Below w.heap.size w wr) (fun _ i _ => n - (intOf i).toNat)
  case atStart => exact ⟨0, [], Nat.zero_le _, rfl, by simpa using World.ownsRow_lit (e := 55) (size := 5) w #[] 0 (Nat.le_refl _) (by omega) rfl, by rw [List.take_zero]; trivial, Below.new _ _⟩
  case round =>
    obtain ⟨k, cs, hk, rfl, hown, hcs, hb⟩ := hrel
    have HB := Lib.hid hb
    have HO := Lib.hid hown
    have HC := Lib.hid hcs
    have hml := filter_len noteB l k
    clear hb hown hcs
    by_cases hlt : k < n
    · obtain ⟨bb, o, e0, hbB0, hc0⟩ := H.out.2 (by omega)
      subst e0
      obtain ⟨c0, c1, c2, c3, c4, k0, k1, k2, k3, k4, hr⟩ := hc0 k hlt
      have j0 := (HB.out.cell (p := ⟨bb, o + k * 5, none⟩) hbB0).trans k0
      have j1 := (HB.out.cell (p := ⟨bb, o + k * 5 + 1, none⟩) hbB0).trans k1
      have j2 := (HB.out.cell (p := ⟨bb, o + k * 5 + 2, none⟩) hbB0).trans k2
      have j3 := (HB.out.cell (p := ⟨bb, o + k * 5 + 3, none⟩) hbB0).trans k3
      have j4 := (HB.out.cell (p := ⟨bb, o + k * 5 + 4, none⟩) hbB0).trans k4
      clear hc0 k0 k1 k2 k3 k4
      have hl1 : k < l.length := by rw [HL.out]; exact hlt
      have HTS := Lib.hid (filter_snoc noteB l k hl1)
      have hsd := HSM.out _ (getD_memQ l k hl1)
      clear hl1
      generalize l.getD k default = d at *
      have HER := Lib.hid hr
      have HKN := Lib.hid (specNoteOk_any c0 c1 c2 c3 c4 d wr (hr.later HB.out) hsd.1 hsd.2)
      have HRC : Hid (evC w w.heap.size [c0, c1, c2, c3, c4] d) := ⟨_, _, _, _, _, rfl, hr⟩
      obtain ⟨rfl, rfl, ⟨SA, sn, sc, rfl, _, _⟩, rfl, rfl⟩ := hr
      clear hsd HER
      have hbb : bb < wr.heap.size := Nat.lt_of_lt_of_le hbB0 HB.out.size
      go_wp2_with fail
      refine HKN.out.mono ?_
      rintro e w2 ⟨rfl, hb2⟩
      have HB2 := Lib.hid (HB.out.later hb2)
      have HO2 := Lib.hid (Own.own_later HO.out hb2)
      have i0' := cell_later hb2 j0
      have i1 := cell_later hb2 j1
      have i2 := cell_later hb2 j2
      have i3 := cell_later hb2 j3
      have i4 := cell_later hb2 j4
      have hbb2 : bb < w2.heap.size := Nat.lt_of_lt_of_le hbb hb2.size
      clear hb2 HKN j0 j1 j2 j3 j4
      cases hnb : noteB d
      · have HE : Hid ((l.take (k + 1)).filter noteB = (l.take k).filter noteB) := by unfold Hid; rw [HTS.out, if_neg (by rw [hnb]; decide)]
        clear hnb
        go_wp2_with fail
        go_roundw
        case rel =>
          refine ⟨k + 1, cs, by omega, by go_num, ?_, ?_, HB2.out⟩
          · rw [HE.out]; exact HO2.out
          · rw [HE.out]; exact HC.out
        case measure => simp [intOf]; omega
      · have HE : Hid ((l.take (k + 1)).filter noteB = (l.take k).filter noteB ++ [d]) := by unfold Hid; rw [HTS.out, if_pos hnb]
        clear hnb
        generalize hM : ((l.take k).filter noteB).length = m at *
        have HM := Lib.hid hM
        clear hM
        obtain ⟨OA, oc, rfl, _, _, _⟩ := Own.own_slice HO2.out
        have HOWN : Hid ((w2.alloc (.cells #[.int .i64 d.kind, .string d.name, .slice SA sn sc, .string d.val, .int .i64 d.n] 55)).ownsRow w.heap.size 55 5 (.slice OA m oc) m cs) := Own.own_later HO2.out (Below.new _ _)
        have hbs : w.heap.size ≤ (w2.alloc (.cells #[.int .i64 d.kind, .string d.name, .slice SA sn sc, .string d.val, .int .i64 d.n] 55)).heap.size := by have := HB2.out.size; simp; omega
        go_wp2_with (at_builtin; refine wpList_append_own _ rfl (.tmp 17) (.tmp 22) 51 rfl w.heap.size 55 i0 _ 5 72 Tryz.underlying51 hi hz0 hz1 hz2 rfl (by decide) _ m _ rfl HOWN.out ⟨_, 0, none⟩ 1 1 ((#[.int .i64 d.kind, .string d.name, .slice SA sn sc, .string d.val, .int .i64 d.n] : Array Value).toList) rfl rfl ?c1a ?c2a ?c3a ?c4a ?c5a ?_)
        try (case c1a => exact cells_newG (cs := #[.int .i64 d.kind, .string d.name, .slice SA sn sc, .string d.val, .int .i64 d.n]) rfl)
        try (case c2a => simp [Value.oneCell'])
        try (case c3a => unfold maxLen; omega)
        try (case c4a => omega)
        try (case c5a => exact hbs)
        intro v5 w5 hown5 hg5 _
        have HN := Lib.hid hown5
        have HB5 := Lib.hid ((HB2.out.later (Below.new _ (.cells #[.int .i64 d.kind, .string d.name, .slice SA sn sc, .string d.val, .int .i64 d.n] 55))).grown hg5 hbs (fun g e => (HOWN.out.lt g e).1))
        clear hown5 hg5
        go_wp2_with fail
        go_roundw
        case rel =>
          refine ⟨k + 1, cs ++ [.int .i64 d.kind, .string d.name, .slice SA sn sc, .string d.val, .int .i64 d.n], by omega, by go_num, ?_, ?_, HB5.out⟩
          · rw [HE.out, List.length_append, HM.out]; exact HN.out
          · rw [HE.out]; exact HC.out.snoc HRC.out rfl
        case measure => simp [intOf]; omega
    · obtain rfl : k = n := by omega
      have HE : Hid (l.take k = l) := List.take_of_length_le (by rw [HL.out]; exact Nat.le_refl _)
      have HOE := HO.out
      have HCE := HC.out
      rw [HE.out] at HOE HCE
      obtain ⟨A9, c9, rfl, hc9, he9⟩ := evs_of_row HOE rfl HCE HB.out
      have hki : ¬ (k : Int) < (k : Int) := by omega
      go_wp2_with fail
      go_ret
      exact ⟨A9, c9, rfl, hc9, he9, HB.out⟩
end Go.Proofs.YtgmaamnofhmecaaGreatDoor
namespace Go.Proofs.YtgmaamnofhmecaaGreatDoor
open Go.RowKit
set_option linter.unusedVariables false
set_option linter.unusedSimpArgs false

structure AnS (p K : Nat) (w : World) (q : Nat) (kd : Int) (nm : ByteArray) (sv : Value) (ss : List ByteArray) (vl : ByteArray) (nn : Int) (X : World) : Prop where
  res : Blk X w.heap.size 55 #[.int .i64 0, .string ⟨#[]⟩, .slice none 0 0, .string ⟨#[]⟩, .int .i64 0]
  box : Blk X q 55 #[.int .i64 kd, .string nm, sv, .string vl, .int .i64 nn]
  sub : Own.SubO X w.heap.size sv ss
  draw : Drawn p K w X
section
variable {p K K' q : Nat} {w X Y : World} {kd nn : Int} {nm vl : ByteArray} {sv : Value} {ss : List ByteArray}
theorem AnS.later (s : AnS p K w q kd nm sv ss vl nn X) (hb : Below X.heap.size X Y) : AnS p K w q kd nm sv ss vl nn Y := ⟨s.res.later hb s.res.lt, s.box.later hb s.box.lt, sub_later s.sub hb, s.draw.later hb⟩
theorem AnS.drawn (s : AnS p K w q kd nm sv ss vl nn X) (hd : Drawn p K' X Y) (hp : p < w.heap.size) (hq : w.heap.size ≤ q) : AnS p K' w q kd nm sv ss vl nn Y :=
  ⟨Blk.drawn s.res hd (by omega), Blk.drawn s.box hd (by omega), SubO.drawn s.sub s.draw.src hd, s.draw.trans hd⟩
theorem AnS.mono (s : AnS p K w q kd nm sv ss vl nn X) (hK : K ≤ K') : AnS p K' w q kd nm sv ss vl nn X := ⟨s.res, s.box, s.sub, s.draw.mono hK⟩
theorem AnS.setK (s : AnS p K w q kd nm sv ss vl nn X) (z : Int) (hp : p < w.heap.size) (hq : w.heap.size < q) : AnS p K w q z nm sv ss vl nn (X.setCell ⟨q, 0, none⟩ (.int .i64 z)) :=
  ⟨s.res.far (p := ⟨q, 0, none⟩) (show w.heap.size ≠ q by omega) _, by have := s.box.set_ 0 (.int .i64 z); simpa using this, s.sub.setBlk s.box (by decide), s.draw.set (show w.heap.size ≤ q by omega) hp 0 _⟩
theorem AnS.setNm (s : AnS p K w q kd nm sv ss vl nn X) (t : ByteArray) (hp : p < w.heap.size) (hq : w.heap.size < q) : AnS p K w q kd t sv ss vl nn (X.setCell ⟨q, 1, none⟩ (.string t)) :=
  ⟨s.res.far (p := ⟨q, 1, none⟩) (show w.heap.size ≠ q by omega) _, by have := s.box.set_ 1 (.string t); simpa using this, s.sub.setBlk s.box (by decide), s.draw.set (show w.heap.size ≤ q by omega) hp 1 _⟩
theorem AnS.setV (s : AnS p K w q kd nm sv ss vl nn X) (t : ByteArray) (hp : p < w.heap.size) (hq : w.heap.size < q) : AnS p K w q kd nm sv ss t nn (X.setCell ⟨q, 3, none⟩ (.string t)) :=
  ⟨s.res.far (p := ⟨q, 3, none⟩) (show w.heap.size ≠ q by omega) _, by have := s.box.set_ 3 (.string t); simpa using this, s.sub.setBlk s.box (by decide), s.draw.set (show w.heap.size ≤ q by omega) hp 3 _⟩
theorem AnS.setN (s : AnS p K w q kd nm sv ss vl nn X) (z : Int) (hp : p < w.heap.size) (hq : w.heap.size < q) : AnS p K w q kd nm sv ss vl z (X.setCell ⟨q, 4, none⟩ (.int .i64 z)) :=
  ⟨s.res.far (p := ⟨q, 4, none⟩) (show w.heap.size ≠ q by omega) _, by have := s.box.set_ 4 (.int .i64 z); simpa using this, s.sub.setBlk s.box (by decide), s.draw.set (show w.heap.size ≤ q by omega) hp 4 _⟩
theorem AnS.grown {Y : World} {base nr : Nat} {v : Value} {xs : List Value} (s : AnS p K w q kd nm sv ss vl nn X) (hr : X.ownsRow base 9 1 v nr xs) (hb : w.heap.size ≤ base) (hg : X.grownBy Y v.ownBlock) (hp : p < w.heap.size) {sv' : Value} {ss' : List ByteArray} (h : Own.SubO Y w.heap.size sv' ss') (hq : w.heap.size < q) : AnS p K w q kd nm sv' ss' vl nn (Y.setCell ⟨q, 2, none⟩ sv') := by
  have hbx : Blk Y q 55 #[.int .i64 kd, .string nm, sv, .string vl, .int .i64 nn] := s.box.grown hg (fun e => Own.own_blk_ne hr s.box (by decide) e.symm)
  refine ⟨Blk.far (s.res.grown hg (fun e => Own.own_blk_ne hr s.res (by decide) e.symm)) (p := ⟨q, 2, none⟩) (show w.heap.size ≠ q by omega) _, ?_, h.setBlk hbx (by decide), (s.draw.grown hg (fun g hg' => Nat.le_trans hb (hr.lt g hg').1) hp).set (show w.heap.size ≤ q by omega) hp 2 _⟩
  have := hbx.set_ 2 sv'
  simpa using this
end
def AnyPost (p K : Nat) (w : World) (e : Ending) (w' : World) : Prop := ∃ v d, e = .returned (.agg #[.int .i64 d.kind, .string d.name, v, .string d.val, .int .i64 d.n]) ∧ Own.SubO w' w.heap.size v d.subs ∧ okE d ∧ Drawn p K w w'
theorem any_end {p K q : Nat} {w X Y : World} {kd nn : Int} {nm vl : ByteArray} {sv : Value} {ss : List ByteArray} (s : AnS p K w q kd nm sv ss vl nn X) (hp : p < w.heap.size) (hok : okE ⟨kd, nm, ss, vl, nn⟩) (hY : Y = set5 X w.heap.size (.int .i64 kd) (.string nm) sv (.string vl) (.int .i64 nn)) : AnyPost p K w (.returned (.agg #[.int .i64 kd, .string nm, sv, .string vl, .int .i64 nn])) Y := by
  subst hY
  have hc := set5_chg X w.heap.size (.int .i64 kd) (.string nm) sv (.string vl) (.int .i64 nn)
  exact ⟨sv, ⟨kd, nm, ss, vl, nn⟩, rfl, Own.own_chg s.sub hc (own_not s.sub (t := 55) (by decide) (fun g hg => by subst hg; exact ⟨_, s.res⟩)), hok, s.draw.own hc (fun g hg => by omega) hp⟩
theorem okV_x : ∀ s ∈ ([⟨#[]⟩, ⟨#[120]⟩, ⟨#[49]⟩] : List ByteArray), s.size ≤ 16 ∧ okV s := by
  intro s hs
  simp only [List.mem_cons, List.not_mem_nil, or_false] at hs
  rcases hs with rfl | rfl | rfl
  · exact ⟨by decide, okV_nil⟩
  · exact ⟨by decide, okV_head (c := 120) rfl (by decide) (by decide)⟩
  · exact ⟨by decide, okV_head (c := 49) rfl (by decide) (by decide)⟩
theorem okE_name {k n : Int} {nm nm' : ByteArray} {ss : List ByteArray} {v : ByteArray} (h : okE ⟨k, nm, ss, v, n⟩) (hn : nm'.size ≤ 16) : okE ⟨k, nm', ss, v, n⟩ := ⟨⟨Nat.le_trans hn (by decide), h.1.2.1, h.1.2.2⟩, h.2⟩
theorem okE_val {k n : Int} {nm : ByteArray} {ss : List ByteArray} {v v' : ByteArray} (h : okE ⟨k, nm, ss, v, n⟩) (hn : v'.size ≤ 16 ∧ okV v') : okE ⟨k, nm, ss, v', n⟩ := ⟨⟨h.1.1, h.1.2.1, Nat.le_trans hn.1 (by decide)⟩, hn.2⟩
theorem okE_subs {k n : Int} {nm : ByteArray} {ss : List ByteArray} {v t : ByteArray} (h : okE ⟨k, nm, ss, v, n⟩) (hl : ss.length < 1048576) (hn : t.size ≤ 16) : okE ⟨k, nm, ss ++ [t], v, n⟩ := ⟨⟨h.1.1, ⟨by rw [List.length_append]; simp; omega, fun s hs => by
  rcases List.mem_append.1 hs with h1 | h1
  · exact h.1.2.1.2 s h1
  · rw [List.mem_singleton.1 h1]; omega⟩, h.1.2.2⟩, h.2⟩

set_option maxRecDepth 100000 in
set_option maxHeartbeats 16000000 in
theorem l25AnyEvent_any (p K : Nat) (w : World) (h : SrcR w p K) (hK : K ≤ 34359738368) :
    Calls Tryz.prog 100 #[.pointer (some ⟨p, 0, none⟩)] w (AnyPost p (K + 130) w) := by
  obtain ⟨i0, hi, hz0, hz1, hz2⟩ := info_parts infoS
  have hpw := h.lt
  obtain ⟨WB, hWB⟩ : ∃ WB, WB = w.alloc (.cells #[.int .i64 0, .string ⟨#[]⟩, .slice none 0 0, .string ⟨#[]⟩, .int .i64 0] 55) := ⟨_, rfl⟩
  have HBB : Hid (Below w.heap.size w WB) := by subst hWB; exact Below.new _ _
  have HR0 : Hid (Blk WB w.heap.size 55 #[.int .i64 0, .string ⟨#[]⟩, .slice none 0 0, .string ⟨#[]⟩, .int .i64 0]) := by subst hWB; exact heap_alloc_new _ _
  have HK1 := Lib.hid (l25DrawC_any p K WB (h.later HBB.out) (by omega))
  have hwb := HR0.out.lt
  clear h
  go_enter Tryz.func100, Tryz.ntmps100
  go_wp2_with fail
  rw [← hWB]
  clear hWB
  refine HK1.out.mono ?_
  rintro e w1 ⟨tv, fs, rfl, hT, htr, hfi, hd⟩
  obtain ⟨A1, cap1, rfl, hcap1, hN1⟩ := hT.reads
  have HD1 := Lib.hid (hd.pre HBB.out)
  have HR1 := Lib.hid (Blk.drawn HR0.out hd (by omega))
  have HK2 := Lib.hid (l25Note_any p (K + 100) A1 fs.length cap1 fs w1 hd.src (by omega) hN1 htr hfi)
  have hw1 : w.heap.size < w1.heap.size := Nat.lt_of_lt_of_le hwb hd.chg.size
  clear hd hT hN1 htr hfi HK1 HR0
  go_wp2_with fail
  refine HK2.out.mono ?_
  rintro e w2 ⟨sv, d, rfl, hsub, hgd, ⟨_, hln⟩, hd⟩
  obtain ⟨kd, nm, ss, vl, nn⟩ := d
  dsimp only at hsub hgd hln ⊢
  obtain ⟨SA, sc, rfl, hsc, _⟩ := Own.SubO.strs hsub
  have HOK := Lib.hid hgd.1
  have HD2 := Lib.hid (HD1.out.trans hd)
  have HR2 := Lib.hid (Blk.drawn HR1.out hd (by omega))
  have HU2 : Hid (Own.SubO w2 w.heap.size (.slice SA ss.length sc) ss) := Own.own_base hsub (show w.heap.size ≤ w1.heap.size by omega)
  have hw2 : w.heap.size < w2.heap.size := Nat.lt_of_lt_of_le hw1 hd.chg.size
  clear hd hsub hgd HK2 HD1 HR1
  generalize hsn : ss.length = sn at *
  have HSN := Lib.hid hsn
  clear hsn
  obtain ⟨WE, hWE⟩ : ∃ WE, WE = w2.alloc (.cells #[.int .i64 kd, .string nm, .slice SA sn sc, .string vl, .int .i64 nn] 55) := ⟨_, rfl⟩
  have HS0 : Hid (AnS p (K + 100 + 16) w w2.heap.size kd nm (.slice SA sn sc) ss vl nn WE) := by
    subst hWE
    exact ⟨HR2.out.alloc _, heap_alloc_new _ _, sub_later HU2.out (Below.new _ _), HD2.out.later (Below.new _ _)⟩
  have HK3 := Lib.hid (pick_any p (K + 100 + 16) 12 WE HS0.out.draw.src (by omega) (by omega))
  clear HD2 HR2 HU2
  go_wp2_with fail
  rw [← hWE]
  clear hWE
  generalize hqq : w2.heap.size = q at *
  clear hqq
  refine HK3.out.mono ?_
  rintro e w3 ⟨y, rfl, hy, hd⟩
  have HS1 := Lib.hid (HS0.out.drawn hd hpw (by omega))
  have hnr : ¬ w.heap.size = q := by omega
  have hnr' : ¬ q = w.heap.size := by omega
  clear hd HS0 HK3 hy
  by_cases hy0 : y = 0
  · subst hy0
    have HKP := Lib.hid (pick_any p (K + 100 + 16 + 2) 18 w3 HS1.out.draw.src (by omega) (by omega))
    go_wp2_with fail
    refine HKP.out.mono ?_
    rintro e w4 ⟨z, rfl, hz, hd⟩
    have hz5 : z ≤ 17 := by omega
    have hwk : IntKind.i64.wrap ((z : Int) - 1) = (z : Int) - 1 := by rw [IntKind.wrap_i64]; omega
    have HS4 := Lib.hid (HS1.out.drawn hd hpw (by omega))
    clear hd HKP hz
    have b0 := HS4.out.box.cell 0
    have b1 := HS4.out.box.cell 1
    have b2 := HS4.out.box.cell 2
    have b3 := HS4.out.box.cell 3
    have b4 := HS4.out.box.cell 4
    have g0 := HS4.out.box.frozen 0
    have g1 := HS4.out.box.frozen 1
    have g2 := HS4.out.box.frozen 2
    have g3 := HS4.out.box.frozen 3
    have g4 := HS4.out.box.frozen 4
    have bz := HS4.out.box.lt
    have r0 := HS4.out.res.cell 0
    have r1 := HS4.out.res.cell 1
    have r2 := HS4.out.res.cell 2
    have r3 := HS4.out.res.cell 3
    have r4 := HS4.out.res.cell 4
    have f0 := HS4.out.res.frozen 0
    have f1 := HS4.out.res.frozen 1
    have f2 := HS4.out.res.frozen 2
    have f3 := HS4.out.res.frozen 3
    have f4 := HS4.out.res.frozen 4
    have rz := HS4.out.res.lt
    simp at b0 b1 b2 b3 b4 r0 r1 r2 r3 r4
    go_wp2_with fail
    refine bodyPost_ret (v := .agg #[.int .i64 ((z : Int) - 1), .string nm, .slice SA sn sc, .string vl, .int .i64 nn]) (by simp [results, Tryz.results100, go_sem, r0, r1, r2, r3, r4, hnr, hnr']; try first | exact rfl | exact ⟨rfl, rfl⟩) rfl ?_
    exact any_end ((HS4.out.setK ((z : Int) - 1) hpw (by omega)).mono (show _ ≤ K + 130 by omega)) hpw ⟨HOK.out.1, HOK.out.2⟩ (by first | rfl | (rw [hwk]; rfl) | (simp only [hwk]; rfl))
  by_cases hy1 : y = 1
  · subst hy1
    have HKI := Lib.hid (among_any p (K + 100 + 16 + 2) w3.heap.size 6 6 [0, 1, (-1), 2, 10, 11] (w3.alloc (.cells #[.int .i64 0, .int .i64 1, .int .i64 (-1), .int .i64 2, .int .i64 10, .int .i64 11] 2)) (HS1.out.draw.src.later (Below.new _ _)) (by omega) (ints_litQ rfl rfl rfl) (by have := HS1.out.draw.lt; omega) (by omega) (by omega))
    go_wp2_with fail
    refine HKI.out.mono ?_
    rintro e w4 ⟨z, hz, rfl, hd⟩
    have HS4 := Lib.hid ((HS1.out.later (Below.new w3 (.cells #[.int .i64 0, .int .i64 1, .int .i64 (-1), .int .i64 2, .int .i64 10, .int .i64 11] 2))).drawn hd hpw (by omega))
    clear hd HKI hz
    have b0 := HS4.out.box.cell 0
    have b1 := HS4.out.box.cell 1
    have b2 := HS4.out.box.cell 2
    have b3 := HS4.out.box.cell 3
    have b4 := HS4.out.box.cell 4
    have g0 := HS4.out.box.frozen 0
    have g1 := HS4.out.box.frozen 1
    have g2 := HS4.out.box.frozen 2
    have g3 := HS4.out.box.frozen 3
    have g4 := HS4.out.box.frozen 4
    have bz := HS4.out.box.lt
    have r0 := HS4.out.res.cell 0
    have r1 := HS4.out.res.cell 1
    have r2 := HS4.out.res.cell 2
    have r3 := HS4.out.res.cell 3
    have r4 := HS4.out.res.cell 4
    have f0 := HS4.out.res.frozen 0
    have f1 := HS4.out.res.frozen 1
    have f2 := HS4.out.res.frozen 2
    have f3 := HS4.out.res.frozen 3
    have f4 := HS4.out.res.frozen 4
    have rz := HS4.out.res.lt
    simp at b0 b1 b2 b3 b4 r0 r1 r2 r3 r4
    go_wp2_with fail
    refine bodyPost_ret (v := .agg #[.int .i64 (kd), .string nm, .slice SA sn sc, .string vl, .int .i64 z]) (by simp [results, Tryz.results100, go_sem, r0, r1, r2, r3, r4, hnr, hnr']; try first | exact rfl | exact ⟨rfl, rfl⟩) rfl ?_
    exact any_end ((HS4.out.setN z hpw (by omega)).mono (show _ ≤ K + 130 by omega)) hpw ⟨HOK.out.1, HOK.out.2⟩ rfl
  by_cases hy2 : y = 2
  · subst hy2
    have HKI := Lib.hid (text_any p (K + 100 + 16 + 2) (some ⟨w3.heap.size, 0, none⟩) 3 3 [⟨#[]⟩, ⟨#[120]⟩, ⟨#[49]⟩] (w3.alloc (.cells #[.string ⟨#[]⟩, .string ⟨#[120]⟩, .string ⟨#[49]⟩] 9)) (HS1.out.draw.src.later (Below.new _ _)) (by omega) (strs_lit w3 _ [⟨#[]⟩, ⟨#[120]⟩, ⟨#[49]⟩] _ rfl) (by omega) (by omega))
    go_wp2_with fail
    refine HKI.out.mono ?_
    rintro e w4 ⟨t, ht, rfl, hd⟩
    have hto := okV_x t ht
    have HTO := Lib.hid hto
    have HS4 := Lib.hid ((HS1.out.later (Below.new w3 (.cells #[.string ⟨#[]⟩, .string ⟨#[120]⟩, .string ⟨#[49]⟩] 9))).drawn hd hpw (by omega))
    clear hd HKI ht hto
    have b0 := HS4.out.box.cell 0
    have b1 := HS4.out.box.cell 1
    have b2 := HS4.out.box.cell 2
    have b3 := HS4.out.box.cell 3
    have b4 := HS4.out.box.cell 4
    have g0 := HS4.out.box.frozen 0
    have g1 := HS4.out.box.frozen 1
    have g2 := HS4.out.box.frozen 2
    have g3 := HS4.out.box.frozen 3
    have g4 := HS4.out.box.frozen 4
    have bz := HS4.out.box.lt
    have r0 := HS4.out.res.cell 0
    have r1 := HS4.out.res.cell 1
    have r2 := HS4.out.res.cell 2
    have r3 := HS4.out.res.cell 3
    have r4 := HS4.out.res.cell 4
    have f0 := HS4.out.res.frozen 0
    have f1 := HS4.out.res.frozen 1
    have f2 := HS4.out.res.frozen 2
    have f3 := HS4.out.res.frozen 3
    have f4 := HS4.out.res.frozen 4
    have rz := HS4.out.res.lt
    simp at b0 b1 b2 b3 b4 r0 r1 r2 r3 r4
    go_wp2_with fail
    refine bodyPost_ret (v := .agg #[.int .i64 (kd), .string nm, .slice SA sn sc, .string t, .int .i64 nn]) (by simp [results, Tryz.results100, go_sem, r0, r1, r2, r3, r4, hnr, hnr']; try first | exact rfl | exact ⟨rfl, rfl⟩) rfl ?_
    exact any_end ((HS4.out.setV t hpw (by omega)).mono (show _ ≤ K + 130 by omega)) hpw (okE_val HOK.out HTO.out) rfl
  by_cases hy3 : y = 3
  · subst hy3
    have HKI := Lib.hid (text_any p (K + 100 + 16 + 2) (some ⟨w3.heap.size, 0, none⟩) 3 3 [⟨#[]⟩, ⟨#[49]⟩, ⟨#[67]⟩] (w3.alloc (.cells #[.string ⟨#[]⟩, .string ⟨#[49]⟩, .string ⟨#[67]⟩] 9)) (HS1.out.draw.src.later (Below.new _ _)) (by omega) (strs_lit w3 _ [⟨#[]⟩, ⟨#[49]⟩, ⟨#[67]⟩] _ rfl) (by omega) (by omega))
    go_wp2_with fail
    refine HKI.out.mono ?_
    rintro e w4 ⟨t, ht, rfl, hd⟩
    have hto : t.size ≤ 16 := (by decide : ∀ s ∈ ([⟨#[]⟩, ⟨#[49]⟩, ⟨#[67]⟩] : List ByteArray), s.size ≤ 16) t ht
    have HTO := Lib.hid hto
    have HS4 := Lib.hid ((HS1.out.later (Below.new w3 (.cells #[.string ⟨#[]⟩, .string ⟨#[49]⟩, .string ⟨#[67]⟩] 9))).drawn hd hpw (by omega))
    clear hd HKI ht hto
    have b0 := HS4.out.box.cell 0
    have b1 := HS4.out.box.cell 1
    have b2 := HS4.out.box.cell 2
    have b3 := HS4.out.box.cell 3
    have b4 := HS4.out.box.cell 4
    have g0 := HS4.out.box.frozen 0
    have g1 := HS4.out.box.frozen 1
    have g2 := HS4.out.box.frozen 2
    have g3 := HS4.out.box.frozen 3
    have g4 := HS4.out.box.frozen 4
    have bz := HS4.out.box.lt
    have r0 := HS4.out.res.cell 0
    have r1 := HS4.out.res.cell 1
    have r2 := HS4.out.res.cell 2
    have r3 := HS4.out.res.cell 3
    have r4 := HS4.out.res.cell 4
    have f0 := HS4.out.res.frozen 0
    have f1 := HS4.out.res.frozen 1
    have f2 := HS4.out.res.frozen 2
    have f3 := HS4.out.res.frozen 3
    have f4 := HS4.out.res.frozen 4
    have rz := HS4.out.res.lt
    simp at b0 b1 b2 b3 b4 r0 r1 r2 r3 r4
    go_wp2_with fail
    refine bodyPost_ret (v := .agg #[.int .i64 (kd), .string t, .slice SA sn sc, .string vl, .int .i64 nn]) (by simp [results, Tryz.results100, go_sem, r0, r1, r2, r3, r4, hnr, hnr']; try first | exact rfl | exact ⟨rfl, rfl⟩) rfl ?_
    exact any_end ((HS4.out.setNm t hpw (by omega)).mono (show _ ≤ K + 130 by omega)) hpw (okE_name HOK.out HTO.out) rfl
  have hyb0 : ((y : Int) == 0) = false := beq_eq_false_iff_ne.2 (by omega)
  have hyb1 : ((y : Int) == 1) = false := beq_eq_false_iff_ne.2 (by omega)
  have hyb2 : ((y : Int) == 2) = false := beq_eq_false_iff_ne.2 (by omega)
  have hyb3 : ((y : Int) == 3) = false := beq_eq_false_iff_ne.2 (by omega)
  by_cases hy4 : y = 4
  · subst hy4
    have HU3 : Hid (Own.SubO w3 w.heap.size (.slice SA sn sc) ss) := HS1.out.sub
    have HKT := Lib.hid (fun W (hW : Below (w3.alloc (.cells #[.string ⟨#[]⟩, .string ⟨#[113]⟩] 9)).heap.size (w3.alloc (.cells #[.string ⟨#[]⟩, .string ⟨#[113]⟩] 9)) W) => text_any p (K + 100 + 16 + 2) (some ⟨w3.heap.size, 0, none⟩) 2 2 [⟨#[]⟩, ⟨#[113]⟩] W ((HS1.out.draw.src.later (Below.new _ _)).later hW) (by omega) ((strs_lit w3 _ [⟨#[]⟩, ⟨#[113]⟩] _ rfl).later hW) (by omega) (by omega))
    have y2 := HS1.out.box.cell 2
    have yf := HS1.out.box.frozen 2
    have yz := HS1.out.box.lt
    have hx3 := HS1.out.draw.chg.size
    simp at y2
    go_wp2_with fail
    go_region_law (first
      | (refine step_append_lies _ (by rfl) _ _ _ (by rfl) w.heap.size 9 i0 _ 1 16 Tryz.underlying27 hi hz0 hz1 hz2 rfl (by omega) (.slice SA sn sc) sn (ss.map Value.string) (by rfl) (by exact HRA.out)
            ⟨w4.heap.size, 0, none⟩ 1 1 [.string t] (by rfl) (by rfl) (by exact cells_newN w4 #[.string t] _) (by simp [Value.oneCell'])
            (by omega) (by unfold maxLen; omega) (by omega) (by simp; omega) (w4.heap.size + 1) (by simp) ?_
         intro gg cap' w5 hown5 hg5 hat hlt2
         have HU5 := Lib.hid (sub_appv hown5 HSN.out.symm)
         have HS6 := Lib.hid ((HS4.out.later (Below.new w4 (.cells #[.string t] 9))).grown HRA.out (Nat.le_refl _) hg5 hpw HU5.out (by omega))
         have hbx := ((HS4.out.later (Below.new w4 (.cells #[.string t] 9))).box).grown hg5 (fun e => Own.own_blk_ne HRA.out (HS4.out.later (Below.new w4 (.cells #[.string t] 9))).box (by decide) e.symm)
         have x2 := hbx.cell 2
         have xf := hbx.frozen 2
         have xz := hbx.lt
         simp at x2
         clear hown5 hg5 hbx)
      | (go_simp
         go_at_call 119
         refine (HKT.out _ (by first | exact (Below.refl _ _).drew | exact Below.refl _ _)).mono ?_
         rintro e w4 ⟨t, ht, rfl, hd⟩
         have HTO : Hid (t.size ≤ 16) := (by decide : ∀ s ∈ ([⟨#[]⟩, ⟨#[113]⟩] : List ByteArray), s.size ≤ 16) t ht
         have HS4 := Lib.hid ((HS1.out.later (Below.new w3 (.cells #[.string ⟨#[]⟩, .string ⟨#[113]⟩] 9))).drawn (by first | exact hd.pre (Below.refl _ _).drew | exact hd) hpw (by omega))
         have hx4 := HS4.out.draw.chg.size
         have HRA : Hid ((w4.alloc (.cells #[.string t] 9)).ownsRow w.heap.size 9 1 (.slice SA sn sc) sn (ss.map Value.string)) := by
           have h9 := Own.own_later HS4.out.sub (Below.new w4 (.cells #[.string t] 9))
           rw [HSN.out] at h9
           exact h9
         have z2 := HS4.out.box.cell 2
         have zf := HS4.out.box.frozen 2
         have zz := HS4.out.box.lt
         simp at z2
         clear hd ht))
    all_goals
      have HOK2 := Lib.hid (okE_subs (t := t) HOK.out (by rw [HSN.out]; omega) HTO.out)
      go_upto_region 13 with fail
      obtain ⟨WF, hWF⟩ : ∃ WF, WF = w5.setCell ⟨q, 2, none⟩ (.slice (some ⟨gg, 0, none⟩) (sn + 1) cap') := ⟨_, rfl⟩
      have HS7 : Hid (AnS p (K + 100 + 16 + 2 + 2) w q kd nm (.slice (some ⟨gg, 0, none⟩) (sn + 1) cap') (ss ++ [t]) vl nn WF) := by subst hWF; exact HS6.out
      rw [← hWF]
      clear hWF
      try clear y2 yf yz
      try clear z2 zf zz
      try clear x2 xf xz
      have b0 := HS7.out.box.cell 0
      have b1 := HS7.out.box.cell 1
      have b2 := HS7.out.box.cell 2
      have b3 := HS7.out.box.cell 3
      have b4 := HS7.out.box.cell 4
      have g0 := HS7.out.box.frozen 0
      have g1 := HS7.out.box.frozen 1
      have g2 := HS7.out.box.frozen 2
      have g3 := HS7.out.box.frozen 3
      have g4 := HS7.out.box.frozen 4
      have bz := HS7.out.box.lt
      have r0 := HS7.out.res.cell 0
      have r1 := HS7.out.res.cell 1
      have r2 := HS7.out.res.cell 2
      have r3 := HS7.out.res.cell 3
      have r4 := HS7.out.res.cell 4
      have f0 := HS7.out.res.frozen 0
      have f1 := HS7.out.res.frozen 1
      have f2 := HS7.out.res.frozen 2
      have f3 := HS7.out.res.frozen 3
      have f4 := HS7.out.res.frozen 4
      have rz := HS7.out.res.lt
      simp at b0 b1 b2 b3 b4 r0 r1 r2 r3 r4
      go_wp2_with fail
      refine bodyPost_ret (v := .agg #[.int .i64 (kd), .string nm, .slice (some ⟨gg, 0, none⟩) (sn + 1) cap', .string vl, .int .i64 nn]) (by simp [results, Tryz.results100, go_sem, r0, r1, r2, r3, r4, hnr, hnr']; try first | exact rfl | exact ⟨rfl, rfl⟩) rfl ?_
      exact any_end (HS7.out.mono (show _ ≤ K + 130 by omega)) hpw HOK2.out rfl
  have hyb4 : ((y : Int) == 4) = false := beq_eq_false_iff_ne.2 (by omega)
  have b0 := HS1.out.box.cell 0
  have b1 := HS1.out.box.cell 1
  have b2 := HS1.out.box.cell 2
  have b3 := HS1.out.box.cell 3
  have b4 := HS1.out.box.cell 4
  have g0 := HS1.out.box.frozen 0
  have g1 := HS1.out.box.frozen 1
  have g2 := HS1.out.box.frozen 2
  have g3 := HS1.out.box.frozen 3
  have g4 := HS1.out.box.frozen 4
  have bz := HS1.out.box.lt
  have r0 := HS1.out.res.cell 0
  have r1 := HS1.out.res.cell 1
  have r2 := HS1.out.res.cell 2
  have r3 := HS1.out.res.cell 3
  have r4 := HS1.out.res.cell 4
  have f0 := HS1.out.res.frozen 0
  have f1 := HS1.out.res.frozen 1
  have f2 := HS1.out.res.frozen 2
  have f3 := HS1.out.res.frozen 3
  have f4 := HS1.out.res.frozen 4
  have rz := HS1.out.res.lt
  simp at b0 b1 b2 b3 b4 r0 r1 r2 r3 r4
  go_wp2_with fail
  refine bodyPost_ret (v := .agg #[.int .i64 (kd), .string nm, .slice SA sn sc, .string vl, .int .i64 nn]) (by simp [results, Tryz.results100, go_sem, r0, r1, r2, r3, r4, hnr, hnr']; try first | exact rfl | exact ⟨rfl, rfl⟩) rfl ?_
  exact any_end (HS1.out.mono (show _ ≤ K + 130 by omega)) hpw HOK.out rfl
end Go.Proofs.YtgmaamnofhmecaaGreatDoor
