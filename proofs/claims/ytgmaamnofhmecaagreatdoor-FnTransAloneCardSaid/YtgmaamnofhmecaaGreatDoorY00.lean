/-
  slices.Sorted(slices.Values(names)) at strings: the names, sorted, in memory of the call's own. (The iterator's part is turned from the kit's GgSlicesIterAtTheDump.) slices.Sorted(slices.Values(names)) and slices.Compact at strings; distinct of the program. Events, plainly: what replays keep. Turns of the reference: l25Turn. Replays of the reference: l25Replay. Transactions, plain: what a nested end does; a replay leaves what its changes leave.
-/
import Derived.Test.YtgmaamnofhmecaaGreatDoorZ00
import Derived.Test.YtgmaamnofhmecaaGreatDoorZ01
import Derived.Test.YtgmaamnofhmecaaGreatDoorZ02
import Derived.Test.YtgmaamnofhmecaaGreatDoorZ03
import Derived.Test.YtgmaamnofhmecaaGreatDoorZ04
import Derived.Test.YtgmaamnofhmecaaGreatDoorZ05
import Derived.Test.YtgmaamnofhmecaaGreatDoorZ06
import Derived.Test.YtgmaamnofhmecaaGreatDoorZ07
import Derived.Test.YtgmaamnofhmecaaGreatDoorZ08
import Derived.Test.YtgmaamnofhmecaaGreatDoorZ09
import Derived.Test.YtgmaamnofhmecaaGreatDoorZ10
import Derived.Test.YtgmaamnofhmecaaGreatDoorZ11
import Derived.Test.YtgmaamnofhmecaaGreatDoorZ12
import Derived.Test.YtgmaamnofhmecaaGreatDoorZ13
import Derived.Test.YtgmaamnofhmecaaGreatDoorZ14
import Derived.Test.YtgmaamnofhmecaaGreatDoorZ15
import Derived.Test.YtgmaamnofhmecaaGreatDoorZ16
import Derived.Test.YtgmaamnofhmecaaGreatDoorZ17
import Derived.Test.YtgmaamnofhmecaaGreatDoorZ18
import Derived.Test.YtgmaamnofhmecaaGreatDoorZ19
import Derived.Test.YtgmaamnofhmecaaGreatDoorZ20
import Derived.Test.YtgmaamnofhmecaaGreatDoorZ21
import Derived.Test.YtgmaamnofhmecaaGreatDoorZ22
import Derived.Test.YtgmaamnofhmecaaGreatDoorZ23
import Derived.Test.YtgmaamnofhmecaaGreatDoorZ24
import Derived.Test.YtgmaamnofhmecaaGreatDoorZ25
import Derived.Test.YtgmaamnofhmecaaGreatDoorZ26
import Derived.Test.YtgmaamnofhmecaaGreatDoorZ27
import Derived.Test.YtgmaamnofhmecaaGreatDoorZ28
import Derived.Test.YtgmaamnofhmecaaGreatDoorZ29
import Derived.Test.YtgmaamnofhmecaaGreatDoorZ30
import Derived.Test.YtgmaamnofhmecaaGreatDoorZ31
import Derived.Test.YtgmaamnofhmecaaGreatDoorZ32
import Derived.Test.YtgmaamnofhmecaaGreatDoorZ33
import Derived.Test.YtgmaamnofhmecaaGreatDoorZ34
import Derived.Test.YtgmaamnofhmecaaGreatDoorZ35
import Derived.Test.YtgmaamnofhmecaaGreatDoorZ36
import Derived.Test.YtgmaamnofhmecaaGreatDoorZ37
import Derived.Test.YtgmaamnofhmecaaGreatDoorZ38
import Derived.Test.YtgmaamnofhmecaaGreatDoorZ39
import Derived.Test.YtgmaamnofhmecaaGreatDoorZ40
import Derived.Test.YtgmaamnofhmecaaGreatDoorZ41
import Derived.Test.YtgmaamnofhmecaaGreatDoorZ42
import Derived.Test.YtgmaamnofhmecaaGreatDoorZ43
import Derived.Test.YtgmaamnofhmecaaGreatDoorProg
import Derived.BigQuiet
import Derived.Deep.QuietTactic
import Derived.Deep.RegionHeld3
import Derived.Ground.GgwProg
import Derived.Ground.Names2Prog
import Derived.Ground.SlgnProg
import Derived.Lib.Hide
import Derived.Lib.OwnBridge
import Derived.Lib.SliceRun
import Derived.Lib.Strings
import Derived.LoopIn
import Derived.LoopNIn
import Derived.Maps.AppendAt
import Derived.OwnWalkIn
import Derived.RangeFuncBox
import Derived.RangeFuncLeaves
import Derived.Shelf.Abstract
import Derived.Shelf.GgClosure.StringsIndexFunc
import Derived.Shelf.GgClosure.StringsIndexFuncTop
import Derived.Shelf.LaysM
import Derived.Shelf.Slices.Cells
import Derived.Shelf.Slices.Clone
import Derived.Shelf.Slices.CompactS
import Derived.Shelf.Slices.Empties2
import Derived.Shelf.Slices.Equal
import Derived.Shelf.Slices.In.SortNone
import Derived.Shelf.Slices.Turned
import Derived.Shelf.SlicesE.Clone
import Derived.Shelf.SlicesG.SearchI
import Derived.Shelf.Small.Bits
import Derived.Shelf.Small.Strs
import Derived.Shelf.Small.Utf8
import Derived.Shelf.Small.Wraps
import Derived.Shelf.Sort.Plain
import Derived.Shelf.Strconv.Itoa0
import Derived.Shelf.Strconv.Itoa1
import Derived.Shelf.Strconv.Itoa2
import Derived.Shelf.Strconv.Itoa3
import Derived.Shelf.Strconv.Itoa4
import Derived.Shelf.Strings.AsciiSet
import Derived.Shelf.Strings.Builder1
import Derived.Shelf.Strings.Builder2
import Derived.Shelf.Strings.Count
import Derived.Shelf.Strings.Explode
import Derived.Shelf.Strings.FuncGrows
import Derived.Shelf.Strings.OnBuilder
import Derived.Shelf.Strings.Prefix
import Derived.Shelf.Strings.Replace
import Derived.Shelf.Strings.RuneCount
import Derived.Shelf.Strings.Runes
import Derived.Shelf.Strings.Search1
import Derived.Shelf.Strings.Search2
import Derived.Shelf.Strings.Search3
import Derived.Shelf.Strings.Shaped
import Derived.Shelf.Strings.Split
import Derived.Shelf.Strings.SplitShaped
import Derived.Shelf.Strings.Trim
import Derived.Shelf.Unicode.Decode
import Derived.Shelf.Unicode.DecodeAny
import Derived.Shelf.Unicode.DecodeLast
import Derived.Shelf.Unicode.DecodeSlow
import Derived.Shelf.Utf8.RuneCount
import Derived.TacticsInMore
import Derived.WalkKit
import Derived.WalkLawsBesides
import Derived.WalkSpells
import Derived.Shelf.SlIter.Collect
import Derived.Deep.AppendLies
import Derived.Deep.CutBlock
import Derived.Deep.DeepCutAuto
import Derived.Deep.RegionLaw
import Derived.Deep.RegionWith
import Derived.IntWalk
import Derived.Laws.OwnMore
import Derived.Lib.AppendIntMem
import Derived.Lib.IndexAny
import Derived.Lib.ItoaNum
import Derived.Lib.SlTrimSet
import Derived.Lib.TrimUEq
import Derived.OwnWalk
import Derived.RegionTactic
import Derived.Shelf.Strings.SlTrimAscii
import Derived.Shelf.Unicode.PredsPay
import Derived.Laws.BitsAllLaws
import Derived.Laws.CopyOwn
import Derived.Laws.CopyRow
import Derived.Laws.IdiomStrings
import Derived.Lib.BufferWrite
import Derived.Lib.IndexBytes
import Derived.Lib.Join
import Derived.Lib.SplitLaws
import Derived.Laws.Externs
import Derived.Lib.AppendZerosOnto
import Derived.Lib.JoinLaws
import Derived.Lib.Overlaps
set_option linter.unusedSimpArgs false
namespace Go.Proofs.YtgmaamnofhmecaaGreatDoor
open Go.RowKit Go.Shelf Go.Proofs.YtgmaamnofhmecaaGreatDoor.Own

attribute [local go_sem] Oper.semAt_some

end Go.Proofs.YtgmaamnofhmecaaGreatDoor
namespace Go.Proofs.YtgmaamnofhmecaaGreatDoor
open Go.RowKit Go.Shelf Go.Proofs.YtgmaamnofhmecaaGreatDoor.Own

attribute [local go_sem] Oper.semAt_some

end Go.Proofs.YtgmaamnofhmecaaGreatDoor
namespace Go.Proofs.YtgmaamnofhmecaaGreatDoor
open Go.RowKit
set_option linter.unusedVariables false

theorem rep_tree : ∀ (l : List EvD) (fs : List NodeD) (i : Nat), treeB fs = true → (∀ e ∈ l, noteB e = true) → (repB fs l i).1 = 0 → treeB (repB fs l i).2.2 = true
  | [], fs, i, h, _, _ => h
  | e :: r, fs, i, h, he, h0 => by
    unfold repB at h0 ⊢
    split
    · next ha =>
      rw [if_pos ha] at h0
      exact rep_tree r _ _ (apply_tree h (he e (by simp)) ha) (fun x hx => he x (List.mem_cons_of_mem _ hx)) h0
    · next ha =>
      rw [if_neg ha] at h0
      exact absurd h0 ha
theorem rep_nil {fs : List NodeD} {l : List EvD} {i : Nat} (h : (repB fs l i).1 ≠ 0) : (repB fs l i).2.2 = [] := by
  induction l generalizing fs i with
  | nil => exact absurd rfl h
  | cons e r ih =>
    unfold repB at h ⊢
    split
    · next ha =>
      rw [if_pos ha] at h
      exact ih h
    · rfl
end Go.Proofs.YtgmaamnofhmecaaGreatDoor
namespace Go.Proofs.YtgmaamnofhmecaaGreatDoor
open Go.RowKit
set_option linter.unusedVariables false

theorem doOne_turn {fs : List NodeD} {e : EvD} (ht : treeB fs = true) (h : noteB e = true) (hk : turnsB e = true) : doOneB fs (chgOf e) = applyB fs e := by
  unfold doOneB applyB
  rw [ht, note_chg h hk, hk]
  rfl
end Go.Proofs.YtgmaamnofhmecaaGreatDoor
namespace Go.Proofs.YtgmaamnofhmecaaGreatDoor
open Go.RowKit
set_option linter.unusedVariables false

/-- The argument itself, or memory of the call's own. -/
def TreeW (v0 : Value) (fs0 : List NodeD) (base : Nat) (wr : World) (v : Value) (gs : List NodeD) : Prop := (v = v0 ∧ gs = fs0) ∨ NodesO wr base v gs
theorem TreeW.later {v0 : Value} {fs0 : List NodeD} {base : Nat} {w w' : World} {v : Value} {gs : List NodeD} (h : TreeW v0 fs0 base w v gs) (hb : Below w.heap.size w w') : TreeW v0 fs0 base w' v gs :=
  h.imp id (fun h => h.later hb)
theorem TreeW.setBlk {v0 : Value} {fs0 : List NodeD} {base : Nat} {w : World} {v : Value} {gs : List NodeD} {g i : Nat} {t : TypeId} {u : Value} {cs : Array Value} (h : TreeW v0 fs0 base w v gs) (hB : Blk w g t cs) (h1 : 102 ≠ t) (h2 : 9 ≠ t) : TreeW v0 fs0 base (w.setCell ⟨g, i, none⟩ u) v gs :=
  h.imp id (fun h => h.setBlk hB h1 h2)
theorem TreeW.reads {base : Nat} {w0 w : World} {A : Option Addr} {n c : Nat} {fs0 : List NodeD} {v : Value} {gs : List NodeD} (h : TreeW (.slice A n c) fs0 base w v gs) (h0 : Nodes w0 w0.heap.size A n fs0) (hnc : n ≤ c) (hb : Below w0.heap.size w0 w) : ∃ A' cap, v = .slice A' gs.length cap ∧ gs.length ≤ cap ∧ Nodes w w.heap.size A' gs.length gs := by
  rcases h with ⟨rfl, rfl⟩ | h
  · refine ⟨A, c, by rw [h0.1], by rw [h0.1]; exact hnc, by rw [h0.1]; exact h0.later hb⟩
  · exact h.reads
/-- A replay: the tree, the place, the code. -/
def RpPost (v0 : Value) (fs0 : List NodeD) (r : Int × Nat × List NodeD) (w : World) (e : Ending) (w' : World) : Prop := ∃ v, e = .returned (.tuple #[.agg #[v], .int .i64 r.2.1, .int .i64 r.1]) ∧ TreeW v0 fs0 w.heap.size w' v r.2.2 ∧ Below w.heap.size w w'
theorem TreeW.nil (v0 : Value) (fs0 : List NodeD) (base : Nat) (w : World) : TreeW v0 fs0 base w (.slice none 0 0) [] := .inr (nodesO_nil _ _)
set_option maxRecDepth 100000 in
set_option maxHeartbeats 8000000 in
theorem l25Replay_any (A : Option Addr) (n c : Nat) (L : Option Addr) (m q : Nat) (fs : List NodeD) (l : List EvD) (w : World) (hN : Nodes w w.heap.size A n fs) (hnc : n ≤ c) (ht : treeB fs = true) (hcl : cleanT fs) (hL : Evs w w.heap.size L m l) (hm : m ≤ 60) (hall : ∀ e ∈ l, noteB e = true ∧ e.small ∧ cleanE e) :
    Calls Tryz.prog 89 #[.agg #[.slice A n c], .slice L m q] w (RpPost (.slice A n c) fs (repB fs l 0) w) := by
  have HN := Lib.hid hN
  have HLC := Lib.hid hL
  have HLL := Lib.hid hL.1
  have HAL := Lib.hid hall
  have HT0 := Lib.hid ht
  have HC0 := Lib.hid hcl
  have HNC := Lib.hid hnc
  have HPB0 : Hid (repB fs l 0 = repB fs l 0) := rfl
  clear hN hnc ht hcl hL hall
  generalize hPB : repB fs l 0 = PB at *
  clear HPB0
  obtain ⟨WB, hWB⟩ : ∃ WB, WB = (w.alloc (.cells #[.slice A n c] 26)).alloc (.cells #[.slice none 0 0] 26) := ⟨_, rfl⟩
  have HB0 : Hid (Below w.heap.size w WB) := by subst hWB; exact (Below.new _ _).later (Below.new _ _)
  have HX0 : Hid (Blk WB w.heap.size 26 #[.slice A n c]) := by subst hWB; exact heap_two0 _ _ _
  have HY0 : Hid (Blk WB (w.heap.size + 1) 26 #[.slice none 0 0]) := by subst hWB; exact heap_two1 _ _ _
  have HPB := Lib.hid hPB
  clear hPB
  go_enter Tryz.func89, Tryz.ntmps89
  go_wp2_with fail
  rw [← hWB]
  clear hWB
  go_loopw [7] (fun i wr => ∃ (k : Nat) (v : Value) (gs : List NodeD), k ≤ m ∧ i = .int .i64 k ∧ Hid (Blk wr w.heap.size 26 #[v]) ∧ Hid (Blk wr (w.heap.size + 1) 26 #[.slice none 0 0]) ∧ Hid (TreeW (.slice A n c) fs w.heap.size wr v gs) ∧ Hid (treeB gs = true) ∧ Hid (cleanT gs) ∧ Hid (Below w.heap.size w wr) ∧ Hid (PB = repB gs (l.drop k) k)) (fun i _ => m - (intOf i).toNat)
  case atStart => exact ⟨0, _, fs, Nat.zero_le _, rfl, HX0.out, HY0.out, .inl ⟨rfl, rfl⟩, HT0.out, HC0.out, HB0.out, by unfold Hid; rw [List.drop_zero]; exact HPB.out.symm⟩
  case round =>
    obtain ⟨k, v, gs, hk, rfl, HV, HYR, HTW, HTG, HCG, HBW, HPK⟩ := hrel
    obtain ⟨A3, cap3, rfl, hc3, hN3⟩ := HTW.out.reads HN.out HNC.out HBW.out
    have pv := HV.out.cell 0
    have zv := HV.out.lt
    have fv := HV.out.frozen 0
    have py := HYR.out.cell 0
    have zy := HYR.out.lt
    have fy := HYR.out.frozen 0
    simp at pv py
    clear HX0 HY0 HB0
    by_cases hlt : k < m
    · obtain ⟨bb, o, rfl, hbB, hc⟩ := (HLC.out.later HBW.out).2 (by omega)
      obtain ⟨c0, c1, c2, c3, c4, k0, k1, k2, k3, k4, hr⟩ := hc k hlt
      clear hc
      have hl : k < l.length := by rw [HLL.out]; exact hlt
      obtain ⟨hnote, hsd, hce⟩ := HAL.out _ (getD_memQ l k hl)
      have hda := drop_consQ l k hl
      have hwh := (note_parts hnote).1
      have hrt := reads_turns hnote
      generalize l.getD k default = d at *
      have HDA : Hid (PB = if (applyB gs d).1 = 0 then repB (applyB gs d).2 (l.drop (k + 1)) (k + 1) else ((applyB gs d).1, k, [])) := by unfold Hid; rw [HPK.out, hda]; rfl
      have HDT : Hid ((applyB gs d).1 = 0 → treeB (applyB gs d).2 = true) := apply_tree HTG.out hnote
      have HDC : Hid (cleanT (applyB gs d).2) := clean_apply HCG.out hce
      have HKR := Lib.hid (fun W (hW : Below wr.heap.size wr W) => specReadsOf_any c0 c1 c2 c3 c4 d W (hr.later hW))
      cases hrd : readsB d
      · rw [hrd] at hrt
        have HKT := Lib.hid (fun W (hW : Below wr.heap.size wr W) => l25Turn_any A3 gs.length cap3 gs c0 c1 c2 c3 c4 d W (hN3.later hW) hc3 (tree_small HTG.out) (hr.later hW) hsd)
        rw [doOne_turn HTG.out hnote hrt] at HKT
        rw [hrd] at HKR
        clear hda hsd hnote hce hwh hrt hrd
        generalize applyB gs d = R at *
        obtain ⟨r1, r2⟩ := R
        have HR := Lib.hid hr
        obtain ⟨rfl, rfl, ⟨S, m1, q1, rfl, _, _⟩, rfl, rfl⟩ := hr
        have hxx : w.heap.size ≠ w.heap.size + 1 := by omega
        go_wp2_with fail
        refine (HKR.out _ (Below.refl _ _)).mono ?_
        rintro e w1 ⟨rfl, hb1⟩
        have HB1 := Lib.hid hb1
        have HV1 := Lib.hid (HV.out.later hb1 HV.out.lt)
        have HYR1 := Lib.hid (HYR.out.later hb1 HYR.out.lt)
        have HR1 := Lib.hid (HR.out.later hb1)
        have HTW1 := Lib.hid (HTW.out.later hb1)
        have HBW1 := Lib.hid (HBW.out.later hb1)
        have hbB1 : bb < w1.heap.size := Nat.lt_of_lt_of_le hbB hb1.size
        have j0 := cell_later hb1 k0
        have j1 := cell_later hb1 k1
        have j2 := cell_later hb1 k2
        have j3 := cell_later hb1 k3
        have j4 := cell_later hb1 k4
        clear hb1 k0 k1 k2 k3 k4 pv zv fv py zy fy HV HYR HR HTW HBW hN3
        have pv := HV1.out.cell 0
        have zv := HV1.out.lt
        have fv := HV1.out.frozen 0
        have py := HYR1.out.cell 0
        have zy := HYR1.out.lt
        have fy := HYR1.out.frozen 0
        simp at pv py
        go_wp2_with fail
        go_region_law (first
          | (go_simp
             go_at_call 82
             refine (HKT.out _ (by exact HB1.out.drew)).mono ?_
             rintro e w4 ⟨v4, rfl, hN4, hb4'⟩
             have hb4 := undrew hb4'
             obtain ⟨A4, cap4, rfl, hcap4, _⟩ := hN4.reads
             have HW := Lib.hid (Below.new w4 (.cells #[.slice A4 r2.length cap4] 26))
             have H8X : Hid (Blk (w4.alloc (.cells #[.slice A4 r2.length cap4] 26)) w4.heap.size 26 #[.slice A4 r2.length cap4]) := heap_alloc_new _ _
             have HVX := Lib.hid ((HV1.out.later hb4 HV1.out.lt).alloc (.cells #[.slice A4 r2.length cap4] 26))
             have HYX := Lib.hid ((HYR1.out.later hb4 HYR1.out.lt).alloc (.cells #[.slice A4 r2.length cap4] 26))
             have HNX : Hid (NodesO (w4.alloc (.cells #[.slice A4 r2.length cap4] 26)) w.heap.size (.slice A4 r2.length cap4) r2) := (hN4.base HBW1.out.size).later HW.out
             have HBX := Lib.hid ((HBW1.out.later hb4).later HW.out)
             have z8 := H8X.out.lt
             clear hb4 hb4' hN4)
          | (go_simp
             go_at_call 82
             refine (HKT.out _ (by exact (HB1.out.later (Below.new _ _)).drew)).mono ?_
             rintro e w4 ⟨v4, rfl, hN4, hb4'⟩
             have hb4 := undrew hb4'
             obtain ⟨A4, cap4, rfl, hcap4, _⟩ := hN4.reads
             have h8 : Blk w4 w1.heap.size 26 #[.slice none 0 0] := Blk.later (heap_alloc_new w1 _) hb4 (by simp)
             have p8 := h8.cell 0
             have f8 := h8.frozen 0
             have z8 := h8.lt
             simp at p8
             have hbW := (Below.new w1 (.cells #[.slice none 0 0] 26)).later hb4
             have H8X : Hid (Blk (w4.setCell ⟨w1.heap.size, 0, none⟩ (.slice A4 r2.length cap4)) w1.heap.size 26 #[.slice A4 r2.length cap4]) := h8.set_ 0 _
             have HVX := Lib.hid ((HV1.out.later hbW HV1.out.lt).far (p := ⟨w1.heap.size, 0, none⟩) (show w.heap.size ≠ w1.heap.size by omega) (.slice A4 r2.length cap4))
             have HYX := Lib.hid ((HYR1.out.later hbW HYR1.out.lt).far (p := ⟨w1.heap.size, 0, none⟩) (show w.heap.size + 1 ≠ w1.heap.size by omega) (.slice A4 r2.length cap4))
             have HNX : Hid (NodesO (w4.setCell ⟨w1.heap.size, 0, none⟩ (.slice A4 r2.length cap4)) w.heap.size (.slice A4 r2.length cap4) r2) := (hN4.base (by have := HBW1.out.size; simp; omega)).setBlk h8 (by decide) (by decide)
             have HBX := Lib.hid ((HBW1.out.later hbW).setCell (p := ⟨w1.heap.size, 0, none⟩) HBW1.out.size (.slice A4 r2.length cap4))
             clear hb4 hb4' hN4 h8 hbW))
        all_goals
          have p8 := H8X.out.cell 0
          have z8 := H8X.out.lt
          have pv := HVX.out.cell 0
          have fv := HVX.out.frozen 0
          have zv := HVX.out.lt
          have py := HYX.out.cell 0
          have fy := HYX.out.frozen 0
          have zy := HYX.out.lt
          simp at p8 pv py
          by_cases hr0 : r1 = 0
          · have HE2 : Hid (PB = repB r2 (l.drop (k + 1)) (k + 1)) := by unfold Hid; rw [HDA.out, if_pos hr0]
            have HT2 := Lib.hid (HDT.out hr0)
            subst hr0
            go_wp2_with fail
            go_roundw
            case rel =>
              exact ⟨k + 1, _, r2, by omega, by go_num, HVX.out.set_ 0 _, HYX.out.far (show w.heap.size + 1 ≠ w.heap.size by omega) _, .inr (HNX.out.setBlk HVX.out (by decide) (by decide)), HT2.out, HDC.out, HBX.out.setCell (show w.heap.size ≤ w.heap.size by omega) _, HE2.out⟩
            case measure => simp [intOf]; omega
          · have HE2 : Hid (PB = (r1, k, [])) := by unfold Hid; rw [HDA.out, if_neg hr0]
            have hb0 : (r1 == (0 : Int)) = false := by rw [beq_eq_false_iff_ne]; exact hr0
            go_wp2_with fail
            refine bodyPost_ret (v := .tuple #[.agg #[.slice none 0 0], .int .i64 k, .int .i64 r1]) (by simp [results, Tryz.results89, go_sem, py]) rfl ?_
            exact ⟨_, by rw [HE2.out], by rw [HE2.out]; exact TreeW.nil _ _ _ _, HBX.out.setCell (show w.heap.size ≤ w.heap.size + 1 by omega) _⟩
      · have hto : applyB gs d = if sameE (againB gs d) d = true then (0, gs) else (5, gs) := by unfold applyB; rw [hrt, hrd]; rfl
        have HKG := Lib.hid (fun W (hW : Below wr.heap.size wr W) => l25Again_any A3 gs.length cap3 gs c0 c1 c2 c3 c4 d W (hN3.later hW) HTG.out HCG.out (hr.later hW) hsd hwh hrd)
        have HKS := Lib.hid (fun A1 m1 q1 W (hW : Below wr.heap.size wr W) (hS : Own.SubO W wr.heap.size (.slice A1 m1 q1) (againB gs d).subs) => l25SameEvent_any _ _ _ _ _ c0 c1 c2 c3 c4 (againB gs d) d W (evR_of hS) (hr.later hW) (by rw [again_subs]; exact hsd.2.1.1) hsd.2.1.1)
        rw [hrd] at HKR
        rw [hto] at HDA HDT HDC
        clear hda hsd hnote hce hwh hrt hrd hto
        have HR := Lib.hid hr
        obtain ⟨rfl, rfl, ⟨S, m1, q1, rfl, _, _⟩, rfl, rfl⟩ := hr
        have hxx : w.heap.size ≠ w.heap.size + 1 := by omega
        unfold EvPost at HKG
        generalize againB gs d = ag at *
        generalize hsm : sameE ag d = sb at *
        clear hsm
        go_wp2_with fail
        refine (HKR.out _ (Below.refl _ _)).mono ?_
        rintro e w1 ⟨rfl, hb1⟩
        have HB1 := Lib.hid hb1
        have j0 := cell_later hb1 k0
        have j1 := cell_later hb1 k1
        have j2 := cell_later hb1 k2
        have j3 := cell_later hb1 k3
        have j4 := cell_later hb1 k4
        have j5 := cell_later hb1 pv
        clear hb1 k0 k1 k2 k3 k4 pv zv fv py zy fy HR hN3
        have HS : Hid (∀ W, Below w1.heap.size w1 W → (W.cell? ⟨w.heap.size, 0, none⟩ = some (.slice A3 gs.length cap3) ∧ W.cell? ⟨bb, o + k * 5, none⟩ = some (.int .i64 d.kind) ∧ W.cell? ⟨bb, o + k * 5 + 1, none⟩ = some (.string d.name) ∧ W.cell? ⟨bb, o + k * 5 + 2, none⟩ = some (.slice S m1 q1) ∧ W.cell? ⟨bb, o + k * 5 + 3, none⟩ = some (.string d.val) ∧ W.cell? ⟨bb, o + k * 5 + 4, none⟩ = some (.int .i64 d.n))) := fun W hW => ⟨cell_later hW j5, cell_later hW j0, cell_later hW j1, cell_later hW j2, cell_later hW j3, cell_later hW j4⟩
        go_wp2_with fail
        go_region_held3 (fun W => W.cell? ⟨w.heap.size, 0, none⟩ = some (.slice A3 gs.length cap3) ∧ W.cell? ⟨bb, o + k * 5, none⟩ = some (.int .i64 d.kind) ∧ W.cell? ⟨bb, o + k * 5 + 1, none⟩ = some (.string d.name) ∧ W.cell? ⟨bb, o + k * 5 + 2, none⟩ = some (.slice S m1 q1) ∧ W.cell? ⟨bb, o + k * 5 + 3, none⟩ = some (.string d.val) ∧ W.cell? ⟨bb, o + k * 5 + 4, none⟩ = some (.int .i64 d.n))
          (first | exact HS.out _ (Below.refl _ _).drew | exact HS.out _ HB2.out | exact HS.out _ HB3.out | go_keep)
          (first
            | (go_at_call 106
               refine (HKG.out _ (by exact HB1.out.drew)).mono ?_
               rintro e w2 ⟨v2, rfl, ho2, hb2'⟩
               have HB2 := Lib.hid (undrew hb2')
               obtain ⟨A1, m2, q2, rfl⟩ : ∃ A1 m2 q2, v2 = .slice A1 m2 q2 := by obtain ⟨A, cap, e, _⟩ := Own.own_slice ho2; exact ⟨A, _, cap, e⟩
               have HSO := Lib.hid (Own.own_base ho2 (by simpa using HB1.out.size))
               clear hb2' ho2)
            | (go_at_call 105
               refine (HKS.out _ _ _ _ (HB1.out.later HB2.out) HSO.out).mono ?_
               rintro e w3 ⟨rfl, hb3⟩
               have HB3 := Lib.hid (HB2.out.later hb3)
               clear hb3))
        have HB13 := Lib.hid (HB1.out.later HB3.out)
        have HV3 := Lib.hid (HV.out.later HB13.out HV.out.lt)
        have HYR3 := Lib.hid (HYR.out.later HB13.out HYR.out.lt)
        have HTW3 := Lib.hid (HTW.out.later HB13.out)
        have HBW3 := Lib.hid (HBW.out.later HB13.out)
        have py := HYR3.out.cell 0
        have zy := HYR3.out.lt
        have fy := HYR3.out.frozen 0
        simp at py
        clear j0 j1 j2 j3 j4 j5
        cases sb
        · have HE2 : Hid (PB = (5, k, [])) := by unfold Hid; rw [HDA.out]; rfl
          go_wp2_with fail
          refine bodyPost_ret (v := .tuple #[.agg #[.slice none 0 0], .int .i64 k, .int .i64 5]) (by simp [results, Tryz.results89, go_sem, py]) rfl ?_
          exact ⟨_, by rw [HE2.out], by rw [HE2.out]; exact TreeW.nil _ _ _ _, HBW3.out.setCell (show w.heap.size ≤ w.heap.size + 1 by omega) _⟩
        · have HE2 : Hid (PB = repB gs (l.drop (k + 1)) (k + 1)) := by unfold Hid; rw [HDA.out]; rfl
          go_wp2_with fail
          go_roundw
          case rel => exact ⟨k + 1, _, gs, by omega, by go_num, HV3.out, HYR3.out, HTW3.out, HTG.out, HCG.out, HBW3.out, HE2.out⟩
          case measure => simp [intOf]; omega
    · obtain rfl : k = m := by omega
      have HE2 : Hid (PB = (0, 0, gs)) := by unfold Hid; rw [HPK.out, List.drop_of_length_le (by rw [HLL.out]; omega)]; rfl
      have hxx : w.heap.size ≠ w.heap.size + 1 := by omega
      go_wp2_with fail
      refine bodyPost_ret (v := .tuple #[.agg #[.slice A3 _ cap3], .int .i64 0, .int .i64 0]) (by simp [results, Tryz.results89, go_sem, py]; try first | exact rfl | exact ⟨rfl, rfl⟩) rfl ?_
      exact ⟨_, by rw [HE2.out]; rfl, by rw [HE2.out]; exact HTW.out.setBlk HYR.out (by decide) (by decide), HBW.out.setCell (show w.heap.size ≤ w.heap.size + 1 by omega) _⟩
end Go.Proofs.YtgmaamnofhmecaaGreatDoor
namespace Go.Proofs.YtgmaamnofhmecaaGreatDoor
open Go.RowKit
set_option linter.unusedVariables false
set_option linter.unusedSimpArgs false

theorem chgsOf_cons (e : EvD) (r : List EvD) : chgsOf (e :: r) = if turnsB e = true then chgOf e :: chgsOf r else chgsOf r := by
  unfold chgsOf
  by_cases ht : turnsB e = true
  · rw [if_pos ht, List.filter_cons_of_pos ht]; rfl
  · rw [if_neg ht, List.filter_cons_of_neg ht]
/-- A replay that succeeds leaves what the changes of its turns leave. -/
theorem rep_all : ∀ (l : List EvD) (fs : List NodeD) (i : Nat), treeB fs = true → (∀ e ∈ l, noteB e = true) → (repB fs l i).1 = 0 → doAllB fs (chgsOf l) = (0, (repB fs l i).2.2)
  | [], fs, i, _, _, _ => rfl
  | e :: r, fs, i, ht, hn, h0 => by
    have hne := hn e (by simp)
    unfold repB at h0 ⊢
    rw [chgsOf_cons]
    by_cases ha : (applyB fs e).1 = 0
    · rw [if_pos ha] at h0 ⊢
      have ih := rep_all r _ (i + 1) (apply_tree ht hne ha) (fun x hx => hn x (List.mem_cons_of_mem _ hx)) h0
      by_cases hk : turnsB e = true
      · rw [if_pos hk]
        have e1 : doOneB fs (chgOf e) = applyB fs e := by
          unfold doOneB applyB
          rw [ht, note_chg hne hk, if_pos hk]
          rfl
        unfold doAllB
        rw [e1, if_pos ha]
        exact ih
      · rw [if_neg hk]
        have e1 : (applyB fs e).2 = fs := by
          unfold applyB at ha ⊢
          rw [if_neg hk] at ha ⊢
          split at ha
          · next h1 => rw [if_pos h1]
          · cases ha
        rw [e1] at ih ⊢
        exact ih
    · rw [if_neg ha] at h0
      exact absurd h0 ha
theorem repl_view {fs : List NodeD} {l : List EvD} (ht : treeB fs = true) (hn : notesB l = true) (h0 : (replB fs l).1 = 0) : viewB fs l = (0, (replB fs l).2.2) := by
  rw [repl_of ht hn] at h0 ⊢
  have hl := (notes_all hn).1
  have hc := chgsOf_len l
  unfold viewB doChangesB
  rw [if_pos ht, if_neg (by omega)]
  exact rep_all l fs 0 ht (notes_all hn).2 h0
theorem repl_tree {fs : List NodeD} {l : List EvD} (h0 : (replB fs l).1 = 0) : treeB (replB fs l).2.2 = true := by
  unfold replB at h0 ⊢
  split at h0
  · next h => rw [if_pos h]; rw [Bool.and_eq_true] at h; exact rep_tree l fs 0 h.1 (notes_all h.2).2 h0
  · cases h0
end Go.Proofs.YtgmaamnofhmecaaGreatDoor
