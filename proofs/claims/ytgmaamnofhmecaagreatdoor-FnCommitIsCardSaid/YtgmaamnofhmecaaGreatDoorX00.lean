/-
  slices.Sorted(slices.Values(names)) at strings: the names, sorted, in memory of the call's own. (The iterator's part is turned from the kit's GgSlicesIterAtTheDump.) slices.Sorted(slices.Values(names)) and slices.Compact at strings; distinct of the program. Events, plainly: what replays keep. Turns of the reference: l25Turn. Replays of the reference: l25Replay. Transactions, plain: what a nested end does; a replay leaves what its changes leave. Commits on the reference's side: l25Tree, Replay. (Printed by gen_ty2.py.)
-/
import Derived.Test.YtgmaamnofhmecaaGreatDoorZ00
import Derived.Test.YtgmaamnofhmecaaGreatDoorZ01
import Derived.Test.YtgmaamnofhmecaaGreatDoorZ02
import Derived.Test.YtgmaamnofhmecaaGreatDoorZ03
import Derived.Test.YtgmaamnofhmecaaGreatDoorZ04
import Derived.Test.YtgmaamnofhmecaaGreatDoorZ05
import Derived.Test.YtgmaamnofhmecaaGreatDoorZ06
import Derived.Test.YtgmaamnofhmecaaGreatDoorZ07
import Derived.Test.YtgmaamnofhmecaaGreatDoorZ08
import Derived.Test.YtgmaamnofhmecaaGreatDoorZ09
import Derived.Test.YtgmaamnofhmecaaGreatDoorZ10
import Derived.Test.YtgmaamnofhmecaaGreatDoorZ11
import Derived.Test.YtgmaamnofhmecaaGreatDoorZ12
import Derived.Test.YtgmaamnofhmecaaGreatDoorZ13
import Derived.Test.YtgmaamnofhmecaaGreatDoorZ14
import Derived.Test.YtgmaamnofhmecaaGreatDoorZ15
import Derived.Test.YtgmaamnofhmecaaGreatDoorZ16
import Derived.Test.YtgmaamnofhmecaaGreatDoorZ17
import Derived.Test.YtgmaamnofhmecaaGreatDoorZ18
import Derived.Test.YtgmaamnofhmecaaGreatDoorZ19
import Derived.Test.YtgmaamnofhmecaaGreatDoorZ20
import Derived.Test.YtgmaamnofhmecaaGreatDoorZ21
import Derived.Test.YtgmaamnofhmecaaGreatDoorZ22
import Derived.Test.YtgmaamnofhmecaaGreatDoorZ23
import Derived.Test.YtgmaamnofhmecaaGreatDoorZ24
import Derived.Test.YtgmaamnofhmecaaGreatDoorZ25
import Derived.Test.YtgmaamnofhmecaaGreatDoorZ26
import Derived.Test.YtgmaamnofhmecaaGreatDoorZ27
import Derived.Test.YtgmaamnofhmecaaGreatDoorZ28
import Derived.Test.YtgmaamnofhmecaaGreatDoorZ29
import Derived.Test.YtgmaamnofhmecaaGreatDoorZ30
import Derived.Test.YtgmaamnofhmecaaGreatDoorZ31
import Derived.Test.YtgmaamnofhmecaaGreatDoorZ32
import Derived.Test.YtgmaamnofhmecaaGreatDoorZ33
import Derived.Test.YtgmaamnofhmecaaGreatDoorZ34
import Derived.Test.YtgmaamnofhmecaaGreatDoorZ35
import Derived.Test.YtgmaamnofhmecaaGreatDoorZ36
import Derived.Test.YtgmaamnofhmecaaGreatDoorZ37
import Derived.Test.YtgmaamnofhmecaaGreatDoorZ38
import Derived.Test.YtgmaamnofhmecaaGreatDoorZ39
import Derived.Test.YtgmaamnofhmecaaGreatDoorZ40
import Derived.Test.YtgmaamnofhmecaaGreatDoorZ41
import Derived.Test.YtgmaamnofhmecaaGreatDoorZ42
import Derived.Test.YtgmaamnofhmecaaGreatDoorZ43
import Derived.Test.YtgmaamnofhmecaaGreatDoorProg
import Derived.BigQuiet
import Derived.Deep.QuietTactic
import Derived.Deep.RegionHeld3
import Derived.Ground.GgwProg
import Derived.Ground.Names2Prog
import Derived.Ground.SlgnProg
import Derived.Lib.Hide
import Derived.Lib.OwnBridge
import Derived.Lib.SliceRun
import Derived.Lib.Strings
import Derived.LoopIn
import Derived.LoopNIn
import Derived.Maps.AppendAt
import Derived.OwnWalkIn
import Derived.RangeFuncBox
import Derived.RangeFuncLeaves
import Derived.Shelf.Abstract
import Derived.Shelf.GgClosure.StringsIndexFunc
import Derived.Shelf.GgClosure.StringsIndexFuncTop
import Derived.Shelf.LaysM
import Derived.Shelf.Slices.Cells
import Derived.Shelf.Slices.Clone
import Derived.Shelf.Slices.CompactS
import Derived.Shelf.Slices.Empties2
import Derived.Shelf.Slices.Equal
import Derived.Shelf.Slices.In.SortNone
import Derived.Shelf.Slices.Turned
import Derived.Shelf.SlicesE.Clone
import Derived.Shelf.SlicesG.SearchI
import Derived.Shelf.Small.Bits
import Derived.Shelf.Small.Strs
import Derived.Shelf.Small.Utf8
import Derived.Shelf.Small.Wraps
import Derived.Shelf.Sort.Plain
import Derived.Shelf.Strconv.Itoa0
import Derived.Shelf.Strconv.Itoa1
import Derived.Shelf.Strconv.Itoa2
import Derived.Shelf.Strconv.Itoa3
import Derived.Shelf.Strconv.Itoa4
import Derived.Shelf.Strings.AsciiSet
import Derived.Shelf.Strings.Builder1
import Derived.Shelf.Strings.Builder2
import Derived.Shelf.Strings.Count
import Derived.Shelf.Strings.Explode
import Derived.Shelf.Strings.FuncGrows
import Derived.Shelf.Strings.OnBuilder
import Derived.Shelf.Strings.Prefix
import Derived.Shelf.Strings.Replace
import Derived.Shelf.Strings.RuneCount
import Derived.Shelf.Strings.Runes
import Derived.Shelf.Strings.Search1
import Derived.Shelf.Strings.Search2
import Derived.Shelf.Strings.Search3
import Derived.Shelf.Strings.Shaped
import Derived.Shelf.Strings.Split
import Derived.Shelf.Strings.SplitShaped
import Derived.Shelf.Strings.Trim
import Derived.Shelf.Unicode.Decode
import Derived.Shelf.Unicode.DecodeAny
import Derived.Shelf.Unicode.DecodeLast
import Derived.Shelf.Unicode.DecodeSlow
import Derived.Shelf.Utf8.RuneCount
import Derived.TacticsInMore
import Derived.WalkKit
import Derived.WalkLawsBesides
import Derived.WalkSpells
import Derived.Shelf.SlIter.Collect
import Derived.Deep.AppendLies
import Derived.Deep.CutBlock
import Derived.Deep.DeepCutAuto
import Derived.Deep.RegionLaw
import Derived.Deep.RegionWith
import Derived.IntWalk
import Derived.Laws.OwnMore
import Derived.Lib.AppendIntMem
import Derived.Lib.IndexAny
import Derived.Lib.ItoaNum
import Derived.Lib.SlTrimSet
import Derived.Lib.TrimUEq
import Derived.OwnWalk
import Derived.RegionTactic
import Derived.Shelf.Strings.SlTrimAscii
import Derived.Shelf.Unicode.PredsPay
import Derived.Laws.BitsAllLaws
import Derived.Laws.CopyOwn
import Derived.Laws.CopyRow
import Derived.Laws.IdiomStrings
import Derived.Lib.BufferWrite
import Derived.Lib.IndexBytes
import Derived.Lib.Join
import Derived.Lib.SplitLaws
import Derived.Laws.Externs
import Derived.Lib.AppendZerosOnto
import Derived.Lib.JoinLaws
import Derived.Lib.Overlaps
set_option linter.unusedSimpArgs false
namespace Go.Proofs.YtgmaamnofhmecaaGreatDoor
open Go.RowKit Go.Shelf Go.Proofs.YtgmaamnofhmecaaGreatDoor.Own

attribute [local go_sem] Oper.semAt_some

end Go.Proofs.YtgmaamnofhmecaaGreatDoor
namespace Go.Proofs.YtgmaamnofhmecaaGreatDoor
open Go.RowKit Go.Shelf Go.Proofs.YtgmaamnofhmecaaGreatDoor.Own

attribute [local go_sem] Oper.semAt_some

end Go.Proofs.YtgmaamnofhmecaaGreatDoor
namespace Go.Proofs.YtgmaamnofhmecaaGreatDoor
open Go.RowKit
set_option linter.unusedVariables false

theorem rep_tree : ∀ (l : List EvD) (fs : List NodeD) (i : Nat), treeB fs = true → (∀ e ∈ l, noteB e = true) → (repB fs l i).1 = 0 → treeB (repB fs l i).2.2 = true
  | [], fs, i, h, _, _ => h
  | e :: r, fs, i, h, he, h0 => by
    unfold repB at h0 ⊢
    split
    · next ha =>
      rw [if_pos ha] at h0
      exact rep_tree r _ _ (apply_tree h (he e (by simp)) ha) (fun x hx => he x (List.mem_cons_of_mem _ hx)) h0
    · next ha =>
      rw [if_neg ha] at h0
      exact absurd h0 ha
theorem rep_nil {fs : List NodeD} {l : List EvD} {i : Nat} (h : (repB fs l i).1 ≠ 0) : (repB fs l i).2.2 = [] := by
  induction l generalizing fs i with
  | nil => exact absurd rfl h
  | cons e r ih =>
    unfold repB at h ⊢
    split
    · next ha =>
      rw [if_pos ha] at h
      exact ih h
    · rfl
end Go.Proofs.YtgmaamnofhmecaaGreatDoor
namespace Go.Proofs.YtgmaamnofhmecaaGreatDoor
open Go.RowKit
set_option linter.unusedVariables false

theorem doOne_turn {fs : List NodeD} {e : EvD} (ht : treeB fs = true) (h : noteB e = true) (hk : turnsB e = true) : doOneB fs (chgOf e) = applyB fs e := by
  unfold doOneB applyB
  rw [ht, note_chg h hk, hk]
  rfl
end Go.Proofs.YtgmaamnofhmecaaGreatDoor
namespace Go.Proofs.YtgmaamnofhmecaaGreatDoor
open Go.RowKit
set_option linter.unusedVariables false

/-- The argument itself, or memory of the call's own. -/
def TreeW (v0 : Value) (fs0 : List NodeD) (base : Nat) (wr : World) (v : Value) (gs : List NodeD) : Prop := (v = v0 ∧ gs = fs0) ∨ NodesO wr base v gs
theorem TreeW.later {v0 : Value} {fs0 : List NodeD} {base : Nat} {w w' : World} {v : Value} {gs : List NodeD} (h : TreeW v0 fs0 base w v gs) (hb : Below w.heap.size w w') : TreeW v0 fs0 base w' v gs :=
  h.imp id (fun h => h.later hb)
theorem TreeW.setBlk {v0 : Value} {fs0 : List NodeD} {base : Nat} {w : World} {v : Value} {gs : List NodeD} {g i : Nat} {t : TypeId} {u : Value} {cs : Array Value} (h : TreeW v0 fs0 base w v gs) (hB : Blk w g t cs) (h1 : 102 ≠ t) (h2 : 9 ≠ t) : TreeW v0 fs0 base (w.setCell ⟨g, i, none⟩ u) v gs :=
  h.imp id (fun h => h.setBlk hB h1 h2)
theorem TreeW.reads {base : Nat} {w0 w : World} {A : Option Addr} {n c : Nat} {fs0 : List NodeD} {v : Value} {gs : List NodeD} (h : TreeW (.slice A n c) fs0 base w v gs) (h0 : Nodes w0 w0.heap.size A n fs0) (hnc : n ≤ c) (hb : Below w0.heap.size w0 w) : ∃ A' cap, v = .slice A' gs.length cap ∧ gs.length ≤ cap ∧ Nodes w w.heap.size A' gs.length gs := by
  rcases h with ⟨rfl, rfl⟩ | h
  · refine ⟨A, c, by rw [h0.1], by rw [h0.1]; exact hnc, by rw [h0.1]; exact h0.later hb⟩
  · exact h.reads
/-- A replay: the tree, the place, the code. -/
def RpPost (v0 : Value) (fs0 : List NodeD) (r : Int × Nat × List NodeD) (w : World) (e : Ending) (w' : World) : Prop := ∃ v, e = .returned (.tuple #[.agg #[v], .int .i64 r.2.1, .int .i64 r.1]) ∧ TreeW v0 fs0 w.heap.size w' v r.2.2 ∧ Below w.heap.size w w'
theorem TreeW.nil (v0 : Value) (fs0 : List NodeD) (base : Nat) (w : World) : TreeW v0 fs0 base w (.slice none 0 0) [] := .inr (nodesO_nil _ _)
set_option maxRecDepth 100000 in
set_option maxHeartbeats 8000000 in
theorem l25Replay_any (A : Option Addr) (n c : Nat) (L : Option Addr) (m q : Nat) (fs : List NodeD) (l : List EvD) (w : World) (hN : Nodes w w.heap.size A n fs) (hnc : n ≤ c) (ht : treeB fs = true) (hcl : cleanT fs) (hL : Evs w w.heap.size L m l) (hm : m ≤ 60) (hall : ∀ e ∈ l, noteB e = true ∧ e.small ∧ cleanE e) :
    Calls Tryz.prog 89 #[.agg #[.slice A n c], .slice L m q] w (RpPost (.slice A n c) fs (repB fs l 0) w) := by
  have HN := Lib.hid hN
  have HLC := Lib.hid hL
  have HLL := Lib.hid hL.1
  have HAL := Lib.hid hall
  have HT0 := Lib.hid ht
  have HC0 := Lib.hid hcl
  have HNC := Lib.hid hnc
  have HPB0 : Hid (repB fs l 0 = repB fs l 0) := rfl
  clear hN hnc ht hcl hL hall
  generalize hPB : repB fs l 0 = PB at *
  clear HPB0
  obtain ⟨WB, hWB⟩ : ∃ WB, WB = (w.alloc (.cells #[.slice A n c] 26)).alloc (.cells #[.slice none 0 0] 26) := ⟨_, rfl⟩
  have HB0 : Hid (Below w.heap.size w WB) := by subst hWB; exact (Below.new _ _).later (Below.new _ _)
  have HX0 : Hid (Blk WB w.heap.size 26 #[.slice A n c]) := by subst hWB; exact heap_two0 _ _ _
  have HY0 : Hid (Blk WB (w.heap.size + 1) 26 #[.slice none 0 0]) := by subst hWB; exact heap_two1 _ _ _
  have HPB := Lib.hid hPB
  clear hPB
  go_enter Tryz.func89, Tryz.ntmps89
  go_wp2_with fail
  rw [← hWB]
  clear hWB
  go_loopw [7] (fun i wr => ∃ (k : Nat) (v : Value) (gs : List NodeD), k ≤ m ∧ i = .int .i64 k ∧ Hid (Blk wr w.heap.size 26 #[v]) ∧ Hid (Blk wr (w.heap.size + 1) 26 #[.slice none 0 0]) ∧ Hid (TreeW (.slice A n c) fs w.heap.size wr v gs) ∧ Hid (treeB gs = true) ∧ Hid (cleanT gs) ∧ Hid (Below w.heap.size w wr) ∧ Hid (PB = repB gs (l.drop k) k)) (fun i _ => m - (intOf i).toNat)
  case atStart => exact ⟨0, _, fs, Nat.zero_le _, rfl, HX0.out, HY0.out, .inl ⟨rfl, rfl⟩, HT0.out, HC0.out, HB0.out, by unfold Hid; rw [List.drop_zero]; exact HPB.out.symm⟩
  case round =>
    obtain ⟨k, v, gs, hk, rfl, HV, HYR, HTW, HTG, HCG, HBW, HPK⟩ := hrel
    obtain ⟨A3, cap3, rfl, hc3, hN3⟩ := HTW.out.reads HN.out HNC.out HBW.out
    have pv := HV.out.cell 0
    have zv := HV.out.lt
    have fv := HV.out.frozen 0
    have py := HYR.out.cell 0
    have zy := HYR.out.lt
    have fy := HYR.out.frozen 0
    simp at pv py
    clear HX0 HY0 HB0
    by_cases hlt : k < m
    · obtain ⟨bb, o, rfl, hbB, hc⟩ := (HLC.out.later HBW.out).2 (by omega)
      obtain ⟨c0, c1, c2, c3, c4, k0, k1, k2, k3, k4, hr⟩ := hc k hlt
      clear hc
      have hl : k < l.length := by rw [HLL.out]; exact hlt
      obtain ⟨hnote, hsd, hce⟩ := HAL.out _ (getD_memQ l k hl)
      have hda := drop_consQ l k hl
      have hwh := (note_parts hnote).1
      have hrt := reads_turns hnote
      generalize l.getD k default = d at *
      have HDA : Hid (PB = if (applyB gs d).1 = 0 then repB (applyB gs d).2 (l.drop (k + 1)) (k + 1) else ((applyB gs d).1, k, [])) := by unfold Hid; rw [HPK.out, hda]; rfl
      have HDT : Hid ((applyB gs d).1 = 0 → treeB (applyB gs d).2 = true) := apply_tree HTG.out hnote
      have HDC : Hid (cleanT (applyB gs d).2) := clean_apply HCG.out hce
      have HKR := Lib.hid (fun W (hW : Below wr.heap.size wr W) => specReadsOf_any c0 c1 c2 c3 c4 d W (hr.later hW))
      cases hrd : readsB d
      · rw [hrd] at hrt
        have HKT := Lib.hid (fun W (hW : Below wr.heap.size wr W) => l25Turn_any A3 gs.length cap3 gs c0 c1 c2 c3 c4 d W (hN3.later hW) hc3 (tree_small HTG.out) (hr.later hW) hsd)
        rw [doOne_turn HTG.out hnote hrt] at HKT
        rw [hrd] at HKR
        clear hda hsd hnote hce hwh hrt hrd
        generalize applyB gs d = R at *
        obtain ⟨r1, r2⟩ := R
        have HR := Lib.hid hr
        obtain ⟨rfl, rfl, ⟨S, m1, q1, rfl, _, _⟩, rfl, rfl⟩ := hr
        have hxx : w.heap.size ≠ w.heap.size + 1 := by omega
        go_wp2_with fail
        refine (HKR.out _ (Below.refl _ _)).mono ?_
        rintro e w1 ⟨rfl, hb1⟩
        have HB1 := Lib.hid hb1
        have HV1 := Lib.hid (HV.out.later hb1 HV.out.lt)
        have HYR1 := Lib.hid (HYR.out.later hb1 HYR.out.lt)
        have HR1 := Lib.hid (HR.out.later hb1)
        have HTW1 := Lib.hid (HTW.out.later hb1)
        have HBW1 := Lib.hid (HBW.out.later hb1)
        have hbB1 : bb < w1.heap.size := Nat.lt_of_lt_of_le hbB hb1.size
        have j0 := cell_later hb1 k0
        have j1 := cell_later hb1 k1
        have j2 := cell_later hb1 k2
        have j3 := cell_later hb1 k3
        have j4 := cell_later hb1 k4
        clear hb1 k0 k1 k2 k3 k4 pv zv fv py zy fy HV HYR HR HTW HBW hN3
        have pv := HV1.out.cell 0
        have zv := HV1.out.lt
        have fv := HV1.out.frozen 0
        have py := HYR1.out.cell 0
        have zy := HYR1.out.lt
        have fy := HYR1.out.frozen 0
        simp at pv py
        go_wp2_with fail
        go_region_law (first
          | (go_simp
             go_at_call 82
             refine (HKT.out _ (by exact HB1.out.drew)).mono ?_
             rintro e w4 ⟨v4, rfl, hN4, hb4'⟩
             have hb4 := undrew hb4'
             obtain ⟨A4, cap4, rfl, hcap4, _⟩ := hN4.reads
             have HW := Lib.hid (Below.new w4 (.cells #[.slice A4 r2.length cap4] 26))
             have H8X : Hid (Blk (w4.alloc (.cells #[.slice A4 r2.length cap4] 26)) w4.heap.size 26 #[.slice A4 r2.length cap4]) := heap_alloc_new _ _
             have HVX := Lib.hid ((HV1.out.later hb4 HV1.out.lt).alloc (.cells #[.slice A4 r2.length cap4] 26))
             have HYX := Lib.hid ((HYR1.out.later hb4 HYR1.out.lt).alloc (.cells #[.slice A4 r2.length cap4] 26))
             have HNX : Hid (NodesO (w4.alloc (.cells #[.slice A4 r2.length cap4] 26)) w.heap.size (.slice A4 r2.length cap4) r2) := (hN4.base HBW1.out.size).later HW.out
             have HBX := Lib.hid ((HBW1.out.later hb4).later HW.out)
             have z8 := H8X.out.lt
             clear hb4 hb4' hN4)
          | (go_simp
             go_at_call 82
             refine (HKT.out _ (by exact (HB1.out.later (Below.new _ _)).drew)).mono ?_
             rintro e w4 ⟨v4, rfl, hN4, hb4'⟩
             have hb4 := undrew hb4'
             obtain ⟨A4, cap4, rfl, hcap4, _⟩ := hN4.reads
             have h8 : Blk w4 w1.heap.size 26 #[.slice none 0 0] := Blk.later (heap_alloc_new w1 _) hb4 (by simp)
             have p8 := h8.cell 0
             have f8 := h8.frozen 0
             have z8 := h8.lt
             simp at p8
             have hbW := (Below.new w1 (.cells #[.slice none 0 0] 26)).later hb4
             have H8X : Hid (Blk (w4.setCell ⟨w1.heap.size, 0, none⟩ (.slice A4 r2.length cap4)) w1.heap.size 26 #[.slice A4 r2.length cap4]) := h8.set_ 0 _
             have HVX := Lib.hid ((HV1.out.later hbW HV1.out.lt).far (p := ⟨w1.heap.size, 0, none⟩) (show w.heap.size ≠ w1.heap.size by omega) (.slice A4 r2.length cap4))
             have HYX := Lib.hid ((HYR1.out.later hbW HYR1.out.lt).far (p := ⟨w1.heap.size, 0, none⟩) (show w.heap.size + 1 ≠ w1.heap.size by omega) (.slice A4 r2.length cap4))
             have HNX : Hid (NodesO (w4.setCell ⟨w1.heap.size, 0, none⟩ (.slice A4 r2.length cap4)) w.heap.size (.slice A4 r2.length cap4) r2) := (hN4.base (by have := HBW1.out.size; simp; omega)).setBlk h8 (by decide) (by decide)
             have HBX := Lib.hid ((HBW1.out.later hbW).setCell (p := ⟨w1.heap.size, 0, none⟩) HBW1.out.size (.slice A4 r2.length cap4))
             clear hb4 hb4' hN4 h8 hbW))
        all_goals
          have p8 := H8X.out.cell 0
          have z8 := H8X.out.lt
          have pv := HVX.out.cell 0
          have fv := HVX.out.frozen 0
          have zv := HVX.out.lt
          have py := HYX.out.cell 0
          have fy := HYX.out.frozen 0
          have zy := HYX.out.lt
          simp at p8 pv py
          by_cases hr0 : r1 = 0
          · have HE2 : Hid (PB = repB r2 (l.drop (k + 1)) (k + 1)) := by unfold Hid; rw [HDA.out, if_pos hr0]
            have HT2 := Lib.hid (HDT.out hr0)
            subst hr0
            go_wp2_with fail
            go_roundw
            case rel =>
              exact ⟨k + 1, _, r2, by omega, by go_num, HVX.out.set_ 0 _, HYX.out.far (show w.heap.size + 1 ≠ w.heap.size by omega) _, .inr (HNX.out.setBlk HVX.out (by decide) (by decide)), HT2.out, HDC.out, HBX.out.setCell (show w.heap.size ≤ w.heap.size by omega) _, HE2.out⟩
            case measure => simp [intOf]; omega
          · have HE2 : Hid (PB = (r1, k, [])) := by unfold Hid; rw [HDA.out, if_neg hr0]
            have hb0 : (r1 == (0 : Int)) = false := by rw [beq_eq_false_iff_ne]; exact hr0
            go_wp2_with fail
            refine bodyPost_ret (v := .tuple #[.agg #[.slice none 0 0], .int .i64 k, .int .i64 r1]) (by simp [results, Tryz.results89, go_sem, py]) rfl ?_
            exact ⟨_, by rw [HE2.out], by rw [HE2.out]; exact TreeW.nil _ _ _ _, HBX.out.setCell (show w.heap.size ≤ w.heap.size + 1 by omega) _⟩
      · have hto : applyB gs d = if sameE (againB gs d) d = true then (0, gs) else (5, gs) := by unfold applyB; rw [hrt, hrd]; rfl
        have HKG := Lib.hid (fun W (hW : Below wr.heap.size wr W) => l25Again_any A3 gs.length cap3 gs c0 c1 c2 c3 c4 d W (hN3.later hW) HTG.out HCG.out (hr.later hW) hsd hwh hrd)
        have HKS := Lib.hid (fun A1 m1 q1 W (hW : Below wr.heap.size wr W) (hS : Own.SubO W wr.heap.size (.slice A1 m1 q1) (againB gs d).subs) => l25SameEvent_any _ _ _ _ _ c0 c1 c2 c3 c4 (againB gs d) d W (evR_of hS) (hr.later hW) (by rw [again_subs]; exact hsd.2.1.1) hsd.2.1.1)
        rw [hrd] at HKR
        rw [hto] at HDA HDT HDC
        clear hda hsd hnote hce hwh hrt hrd hto
        have HR := Lib.hid hr
        obtain ⟨rfl, rfl, ⟨S, m1, q1, rfl, _, _⟩, rfl, rfl⟩ := hr
        have hxx : w.heap.size ≠ w.heap.size + 1 := by omega
        unfold EvPost at HKG
        generalize againB gs d = ag at *
        generalize hsm : sameE ag d = sb at *
        clear hsm
        go_wp2_with fail
        refine (HKR.out _ (Below.refl _ _)).mono ?_
        rintro e w1 ⟨rfl, hb1⟩
        have HB1 := Lib.hid hb1
        have j0 := cell_later hb1 k0
        have j1 := cell_later hb1 k1
        have j2 := cell_later hb1 k2
        have j3 := cell_later hb1 k3
        have j4 := cell_later hb1 k4
        have j5 := cell_later hb1 pv
        clear hb1 k0 k1 k2 k3 k4 pv zv fv py zy fy HR hN3
        have HS : Hid (∀ W, Below w1.heap.size w1 W → (W.cell? ⟨w.heap.size, 0, none⟩ = some (.slice A3 gs.length cap3) ∧ W.cell? ⟨bb, o + k * 5, none⟩ = some (.int .i64 d.kind) ∧ W.cell? ⟨bb, o + k * 5 + 1, none⟩ = some (.string d.name) ∧ W.cell? ⟨bb, o + k * 5 + 2, none⟩ = some (.slice S m1 q1) ∧ W.cell? ⟨bb, o + k * 5 + 3, none⟩ = some (.string d.val) ∧ W.cell? ⟨bb, o + k * 5 + 4, none⟩ = some (.int .i64 d.n))) := fun W hW => ⟨cell_later hW j5, cell_later hW j0, cell_later hW j1, cell_later hW j2, cell_later hW j3, cell_later hW j4⟩
        go_wp2_with fail
        go_region_held3 (fun W => W.cell? ⟨w.heap.size, 0, none⟩ = some (.slice A3 gs.length cap3) ∧ W.cell? ⟨bb, o + k * 5, none⟩ = some (.int .i64 d.kind) ∧ W.cell? ⟨bb, o + k * 5 + 1, none⟩ = some (.string d.name) ∧ W.cell? ⟨bb, o + k * 5 + 2, none⟩ = some (.slice S m1 q1) ∧ W.cell? ⟨bb, o + k * 5 + 3, none⟩ = some (.string d.val) ∧ W.cell? ⟨bb, o + k * 5 + 4, none⟩ = some (.int .i64 d.n))
          (first | exact HS.out _ (Below.refl _ _).drew | exact HS.out _ HB2.out | exact HS.out _ HB3.out | go_keep)
          (first
            | (go_at_call 106
               refine (HKG.out _ (by exact HB1.out.drew)).mono ?_
               rintro e w2 ⟨v2, rfl, ho2, hb2'⟩
               have HB2 := Lib.hid (undrew hb2')
               obtain ⟨A1, m2, q2, rfl⟩ : ∃ A1 m2 q2, v2 = .slice A1 m2 q2 := by obtain ⟨A, cap, e, _⟩ := Own.own_slice ho2; exact ⟨A, _, cap, e⟩
               have HSO := Lib.hid (Own.own_base ho2 (by simpa using HB1.out.size))
               clear hb2' ho2)
            | (go_at_call 105
               refine (HKS.out _ _ _ _ (HB1.out.later HB2.out) HSO.out).mono ?_
               rintro e w3 ⟨rfl, hb3⟩
               have HB3 := Lib.hid (HB2.out.later hb3)
               clear hb3))
        have HB13 := Lib.hid (HB1.out.later HB3.out)
        have HV3 := Lib.hid (HV.out.later HB13.out HV.out.lt)
        have HYR3 := Lib.hid (HYR.out.later HB13.out HYR.out.lt)
        have HTW3 := Lib.hid (HTW.out.later HB13.out)
        have HBW3 := Lib.hid (HBW.out.later HB13.out)
        have py := HYR3.out.cell 0
        have zy := HYR3.out.lt
        have fy := HYR3.out.frozen 0
        simp at py
        clear j0 j1 j2 j3 j4 j5
        cases sb
        · have HE2 : Hid (PB = (5, k, [])) := by unfold Hid; rw [HDA.out]; rfl
          go_wp2_with fail
          refine bodyPost_ret (v := .tuple #[.agg #[.slice none 0 0], .int .i64 k, .int .i64 5]) (by simp [results, Tryz.results89, go_sem, py]) rfl ?_
          exact ⟨_, by rw [HE2.out], by rw [HE2.out]; exact TreeW.nil _ _ _ _, HBW3.out.setCell (show w.heap.size ≤ w.heap.size + 1 by omega) _⟩
        · have HE2 : Hid (PB = repB gs (l.drop (k + 1)) (k + 1)) := by unfold Hid; rw [HDA.out]; rfl
          go_wp2_with fail
          go_roundw
          case rel => exact ⟨k + 1, _, gs, by omega, by go_num, HV3.out, HYR3.out, HTW3.out, HTG.out, HCG.out, HBW3.out, HE2.out⟩
          case measure => simp [intOf]; omega
    · obtain rfl : k = m := by omega
      have HE2 : Hid (PB = (0, 0, gs)) := by unfold Hid; rw [HPK.out, List.drop_of_length_le (by rw [HLL.out]; omega)]; rfl
      have hxx : w.heap.size ≠ w.heap.size + 1 := by omega
      go_wp2_with fail
      refine bodyPost_ret (v := .tuple #[.agg #[.slice A3 _ cap3], .int .i64 0, .int .i64 0]) (by simp [results, Tryz.results89, go_sem, py]; try first | exact rfl | exact ⟨rfl, rfl⟩) rfl ?_
      exact ⟨_, by rw [HE2.out]; rfl, by rw [HE2.out]; exact HTW.out.setBlk HYR.out (by decide) (by decide), HBW.out.setCell (show w.heap.size ≤ w.heap.size + 1 by omega) _⟩
end Go.Proofs.YtgmaamnofhmecaaGreatDoor
namespace Go.Proofs.YtgmaamnofhmecaaGreatDoor
open Go.RowKit
set_option linter.unusedVariables false
set_option linter.unusedSimpArgs false

theorem repl_tree {fs : List NodeD} {l : List EvD} (h0 : (replB fs l).1 = 0) : treeB (replB fs l).2.2 = true := by
  unfold replB at h0 ⊢
  split at h0
  · next h => rw [if_pos h]; rw [Bool.and_eq_true] at h; exact rep_tree l fs 0 h.1 (notes_all h.2).2 h0
  · cases h0
end Go.Proofs.YtgmaamnofhmecaaGreatDoor
namespace Go.Proofs.YtgmaamnofhmecaaGreatDoor
open Go.RowKit
set_option linter.unusedVariables false
set_option linter.unusedSimpArgs false

set_option maxRecDepth 100000 in
set_option maxHeartbeats 8000000 in
theorem l25Tree_any (A : Option Addr) (n c : Nat) (fs : List NodeD) (w : World) (h : Nodes w w.heap.size A n fs) (hs : smallNs fs) :
    Calls Tryz.prog 88 #[.agg #[.slice A n c]] w (TreeOnly fs w) := by
  obtain ⟨i0, hi, hz0, hz1, hz2⟩ := info_parts infoNodeD
  have Hh := Lib.hid h
  have Hlen := Lib.hid h.1
  have Hsm := Lib.hid hs.2
  have hn : n ≤ 1048576 := by rw [← h.1]; exact hs.1
  clear h hs
  obtain ⟨WB, hWB⟩ : ∃ WB, WB = ((w.alloc (.cells #[.slice A n c] 26)).alloc (.cells #[.slice none 0 0] 26)).alloc (.cells #[.slice none 0 0] 26) := ⟨_, rfl⟩
  have HB0 : Hid (Below w.heap.size w WB) := by subst hWB; exact below_new3 w _ _ _
  have HA0 : Hid (Blk WB w.heap.size 26 #[.slice A n c]) := by subst hWB; exact heap_new0 _ _ _ _
  have HY0 : Hid (Blk WB (w.heap.size + 1) 26 #[.slice none 0 0]) := by subst hWB; exact heap_new1 _ _ _ _
  have HV0 : Hid (Blk WB (w.heap.size + 1 + 1) 26 #[.slice none 0 0]) := by subst hWB; exact heap_new2 _ _ _ _
  go_enter Tryz.func88, Tryz.ntmps88
  go_wp2_with fail
  rw [← hWB]
  clear hWB
  go_loopw [4] (fun i wr => ∃ (k : Nat) (v : Value), k ≤ n ∧ i = .int .i64 k ∧ Hid (Blk wr w.heap.size 26 #[.slice A n c]) ∧ Hid (Blk wr (w.heap.size + 1) 26 #[.slice none 0 0]) ∧ Hid (Blk wr (w.heap.size + 1 + 1) 26 #[v]) ∧ Hid (NodesO wr w.heap.size v (fs.take k)) ∧ Hid (Below w.heap.size w wr)) (fun i _ => n - (intOf i).toNat)
  case atStart => exact ⟨0, _, Nat.zero_le _, rfl, HA0.out, HY0.out, HV0.out, by unfold Hid; rw [List.take_zero]; exact nodesO_nil _ _, HB0.out⟩
  case round =>
    obtain ⟨k, v, hk, rfl, HA, HY, HV, ⟨vs, ho⟩, HB⟩ := hrel
    have HO := Lib.hid ho
    clear ho HB0 HY0 HV0 HA0
    have x0 := HA.out.cell 0
    simp at x0
    by_cases hlt : k < n
    · have hl : k < fs.length := by rw [Hlen.out]; exact hlt
      obtain ⟨bb, o, rfl, hbB, hcn⟩ := (Hh.out.later HB.out).2 (by omega)
      obtain ⟨c0, c1, c2, k0, k1, k2, hr⟩ := hcn k hlt
      clear hcn
      have hsd := Hsm.out _ (getD_memD fs k hl)
      have HT : Hid (fs.take (k + 1) = fs.take k ++ [fs.getD k default]) := by
        unfold Hid
        rw [List.take_succ_eq_append_getElem hl, List.getD_eq_getElem?_getD, List.getElem?_eq_getElem hl, Option.getD_some]
      have htl : (fs.take k).length = k := by rw [List.length_take]; omega
      have hrw := HO.out.row
      rw [htl] at hrw
      obtain ⟨g, cap, rfl, _, _, _⟩ := Own.own_slice hrw
      have HTL := Lib.hid htl
      clear htl hrw
      generalize fs.getD k default = d at *
      obtain ⟨rfl, ⟨A1, n1, p1, rfl, s1, q1⟩, rfl⟩ := hr
      have hn1 : n1 ≤ 1048576 := by rw [← s1.1]; exact hsd.2.1.1
      have HKS := Lib.hid (fun W (hW : Below wr.heap.size wr W) => l24SubsO_any A1 n1 p1 d.subs W (s1.later hW) hn1)
      generalize hdn : d.name = dn at *
      generalize hdv : d.val = dv at *
      have HDN := Lib.hid hdn
      have HDV := Lib.hid hdv
      clear s1 hsd hdn hdv
      have hki : (k : Int) < (n : Int) := by omega
      have hbBz : bb < wr.heap.size := hbB
      obtain ⟨V, hV⟩ : ∃ V, V = wr.alloc (.cells #[.string dn, .slice A1 n1 p1, .string dv] 102) := ⟨_, rfl⟩
      have HBV : Hid (Below wr.heap.size wr V) := by subst hV; exact Below.new _ _
      have HN5 : Hid (Blk V wr.heap.size 102 #[.string dn, .slice A1 n1 p1, .string dv]) := by subst hV; exact heap_alloc_new _ _
      have HVS : Hid (V.heap.size = wr.heap.size + 1) := by subst hV; unfold Hid; simp
      go_wp2_with fail
      rw [← hV]
      clear hV k0 k1 k2 x0
      refine (HKS.out _ HBV.out).mono ?_
      rintro e w4 ⟨A2, c2, rfl, hq2, hs2, hb4⟩
      have HB4 := Lib.hid (HBV.out.later hb4)
      have HN4 := Lib.hid (HN5.out.later hb4 HN5.out.lt)
      have HV4 := Lib.hid (HV.out.later HB4.out HV.out.lt)
      have HS2 := Lib.hid (Own.own_base hs2 (show wr.heap.size ≤ V.heap.size by rw [HVS.out]; omega))
      clear hb4 hs2 HN5
      have n0 := HN4.out.cell 0
      have n1' := HN4.out.cell 1
      have n2 := HN4.out.cell 2
      have nf := HN4.out.frozen 1
      have nz := HN4.out.lt
      have pv := HV4.out.cell 0
      have fv := HV4.out.frozen 0
      have zv := HV4.out.lt
      have hwz := HB.out.size
      simp at n0 n1' n2 pv
      have hvr := HV.out.lt
      obtain ⟨W5, hW5⟩ : ∃ W5, W5 = (w4.setCell ⟨wr.heap.size, 1, none⟩ (.slice A2 n1 c2)).alloc (.cells #[.string dn, .slice A2 n1 c2, .string dv] 102) := ⟨_, rfl⟩
      have HB5 : Hid (Below wr.heap.size wr W5) := by subst hW5; exact (HB4.out.setCell (p := ⟨wr.heap.size, 1, none⟩) (Nat.le_refl _) _).later (Below.new _ _)
      have HS5 : Hid (Own.SubO W5 w.heap.size (.slice A2 n1 c2) d.subs) := by subst hW5; exact Own.own_later (Own.own_base (Own.SubO.setBlk (u := .slice A2 n1 c2) (i := 1) HS2.out HN4.out (by decide)) hwz) (Below.new _ _)
      have HO5 := Lib.hid (HO.out.later HB5.out)
      have HV5 := Lib.hid (HV.out.later HB5.out HV.out.lt)
      have HOWN : Hid (W5.ownsRow w.heap.size 102 3 (.slice g k cap) k (Own.flat nodeK (fs.take k) vs)) := by
        have h := HO5.out.row
        rw [HTL.out] at h
        exact h
      have hbs : w.heap.size ≤ W5.heap.size := Nat.le_trans hwz HB5.out.size
      have HCN : Hid (∀ j u, (#[.string dn, .slice A2 n1 c2, .string dv] : Array Value).toList[j]? = some u → W5.cell? ((⟨w4.heap.size, 0, none⟩ : Addr).add j) = some u) := by
        subst hW5
        exact cells_newG (w := w4.setCell ⟨wr.heap.size, 1, none⟩ (.slice A2 n1 c2)) (cs := #[.string dn, .slice A2 n1 c2, .string dv]) (by simp)
      go_wp2_with (rw [← hW5]; clear hW5; at_builtin; refine wpList_append_own _ rfl (.tmp 24) (.tmp 26) 24 rfl w.heap.size 102 i0 _ 3 56 Tryz.underlying24 hi hz0 hz1 hz2 rfl (by decide) _ k _ rfl HOWN.out ⟨_, 0, none⟩ 1 1 ((#[.string dn, .slice A2 n1 c2, .string dv] : Array Value).toList) rfl rfl ?c1a ?c2a ?c3a ?c4a ?c5a ?_)
      try (case c1a => first | exact HCN.out | (intro j u hu; have h9 := HCN.out j u hu; rw [add_offN, Nat.zero_add] at h9; exact h9))
      try (case c2a => simp [Value.oneCell'])
      try (case c3a => unfold maxLen; omega)
      try (case c4a => omega)
      try (case c5a => exact hbs)
      intro v5 w5 hown5 hg5 _
      have HN6 := Lib.hid (Own.OwnL.snoc (d := d) HO5.out HS5.out (HO.out.fresh HS2.out (Nat.le_refl _)) (by rw [HTL.out]; first | exact hown5 | (rw [HDN.out, HDV.out]; exact hown5) | (subst dn dv; exact hown5)) (by first | exact hg5 | (rw [HTL.out]; exact hg5)) (by decide))
      have HB6 := Lib.hid ((HB.out.later HB5.out).grown hg5 hbs (fun g' e => (HOWN.out.lt g' e).1))
      have HV6 := Lib.hid (HV5.out.grown hg5 (fun e => Own.own_blk_ne HOWN.out HV5.out (by decide) e.symm))
      have HY6 := Lib.hid ((HY.out.later HB5.out HY.out.lt).grown hg5 (fun e => Own.own_blk_ne HOWN.out (HY.out.later HB5.out HY.out.lt) (by decide) e.symm))
      have HA6 := Lib.hid ((HA.out.later HB5.out HA.out.lt).grown hg5 (fun e => Own.own_blk_ne HOWN.out (HA.out.later HB5.out HA.out.lt) (by decide) e.symm))
      obtain ⟨A6, c6, rfl⟩ : ∃ A6 c6, v5 = .slice A6 (k + 1) c6 := by
        have h6 := HN6.out.row
        obtain ⟨A', c', e, _⟩ := Own.own_slice h6
        rw [List.length_append, HTL.out] at e
        exact ⟨A', c', e⟩
      have r0 := HV6.out.cell 0
      have rf := HV6.out.frozen 0
      have rz := HV6.out.lt
      simp at r0
      clear hown5 hg5 n0 n1' n2 nf nz pv fv zv
      go_wp2_with fail
      go_roundw
      case rel => exact ⟨k + 1, _, by omega, by go_num, HA6.out.far (p := ⟨w.heap.size + 1 + 1, 0, none⟩) (show w.heap.size ≠ w.heap.size + 1 + 1 by omega) _, HY6.out.far (p := ⟨w.heap.size + 1 + 1, 0, none⟩) (show w.heap.size + 1 ≠ w.heap.size + 1 + 1 by omega) _, HV6.out.set_ 0 _, by unfold Hid; rw [HT.out]; exact NodesO.setBlk ⟨_, HN6.out⟩ HV6.out (by decide) (by decide), HB6.out.setCell (p := ⟨w.heap.size + 1 + 1, 0, none⟩) (show w.heap.size ≤ w.heap.size + 1 + 1 by omega) _⟩
      case measure => simp [intOf]; omega
    · obtain rfl : k = n := by omega
      have HE : Hid (fs.take k = fs) := List.take_of_length_le (by rw [Hlen.out]; exact Nat.le_refl _)
      have HOE := HO.out
      rw [HE.out] at HOE
      obtain ⟨A6, n6, c6, rfl⟩ : ∃ A6 n6 c6, v = .slice A6 n6 c6 := by obtain ⟨A', c', e, _⟩ := Own.own_slice HOE.row; exact ⟨_, _, _, e⟩
      have pv := HV.out.cell 0
      have py := HY.out.cell 0
      have fy := HY.out.frozen 0
      have zy := HY.out.lt
      simp at pv py
      have hki : ¬ (k : Int) < (k : Int) := by omega
      go_wp2_with fail
      refine bodyPost_ret (v := .agg #[.slice A6 n6 c6]) (by simp [results, Tryz.results88, go_sem, py]; try first | exact rfl | exact ⟨rfl, rfl⟩) rfl ?_
      exact ⟨_, rfl, NodesO.setBlk ⟨_, HOE⟩ HY.out (by decide) (by decide), HB.out.setCell (show w.heap.size ≤ w.heap.size + 1 by omega) _⟩
theorem rep_tsmall {fs : List NodeD} {l : List EvD} (ht : treeB fs = true) (hn : notesB l = true) : smallNs (repB fs l 0).2.2 := by
  by_cases h0 : (repB fs l 0).1 = 0
  · exact tree_small (rep_tree l fs 0 ht (notes_all hn).2 h0)
  · rw [rep_nil h0]
    exact ⟨by simp, fun d hd => by cases hd⟩
end Go.Proofs.YtgmaamnofhmecaaGreatDoor
