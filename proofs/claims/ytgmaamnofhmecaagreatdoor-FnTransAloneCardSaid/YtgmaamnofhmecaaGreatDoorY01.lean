/-
  Changes on the program's side: ChangeOk, DoChanges, ViewOf. (Printed by gen_ty1.py.) Commits on the reference's side: l25Tree, Replay. (Printed by gen_ty2.py.)
-/
import Derived.Test.YtgmaamnofhmecaaGreatDoorZ00
import Derived.Test.YtgmaamnofhmecaaGreatDoorZ01
import Derived.Test.YtgmaamnofhmecaaGreatDoorZ02
import Derived.Test.YtgmaamnofhmecaaGreatDoorZ03
import Derived.Test.YtgmaamnofhmecaaGreatDoorZ04
import Derived.Test.YtgmaamnofhmecaaGreatDoorZ05
import Derived.Test.YtgmaamnofhmecaaGreatDoorZ06
import Derived.Test.YtgmaamnofhmecaaGreatDoorZ07
import Derived.Test.YtgmaamnofhmecaaGreatDoorZ08
import Derived.Test.YtgmaamnofhmecaaGreatDoorZ09
import Derived.Test.YtgmaamnofhmecaaGreatDoorZ10
import Derived.Test.YtgmaamnofhmecaaGreatDoorZ11
import Derived.Test.YtgmaamnofhmecaaGreatDoorZ12
import Derived.Test.YtgmaamnofhmecaaGreatDoorZ13
import Derived.Test.YtgmaamnofhmecaaGreatDoorZ14
import Derived.Test.YtgmaamnofhmecaaGreatDoorZ15
import Derived.Test.YtgmaamnofhmecaaGreatDoorZ16
import Derived.Test.YtgmaamnofhmecaaGreatDoorZ17
import Derived.Test.YtgmaamnofhmecaaGreatDoorZ18
import Derived.Test.YtgmaamnofhmecaaGreatDoorZ19
import Derived.Test.YtgmaamnofhmecaaGreatDoorZ20
import Derived.Test.YtgmaamnofhmecaaGreatDoorZ21
import Derived.Test.YtgmaamnofhmecaaGreatDoorZ22
import Derived.Test.YtgmaamnofhmecaaGreatDoorZ23
import Derived.Test.YtgmaamnofhmecaaGreatDoorZ24
import Derived.Test.YtgmaamnofhmecaaGreatDoorZ25
import Derived.Test.YtgmaamnofhmecaaGreatDoorZ26
import Derived.Test.YtgmaamnofhmecaaGreatDoorZ27
import Derived.Test.YtgmaamnofhmecaaGreatDoorZ28
import Derived.Test.YtgmaamnofhmecaaGreatDoorZ29
import Derived.Test.YtgmaamnofhmecaaGreatDoorZ30
import Derived.Test.YtgmaamnofhmecaaGreatDoorZ31
import Derived.Test.YtgmaamnofhmecaaGreatDoorZ32
import Derived.Test.YtgmaamnofhmecaaGreatDoorZ33
import Derived.Test.YtgmaamnofhmecaaGreatDoorZ34
import Derived.Test.YtgmaamnofhmecaaGreatDoorZ35
import Derived.Test.YtgmaamnofhmecaaGreatDoorZ36
import Derived.Test.YtgmaamnofhmecaaGreatDoorZ37
import Derived.Test.YtgmaamnofhmecaaGreatDoorZ38
import Derived.Test.YtgmaamnofhmecaaGreatDoorZ39
import Derived.Test.YtgmaamnofhmecaaGreatDoorZ40
import Derived.Test.YtgmaamnofhmecaaGreatDoorZ41
import Derived.Test.YtgmaamnofhmecaaGreatDoorZ42
import Derived.Test.YtgmaamnofhmecaaGreatDoorZ43
import Derived.Test.YtgmaamnofhmecaaGreatDoorY00
import Derived.Test.YtgmaamnofhmecaaGreatDoorProg
import Derived.BigQuiet
import Derived.Deep.AppendLies
import Derived.Deep.CutBlock
import Derived.Deep.DeepCutAuto
import Derived.Deep.QuietTactic
import Derived.Deep.RegionHeld3
import Derived.Deep.RegionLaw
import Derived.Deep.RegionWith
import Derived.Ground.GgwProg
import Derived.Ground.Names2Prog
import Derived.Ground.SlgnProg
import Derived.IntWalk
import Derived.Laws.BitsAllLaws
import Derived.Laws.CopyOwn
import Derived.Laws.CopyRow
import Derived.Laws.Externs
import Derived.Laws.IdiomStrings
import Derived.Laws.OwnMore
import Derived.Lib.AppendIntMem
import Derived.Lib.AppendZerosOnto
import Derived.Lib.BufferWrite
import Derived.Lib.Hide
import Derived.Lib.IndexAny
import Derived.Lib.IndexBytes
import Derived.Lib.ItoaNum
import Derived.Lib.Join
import Derived.Lib.JoinLaws
import Derived.Lib.Overlaps
import Derived.Lib.SlTrimSet
import Derived.Lib.SliceRun
import Derived.Lib.SplitLaws
import Derived.Lib.Strings
import Derived.Lib.TrimUEq
import Derived.Maps.AppendAt
import Derived.OwnWalk
import Derived.RegionTactic
import Derived.Shelf.GgClosure.StringsIndexFunc
import Derived.Shelf.GgClosure.StringsIndexFuncTop
import Derived.Shelf.LaysM
import Derived.Shelf.Slices.Cells
import Derived.Shelf.Slices.Clone
import Derived.Shelf.Slices.CompactS
import Derived.Shelf.Slices.Empties2
import Derived.Shelf.Slices.Equal
import Derived.Shelf.Slices.In.SortNone
import Derived.Shelf.Slices.Turned
import Derived.Shelf.SlicesE.Clone
import Derived.Shelf.SlicesG.SearchI
import Derived.Shelf.Small.Bits
import Derived.Shelf.Small.Strs
import Derived.Shelf.Small.Utf8
import Derived.Shelf.Small.Wraps
import Derived.Shelf.Sort.Plain
import Derived.Shelf.Strconv.Itoa0
import Derived.Shelf.Strconv.Itoa1
import Derived.Shelf.Strconv.Itoa2
import Derived.Shelf.Strconv.Itoa3
import Derived.Shelf.Strconv.Itoa4
import Derived.Shelf.Strings.AsciiSet
import Derived.Shelf.Strings.Builder1
import Derived.Shelf.Strings.Builder2
import Derived.Shelf.Strings.Count
import Derived.Shelf.Strings.Explode
import Derived.Shelf.Strings.FuncGrows
import Derived.Shelf.Strings.OnBuilder
import Derived.Shelf.Strings.Prefix
import Derived.Shelf.Strings.Replace
import Derived.Shelf.Strings.RuneCount
import Derived.Shelf.Strings.Runes
import Derived.Shelf.Strings.Search1
import Derived.Shelf.Strings.Search2
import Derived.Shelf.Strings.Search3
import Derived.Shelf.Strings.Shaped
import Derived.Shelf.Strings.SlTrimAscii
import Derived.Shelf.Strings.Split
import Derived.Shelf.Strings.SplitShaped
import Derived.Shelf.Strings.Trim
import Derived.Shelf.Unicode.Decode
import Derived.Shelf.Unicode.DecodeAny
import Derived.Shelf.Unicode.DecodeLast
import Derived.Shelf.Unicode.DecodeSlow
import Derived.Shelf.Unicode.PredsPay
import Derived.Shelf.Utf8.RuneCount
import Derived.WalkKit
import Derived.WalkLawsBesides
import Derived.WalkSpells
set_option linter.unusedSimpArgs false
namespace Go.Proofs.YtgmaamnofhmecaaGreatDoor
open Go.RowKit
set_option linter.unusedVariables false
set_option linter.unusedSimpArgs false

set_option maxRecDepth 100000 in
set_option maxHeartbeats 2000000 in
theorem ChangeOkI_any (c0 c1 c2 c3 : Value) (d : ChgD) (w : World) (h : ChgR w w.heap.size c0 c1 c2 c3 d) (hd : d.small) :
    Calls Tryz.prog 164 #[.agg #[c0, c1, c2, c3]] w fun e w' => e = .returned (.bool (changeB d)) ∧ Below w.heap.size w w' := by
  obtain ⟨rfl, rfl, ⟨S, m, q, rfl, hs, hmq⟩, rfl⟩ := h
  have hm : m ≤ 1048576 := by rw [← hs.1]; exact hd.2.1.1
  have HKP := Lib.hid (fun W (hW : Below w.heap.size w W) => locationOk_any d.name S m q d.subs W hd.1 (hs.later hW) hm hd.2.1.2)
  have HR : Hid (changeB d = (thingB d.name d.subs && ((decide (d.kind = 1) && decide (d.val.size ≤ 64)) || (decide (d.kind = 2) && decide (d.val = ⟨#[]⟩))))) := rfl
  have hvs := hd.2.2
  clear hs hd
  generalize changeB d = R at *
  generalize thingB d.name d.subs = t1 at *
  generalize d.name = nm at *
  generalize d.val = vl at *
  generalize d.kind = kd at *
  go_enter Tryz.func164, Tryz.ntmps164
  go_wp2_with fail
  refine (HKP.out _ (Below.new _ _)).mono ?_
  rintro e w2 ⟨rfl, rfl⟩
  cases t1
  · have HE : Hid (R = false) := by unfold Hid; rw [HR.out]; rfl
    go_wp2_with fail
    go_ret
    exact ⟨ret_bool (by first | exact HE.out.symm | (rw [HE.out]; first | (simp; done) | (simp; omega) | (rw [Bool.eq_iff_iff]; simp))), Below.new _ _⟩
  · by_cases h1 : kd = 1
    · subst h1
      by_cases h64 : vl.size ≤ 64
      · have HE : Hid (R = true) := by unfold Hid; rw [HR.out, decide_eq_true h64]; rfl
        have h64i : (vl.size : Int) ≤ 64 := by omega
        go_wp2_with fail
        go_ret
        exact ⟨ret_bool (by first | exact HE.out.symm | (rw [HE.out]; first | (simp; done) | (simp; omega) | (rw [Bool.eq_iff_iff]; simp))), Below.new _ _⟩
      · have HE : Hid (R = false) := by unfold Hid; rw [HR.out, decide_eq_false h64]; rfl
        have h64i : ¬ (vl.size : Int) ≤ 64 := by omega
        go_wp2_with fail
        go_ret
        exact ⟨ret_bool (by first | exact HE.out.symm | (rw [HE.out]; first | (simp; done) | (simp; omega) | (rw [Bool.eq_iff_iff]; simp))), Below.new _ _⟩
    · have hb1 : (kd == (1 : Int)) = false := by rw [beq_eq_false_iff_ne]; exact h1
      by_cases h2 : kd = 2
      · subst h2
        by_cases hv : vl = ⟨#[]⟩
        · subst hv
          have HE : Hid (R = true) := by unfold Hid; rw [HR.out]; rfl
          go_wp2_with fail
          go_ret
          exact ⟨ret_bool (by first | exact HE.out.symm | (rw [HE.out]; first | (simp; done) | (simp; omega) | (rw [Bool.eq_iff_iff]; simp))), Below.new _ _⟩
        · have HE : Hid (R = false) := by unfold Hid; rw [HR.out, decide_eq_false hv]; rfl
          have hbe := str_beq hv
          have hbe3 := ne_bytes (l := []) hv
          go_wp2_with fail
          go_ret
          exact ⟨ret_bool (by first | exact HE.out.symm | (rw [HE.out]; first | (simp; done) | (simp; omega) | (rw [Bool.eq_iff_iff]; simp))), Below.new _ _⟩
      · have HE : Hid (R = false) := by unfold Hid; rw [HR.out, decide_eq_false h1, decide_eq_false h2]; rfl
        have hb2 : (kd == (2 : Int)) = false := by rw [beq_eq_false_iff_ne]; exact h2
        go_wp2_with fail
        go_ret
        exact ⟨ret_bool (by first | exact HE.out.symm | (rw [HE.out]; first | (simp; done) | (simp; omega) | (rw [Bool.eq_iff_iff]; simp))), Below.new _ _⟩
theorem sub_lt {w : World} {base m q : Nat} {S : Option Addr} {ss : List ByteArray} (h : Own.SubO w base (.slice S m q) ss) (a : Addr) (ha : S = some a) : a.block < w.heap.size := by
  rcases h.2 with ⟨he, _⟩ | ⟨g, cap', cur, he, _⟩
  · injection he with e1 e2 e3
    rw [e1] at ha
    cases ha
  · have h1 := h
    rw [he] at h1
    injection he with e1 e2 e3
    rw [e1] at ha
    injection ha with ha
    subst ha
    exact (World.ownsRow.lt h1 g rfl).2
def TreeW_ (r : Int × List NodeD) (w : World) (e : Ending) (w' : World) : Prop := ∃ v, e = .returned (.tuple #[.agg #[v], .int .i64 r.1]) ∧ NodesW w' w.heap.size v r.2 ∧ Below w.heap.size w w'
theorem doOne_of {fs : List NodeD} {c : ChgD} (ht : treeB fs = true) (hc : changeB c = true) : doOneB fs c = doB fs c := by
  unfold doOneB
  rw [ht, hc]
  rfl
theorem doOne_bad {fs : List NodeD} {c : ChgD} (hc : changeB c = false) : doOneB fs c = (1, []) := by
  unfold doOneB
  rw [hc, Bool.and_false, if_neg (by decide)]
set_option maxRecDepth 100000 in
set_option maxHeartbeats 8000000 in
theorem DoChangesI_any (base : Nat) (A : Option Addr) (n c : Nat) (L : Option Addr) (m q : Nat) (fs : List NodeD) (cs : List ChgD) (w : World) (htab : tabT w) (hN : Nodes w w.heap.size A n fs) (hs : smallNs fs) (hL : ChgsO w base (.slice L m q) cs) (hm : cs.length = m) (hm6 : m ≤ 1048576) (hd : ∀ d ∈ cs, d.small) :
    Calls Tryz.prog 96 #[.agg #[.slice A n c], .slice L m q] w (TreeW_ (doChangesB fs cs) w) := by
  obtain ⟨vs, hol⟩ := hL
  have HOL := Lib.hid hol
  have HLL := Lib.hid hm
  have HSD := Lib.hid hd
  have HTAB := Lib.hid htab
  have HK1 := Lib.hid (fun W (hW : Below w.heap.size w W) => TreeOk_any A n c fs W (hN.later hW) (tab_later htab hW) hs)
  have HK3 := Lib.hid (fun W (hW : Below w.heap.size w W) => copyTree_any A n c fs W (hN.later hW) hs)
  have HB : Hid (doChangesB fs cs = if treeB fs = true then (if 120 < m then (4, []) else doAllB fs cs) else (1, [])) := by unfold Hid doChangesB; rw [hm]
  have HCH : Hid (∀ W, Below w.heap.size w W → 0 < m → ∃ g, L = some ⟨g, 0, none⟩ ∧ g < W.heap.size) := fun W hW h0 => by
    have h1 := (Own.own_later hol.row hW)
    rw [hm] at h1
    obtain ⟨A', cap', e, _, _, hA⟩ := Own.own_slice h1
    obtain ⟨g, rfl, hg, _⟩ := hA h0
    injection e with e1 e2 e3
    exact ⟨g, e1, hg⟩
  clear htab hN hs hd hol hm
  generalize doChangesB fs cs = PB at *
  generalize hx : treeB fs = x at *
  have HX := Lib.hid hx
  clear hx
  obtain ⟨WB, hWB⟩ : ∃ WB, WB = (w.alloc (.cells #[.slice A n c] 26)).alloc (.cells #[.slice none 0 0] 26) := ⟨_, rfl⟩
  have HB0 : Hid (Below w.heap.size w WB) := by subst hWB; exact (Below.new _ _).later (Below.new _ _)
  have HX0 : Hid (Blk WB w.heap.size 26 #[.slice A n c]) := by subst hWB; exact heap_two0 _ _ _
  have HY0 : Hid (Blk WB (w.heap.size + 1) 26 #[.slice none 0 0]) := by subst hWB; exact heap_two1 _ _ _
  go_enter Tryz.func96, Tryz.ntmps96
  go_wp2_with fail
  rw [← hWB]
  clear hWB
  refine (HK1.out _ HB0.out).mono ?_
  rintro e w1 ⟨rfl, hb1⟩
  have HB1 := Lib.hid (HB0.out.later hb1)
  have HX1 := Lib.hid (HX0.out.later hb1 HX0.out.lt)
  have HY1 := Lib.hid (HY0.out.later hb1 HY0.out.lt)
  have px := HX1.out.cell 0
  have py := HY1.out.cell 0
  have fy := HY1.out.frozen 0
  have zy := HY1.out.lt
  simp at px py
  clear hb1 HX0 HY0 HB0 HK1
  cases x
  · have HE : Hid (PB = (1, [])) := by unfold Hid; rw [HB.out]; rfl
    go_wp2_with fail
    refine bodyPost_ret (v := .tuple #[.agg #[.slice none 0 0], .int .i64 1]) (by simp [results, Tryz.results96, go_sem, py]; try first | exact rfl | exact ⟨rfl, rfl⟩) rfl ?_
    exact ⟨_, by rw [HE.out], by rw [HE.out]; exact nodesW_nil _ _, HB1.out.setCell (show w.heap.size ≤ w.heap.size + 1 by omega) _⟩
  rw [if_pos rfl] at HB
  by_cases h120 : 120 < m
  · have HE : Hid (PB = (4, [])) := by unfold Hid; rw [HB.out, if_pos h120]
    have hmi : (120 : Int) < (m : Int) := by omega
    go_wp2_with fail
    refine bodyPost_ret (v := .tuple #[.agg #[.slice none 0 0], .int .i64 4]) (by simp [results, Tryz.results96, go_sem, py]; try first | exact rfl | exact ⟨rfl, rfl⟩) rfl ?_
    exact ⟨_, by rw [HE.out], by rw [HE.out]; exact nodesW_nil _ _, HB1.out.setCell (show w.heap.size ≤ w.heap.size + 1 by omega) _⟩
  have HP0 : Hid (PB = doAllB fs cs) := by unfold Hid; rw [HB.out, if_neg h120]
  have hmi : ¬ (120 : Int) < (m : Int) := by omega
  clear HB
  go_wp2_with fail
  refine (HK3.out _ HB1.out).mono ?_
  rintro e w3 ⟨v3, rfl, hn3, hb3⟩
  have HB3 := Lib.hid (HB1.out.later hb3)
  have HY3 := Lib.hid (HY1.out.later hb3 HY1.out.lt)
  have HN3 := Lib.hid (hn3.W.base HB1.out.size)
  obtain ⟨A3, cap3, rfl, _, _⟩ := hn3.reads
  have hz3 := HY3.out.lt
  have HBX := Lib.hid (Below.new w3 (.cells #[.slice A3 fs.length cap3] 26))
  clear hb3 hn3 px py fy zy HX1 HY1 HB1 HK3 hmi h120
  go_wp2_with fail
  go_loopw [24] (fun i wr => ∃ (k : Nat) (v : Value) (gs : List NodeD), k ≤ m ∧ i = .int .i64 k ∧ Hid (Blk wr w3.heap.size 26 #[v]) ∧ Hid (Blk wr (w.heap.size + 1) 26 #[.slice none 0 0]) ∧ Hid (NodesW wr w.heap.size v gs) ∧ Hid (treeB gs = true) ∧ Hid (Below w.heap.size w wr) ∧ Hid (PB = doAllB gs (cs.drop k))) (fun i _ => m - (intOf i).toNat)
  case atStart => exact ⟨0, _, fs, Nat.zero_le _, rfl, heap_alloc_new w3 _, HY3.out.alloc _, HN3.out.later HBX.out, HX.out, HB3.out.later HBX.out, by unfold Hid; rw [List.drop_zero]; exact HP0.out⟩
  case round =>
    obtain ⟨k, v, gs, hk, rfl, HV, HYR, HNW, HTG, HBW, HPK⟩ := hrel
    obtain ⟨A4, cap4, rfl, hc4, _⟩ := HNW.out.reads
    clear HBX HN3
    by_cases hlt : k < m
    · obtain ⟨gc, rfl, hgc⟩ := HCH.out wr HBW.out (by omega)
      have hl : k < cs.length := by rw [HLL.out]; exact hlt
      have hsd := HSD.out _ (getD_memC cs k hl)
      have hda := drop_consC cs k hl
      have hou := HOL.out.later HBW.out
      have k0 := hou.cellAt HLL.out k 0 hlt (by decide)
      have k1 := hou.cellAt HLL.out k 1 hlt (by decide)
      have k2 := hou.cellAt HLL.out k 2 hlt (by decide)
      have k3 := hou.cellAt HLL.out k 3 hlt (by decide)
      have hsub0 := HOL.out.subs k hl
      have hsub := hou.subs k hl
      obtain ⟨SA, scap, hsa, hsc, hst⟩ := Own.SubO.strs hsub
      rw [hsa] at k2 hsub0
      simp [chgK] at k0 k1 k2 k3
      rw [← List.getD_eq_getElem?_getD] at k0 k1 k2 k3
      have hoff : offRow SA (.slice A4 gs.length cap4) := fun a ha hb => by
        have h1 := sub_lt hsub0 a ha
        have h2 := (HNW.out.lt _ hb).1
        omega
      have HST : Hid (∀ W, Below wr.heap.size wr W → Strs W W.heap.size SA (cs.getD k default).subs.length (cs.getD k default).subs) := fun W hW => hst.later hW
      have hsc' : (cs.getD k default).subs.length ≤ scap := hsc
      clear hsa hou hsub hsub0 hst hsc
      generalize cs.getD k default = d at *
      have HR1 : Hid (∀ W, Below wr.heap.size wr W → ChgR W W.heap.size (.int .i64 d.kind) (.string d.name) (.slice SA d.subs.length scap) (.string d.val) d) := fun W hW => ⟨rfl, rfl, ⟨_, _, _, rfl, HST.out W hW, hsc'⟩, rfl⟩
      have HKC := Lib.hid (fun W (hW : Below wr.heap.size wr W) => ChangeOkI_any _ _ _ _ d W (HR1.out W hW) hsd)
      have HKA := Lib.hid (fun W (hW : Below wr.heap.size wr W) => change_any w3.heap.size w.heap.size (.slice A4 gs.length cap4) SA d.subs.length scap gs d W (tab_later HTAB.out (HBW.out.later hW)) (HV.out.later hW HV.out.lt) (HNW.out.later hW) (Nat.le_trans HBW.out.size hW.size) HTG.out (HST.out W hW) hsc' hoff hsd)
      have HDA : Hid (PB = if (doOneB gs d).1 = 0 then doAllB (doOneB gs d).2 (cs.drop (k + 1)) else ((doOneB gs d).1, [])) := by unfold Hid; rw [HPK.out, hda]; rfl
      have HDT : Hid ((doOneB gs d).1 = 0 → treeB (doOneB gs d).2 = true) := doOne_tree
      have HD1 : Hid (changeB d = true → doOneB gs d = doB gs d) := doOne_of HTG.out
      have HD0 : Hid (changeB d = false → doOneB gs d = (1, [])) := doOne_bad
      clear hda hsd hoff HR1 HST hsc'
      generalize changeB d = cb at *
      generalize doB gs d = R at *
      generalize doOneB gs d = R' at *
      obtain ⟨r1, r2⟩ := R
      obtain ⟨V, hV⟩ : ∃ V, V = wr.alloc (.cells #[.int .i64 d.kind, .string d.name, .slice SA d.subs.length scap, .string d.val] 88) := ⟨_, rfl⟩
      have HBV : Hid (Below wr.heap.size wr V) := by subst hV; exact Below.new _ _
      have HC5 : Hid (Blk V wr.heap.size 88 #[.int .i64 d.kind, .string d.name, .slice SA d.subs.length scap, .string d.val]) := by subst hV; exact heap_alloc_new _ _
      go_wp2_with fail
      rw [← hV]
      clear hV k0 k1 k2 k3
      refine (HKC.out _ HBV.out).mono ?_
      rintro e w4 ⟨rfl, hb4⟩
      have HB4 := Lib.hid (HBV.out.later hb4)
      have HC4 := Lib.hid (HC5.out.later hb4 HC5.out.lt)
      have HY4 := Lib.hid (HYR.out.later HB4.out HYR.out.lt)
      have k0 := HC4.out.cell 0
      have k1 := HC4.out.cell 1
      have k2 := HC4.out.cell 2
      have k3 := HC4.out.cell 3
      have py := HY4.out.cell 0
      have fy := HY4.out.frozen 0
      have zy := HY4.out.lt
      have zc := HC4.out.lt
      simp at k0 k1 k2 k3 py
      clear hb4
      cases cb
      · have HE : Hid (PB = (1, [])) := by unfold Hid; rw [HDA.out, HD0.out (by first | rfl | trivial)]; rfl
        have HBZ := Lib.hid (HBW.out.later HB4.out)
        go_wp2_with fail
        refine bodyPost_ret (v := .tuple #[.agg #[.slice none 0 0], .int .i64 1]) (by simp [results, Tryz.results96, go_sem, py]; try first | exact rfl | exact ⟨rfl, rfl⟩) rfl ?_
        exact ⟨_, by rw [HE.out], by rw [HE.out]; exact nodesW_nil _ _, HBZ.out.setCell (show w.heap.size ≤ w.heap.size + 1 by omega) _⟩
      have hRR := HD1.out (by first | rfl | trivial)
      subst hRR
      dsimp only at HDA HDT HKA
      clear HD1 HD0 py fy zy
      go_wp2_with fail
      refine (HKA.out _ HB4.out).mono ?_
      rintro e w5 ⟨rfl, hp5⟩
      have HP5 := Lib.hid (hp5.lift HB4.out)
      have HB5 : Hid (Below w.heap.size w w5) := Own.Chg.below HBW.out HP5.out.1 (fun g hg => by
        rcases hg with rfl | hg
        · have := HB3.out.size; omega
        · exact (HNW.out.lt _ hg).1) (Nat.le_refl _)
      have HY5 : Hid (Blk w5 (w.heap.size + 1) 26 #[.slice none 0 0]) := Own.Blk.chg HYR.out HP5.out.1 (fun hg => by
        rcases hg with h | hg
        · omega
        · exact HNW.out.off HYR.out (by decide) hg)
      have py := HY5.out.cell 0
      have fy := HY5.out.frozen 0
      have zy := HY5.out.lt
      simp at py
      clear hp5 k0 k1 k2 k3 zc
      by_cases hr0 : r1 = 0
      · have HE2 : Hid (PB = doAllB r2 (cs.drop (k + 1))) := by unfold Hid; rw [HDA.out, if_pos hr0]
        have HT2 := Lib.hid (HDT.out hr0)
        obtain ⟨v5, hv5, hn5⟩ := HP5.out.2 hr0
        have HV5 := Lib.hid hv5
        have HN5 := Lib.hid hn5
        clear hv5 hn5
        subst hr0
        go_wp2_with fail
        go_roundw
        case rel => exact ⟨k + 1, _, r2, by omega, by go_num, HV5.out, HY5.out, HN5.out, HT2.out, HB5.out, HE2.out⟩
        case measure => simp [intOf]; omega
      · have HE : Hid (PB = (r1, [])) := by unfold Hid; rw [HDA.out, if_neg hr0]
        have hb0 : (r1 != (0 : Int)) = true := by simpa using hr0
        go_wp2_with fail
        refine bodyPost_ret (v := .tuple #[.agg #[.slice none 0 0], .int .i64 r1]) (by simp [results, Tryz.results96, go_sem, py]; try first | exact rfl | exact ⟨rfl, rfl⟩) rfl ?_
        exact ⟨_, by rw [HE.out], by rw [HE.out]; exact nodesW_nil _ _, HB5.out.setCell (show w.heap.size ≤ w.heap.size + 1 by omega) _⟩
    · obtain rfl : k = m := by omega
      have HE2 : Hid (PB = (0, gs)) := by unfold Hid; rw [HPK.out, List.drop_of_length_le (by rw [HLL.out]; omega)]; rfl
      have pv := HV.out.cell 0
      have py := HYR.out.cell 0
      have fy := HYR.out.frozen 0
      have zy := HYR.out.lt
      simp at pv py
      go_wp2_with fail
      refine bodyPost_ret (v := .tuple #[.agg #[.slice A4 _ cap4], .int .i64 0]) (by simp [results, Tryz.results96, go_sem, py]; try first | exact rfl | exact ⟨rfl, rfl⟩) rfl ?_
      exact ⟨_, by first | (rw [HE2.out]; done) | (rw [HE2.out]; rfl), by rw [HE2.out]; exact HNW.out.setBlk HYR.out (by decide) (by decide), HBW.out.setCell (show w.heap.size ≤ w.heap.size + 1 by omega) _⟩

noncomputable def viewOfB (fs : List NodeD) (x : TransD) : Int × List NodeD := if (treeB fs && transB x) = true then viewB fs x.evs else (1, [])
set_option maxRecDepth 100000 in
set_option maxHeartbeats 8000000 in
theorem ViewOfI_any (A : Option Addr) (n c : Nat) (fs : List NodeD) (dp rs : Int) (L : Option Addr) (m q : Nat) (l : List EvD) (w : World) (htab : tabT w) (hN : Nodes w w.heap.size A n fs) (hs : smallNs fs) (hL : Evs w w.heap.size L m l) (hok : okEs l) :
    Calls Tryz.prog 36 #[.agg #[.slice A n c], .agg #[.int .i64 dp, .int .i64 rs, .slice L m q]] w (TreeW_ (viewOfB fs ⟨dp, rs, l⟩) w) := by
  have hsml : smallEs l := ⟨hok.1, fun e he => (hok.2 e he).1⟩
  obtain ⟨WB, hWB⟩ : ∃ WB, WB = ((w.alloc (.cells #[.slice A n c] 26)).alloc (.cells #[.int .i64 dp, .int .i64 rs, .slice L m q] 58)).alloc (.cells #[.slice none 0 0] 26) := ⟨_, rfl⟩
  have HB0 : Hid (Below w.heap.size w WB) := by subst hWB; exact below_new3 w _ _ _
  have HT0 : Hid (Blk WB w.heap.size 26 #[.slice A n c]) := by subst hWB; exact heap_new0 _ _ _ _
  have HX0 : Hid (Blk WB (w.heap.size + 1) 58 #[.int .i64 dp, .int .i64 rs, .slice L m q]) := by subst hWB; exact heap_new1 _ _ _ _
  have HYY : Hid (Blk WB (w.heap.size + 1 + 1) 26 #[.slice none 0 0]) := by subst hWB; exact heap_new2 _ _ _ _
  have HS : Hid (∀ W', Below WB.heap.size WB W' → W'.cell? ⟨w.heap.size, 0, none⟩ = some (.slice A n c) ∧ W'.cell? ⟨w.heap.size + 1, 0, none⟩ = some (.int .i64 dp) ∧ W'.cell? ⟨w.heap.size + 1, 1, none⟩ = some (.int .i64 rs) ∧ W'.cell? ⟨w.heap.size + 1, 2, none⟩ = some (.slice L m q)) := fun W' hW => ⟨(HT0.out.later hW HT0.out.lt).at 0 rfl, (HX0.out.later hW HX0.out.lt).at 0 rfl, (HX0.out.later hW HX0.out.lt).at 1 rfl, (HX0.out.later hW HX0.out.lt).at 2 rfl⟩
  have HNX : Hid (∀ W, Below WB.heap.size WB W → Nodes W W.heap.size A n fs) := fun W hW => hN.later (HB0.out.later hW)
  have HEV : Hid (∀ W, Below WB.heap.size WB W → Evs W W.heap.size L m l) := fun W hW => hL.later (HB0.out.later hW)
  have HTT : Hid (∀ W, Below WB.heap.size WB W → tabT W) := fun W hW => tab_later htab (HB0.out.later hW)
  have HK1 := Lib.hid (fun W (hW : Below WB.heap.size WB W) => TreeOk_any A n c fs W (HNX.out W hW) (HTT.out W hW) hs)
  have HK2 := Lib.hid (fun W (hW : Below WB.heap.size WB W) => TransOk_any dp rs L m q l W (HTT.out W hW) (HEV.out W hW) hok)
  have HK3 := Lib.hid (fun W (hW : Below WB.heap.size WB W) => changesOf_any L m q l W (HEV.out W hW) hsml)
  have hm6 : m ≤ 1048576 := by rw [← hL.1]; exact hok.1
  have HCL : Hid ((chgsOf l).length ≤ 1048576) := Nat.le_trans (chgsOf_len l) hok.1
  have HCS : Hid (∀ d ∈ chgsOf l, d.small) := chgsOf_small hsml.2
  have HK4 := Lib.hid (fun b (AC : Option Addr) cc W (hW : Below WB.heap.size WB W) (hC : ChgsO W b (.slice AC (chgsOf l).length cc) (chgsOf l)) => DoChangesI_any b A n c AC (chgsOf l).length cc fs (chgsOf l) W (HTT.out W hW) (HNX.out W hW) hs hC rfl HCL.out HCS.out)
  have HR : Hid (viewOfB fs ⟨dp, rs, l⟩ = if (treeB fs && transB ⟨dp, rs, l⟩) = true then doChangesB fs (chgsOf l) else (1, [])) := rfl
  have hyz := HYY.out.lt
  clear htab hN hL hok hsml hm6
  generalize viewOfB fs ⟨dp, rs, l⟩ = PB at *
  generalize treeB fs = tb at *
  generalize transB ⟨dp, rs, l⟩ = xb at *
  obtain ⟨z0, z1, z2, z3⟩ := HS.out _ (Below.refl _ _)
  go_enter Tryz.func36, Tryz.ntmps36
  go_wp2_with fail
  rw [← hWB]
  clear hWB
  refine (HK1.out _ (Below.refl _ _)).mono ?_
  rintro e w1 ⟨rfl, hb1⟩
  have HB1 := Lib.hid hb1
  clear hb1 HK1 z0 z1 z2 z3
  obtain ⟨z0, z1, z2, z3⟩ := HS.out _ HB1.out
  cases tb
  · have HE : Hid (PB = (1, [])) := by unfold Hid; rw [HR.out]; rfl
    have hb9 := HYY.out.later HB1.out HYY.out.lt
    have py := hb9.cell 0
    have fy := hb9.frozen 0
    have zy := hb9.lt
    have HBZ := Lib.hid (HB0.out.later HB1.out)
    simp at py
    go_wp2_with fail
    refine bodyPost_ret (v := .tuple #[.agg #[.slice none 0 0], .int .i64 1]) (by simp [results, Tryz.results36, go_sem, py]; try first | exact rfl | exact ⟨rfl, rfl⟩) rfl ?_
    exact ⟨_, by rw [HE.out], by rw [HE.out]; exact nodesW_nil _ _, HBZ.out.setCell (show w.heap.size ≤ w.heap.size + 1 + 1 by omega) _⟩
  rw [Bool.true_and] at HR
  go_wp2_with fail
  refine (HK2.out _ HB1.out).mono ?_
  rintro e w2 ⟨rfl, hb2⟩
  have HB2 := Lib.hid (HB1.out.later hb2)
  clear hb2 HK2 z0 z1 z2 z3
  obtain ⟨z0, z1, z2, z3⟩ := HS.out _ HB2.out
  have hb9 := HYY.out.later HB2.out HYY.out.lt
  have py := hb9.cell 0
  have fy := hb9.frozen 0
  have zy := hb9.lt
  simp at py
  cases xb
  · have HE : Hid (PB = (1, [])) := by unfold Hid; rw [HR.out]; rfl
    have HBZ := Lib.hid (HB0.out.later HB2.out)
    go_wp2_with fail
    refine bodyPost_ret (v := .tuple #[.agg #[.slice none 0 0], .int .i64 1]) (by simp [results, Tryz.results36, go_sem, py]; try first | exact rfl | exact ⟨rfl, rfl⟩) rfl ?_
    exact ⟨_, by rw [HE.out], by rw [HE.out]; exact nodesW_nil _ _, HBZ.out.setCell (show w.heap.size ≤ w.heap.size + 1 + 1 by omega) _⟩
  rw [if_pos rfl] at HR
  clear hb9
  go_wp2_with fail
  go_region_held3 (fun W' => W'.cell? ⟨w.heap.size, 0, none⟩ = some (.slice A n c) ∧ W'.cell? ⟨w.heap.size + 1, 2, none⟩ = some (.slice L m q))
    (first | exact ⟨(HS.out _ HB2.out.drew).1, (HS.out _ HB2.out.drew).2.2.2⟩ | exact ⟨(HS.out _ HB3.out).1, (HS.out _ HB3.out).2.2.2⟩ | exact ⟨(HS.out _ HB4.out).1, (HS.out _ HB4.out).2.2.2⟩ | exact ⟨cell_far2 (show w.heap.size + 1 + 1 ≠ w.heap.size by omega) (HS.out _ HB4.out).1, cell_far2 (show w.heap.size + 1 + 1 ≠ w.heap.size + 1 by omega) (HS.out _ HB4.out).2.2.2⟩)
    (first
      | (go_at_call 86
         refine (HK3.out _ HB2.out.drew).mono ?_
         rintro e w3 ⟨cv, rfl, hc3, hb3'⟩
         obtain ⟨AC, cc, rfl, hcc, _⟩ := hc3.reads
         have HB3 := Lib.hid (HB2.out.later (undrew hb3'))
         have HC3 := Lib.hid hc3
         have HW2 := Lib.hid HB2.out.size
         clear hc3 hb3')
      | (go_at_call 96
         refine (HK4.out _ AC cc _ HB3.out HC3.out).mono ?_
         rintro e w4 ⟨v4, rfl, hn4, hb4⟩
         obtain ⟨AD, cd, rfl, hcd, _⟩ := hn4.reads
         have HB4 := Lib.hid (HB3.out.later hb4)
         have HN4 := Lib.hid (hn4.base (show w.heap.size ≤ w3.heap.size from Nat.le_trans HB0.out.size HB3.out.size))
         have hb9 := HYY.out.later HB4.out HYY.out.lt
         have q0 := hb9.cell 0
         have qf := hb9.frozen 0
         have qz := hb9.lt
         have HYZ := Lib.hid hb9
         simp at q0
         clear hn4 hb4))
  all_goals
    generalize doChangesB fs (chgsOf l) = DR at *
    obtain ⟨r1, r2⟩ := DR
    dsimp only at HN4 ⊢
    go_wp2_with fail
    refine bodyPost_ret (v := .tuple #[.agg #[.slice AD r2.length cd], .int .i64 r1]) (by simp [results, Tryz.results36, go_sem, q0]; try first | exact rfl | exact ⟨rfl, rfl⟩) rfl ?_
    exact ⟨_, by rw [HR.out], by rw [HR.out]; exact HN4.out.setBlk HYZ.out (by decide) (by decide), (HB0.out.later HB4.out).setCell (show w.heap.size ≤ w.heap.size + 1 + 1 by omega) _⟩
end Go.Proofs.YtgmaamnofhmecaaGreatDoor
namespace Go.Proofs.YtgmaamnofhmecaaGreatDoor
open Go.RowKit
set_option linter.unusedVariables false
set_option linter.unusedSimpArgs false

set_option maxRecDepth 100000 in
set_option maxHeartbeats 8000000 in
theorem l25Tree_any (A : Option Addr) (n c : Nat) (fs : List NodeD) (w : World) (h : Nodes w w.heap.size A n fs) (hs : smallNs fs) :
    Calls Tryz.prog 88 #[.agg #[.slice A n c]] w (TreeOnly fs w) := by
  obtain ⟨i0, hi, hz0, hz1, hz2⟩ := info_parts infoNodeD
  have Hh := Lib.hid h
  have Hlen := Lib.hid h.1
  have Hsm := Lib.hid hs.2
  have hn : n ≤ 1048576 := by rw [← h.1]; exact hs.1
  clear h hs
  obtain ⟨WB, hWB⟩ : ∃ WB, WB = ((w.alloc (.cells #[.slice A n c] 26)).alloc (.cells #[.slice none 0 0] 26)).alloc (.cells #[.slice none 0 0] 26) := ⟨_, rfl⟩
  have HB0 : Hid (Below w.heap.size w WB) := by subst hWB; exact below_new3 w _ _ _
  have HA0 : Hid (Blk WB w.heap.size 26 #[.slice A n c]) := by subst hWB; exact heap_new0 _ _ _ _
  have HY0 : Hid (Blk WB (w.heap.size + 1) 26 #[.slice none 0 0]) := by subst hWB; exact heap_new1 _ _ _ _
  have HV0 : Hid (Blk WB (w.heap.size + 1 + 1) 26 #[.slice none 0 0]) := by subst hWB; exact heap_new2 _ _ _ _
  go_enter Tryz.func88, Tryz.ntmps88
  go_wp2_with fail
  rw [← hWB]
  clear hWB
  go_loopw [4] (fun i wr => ∃ (k : Nat) (v : Value), k ≤ n ∧ i = .int .i64 k ∧ Hid (Blk wr w.heap.size 26 #[.slice A n c]) ∧ Hid (Blk wr (w.heap.size + 1) 26 #[.slice none 0 0]) ∧ Hid (Blk wr (w.heap.size + 1 + 1) 26 #[v]) ∧ Hid (NodesO wr w.heap.size v (fs.take k)) ∧ Hid (Below w.heap.size w wr)) (fun i _ => n - (intOf i).toNat)
  case atStart => exact ⟨0, _, Nat.zero_le _, rfl, HA0.out, HY0.out, HV0.out, by unfold Hid; rw [List.take_zero]; exact nodesO_nil _ _, HB0.out⟩
  case round =>
    obtain ⟨k, v, hk, rfl, HA, HY, HV, ⟨vs, ho⟩, HB⟩ := hrel
    have HO := Lib.hid ho
    clear ho HB0 HY0 HV0 HA0
    have x0 := HA.out.cell 0
    simp at x0
    by_cases hlt : k < n
    · have hl : k < fs.length := by rw [Hlen.out]; exact hlt
      obtain ⟨bb, o, rfl, hbB, hcn⟩ := (Hh.out.later HB.out).2 (by omega)
      obtain ⟨c0, c1, c2, k0, k1, k2, hr⟩ := hcn k hlt
      clear hcn
      have hsd := Hsm.out _ (getD_memD fs k hl)
      have HT : Hid (fs.take (k + 1) = fs.take k ++ [fs.getD k default]) := by
        unfold Hid
        rw [List.take_succ_eq_append_getElem hl, List.getD_eq_getElem?_getD, List.getElem?_eq_getElem hl, Option.getD_some]
      have htl : (fs.take k).length = k := by rw [List.length_take]; omega
      have hrw := HO.out.row
      rw [htl] at hrw
      obtain ⟨g, cap, rfl, _, _, _⟩ := Own.own_slice hrw
      have HTL := Lib.hid htl
      clear htl hrw
      generalize fs.getD k default = d at *
      obtain ⟨rfl, ⟨A1, n1, p1, rfl, s1, q1⟩, rfl⟩ := hr
      have hn1 : n1 ≤ 1048576 := by rw [← s1.1]; exact hsd.2.1.1
      have HKS := Lib.hid (fun W (hW : Below wr.heap.size wr W) => l24SubsO_any A1 n1 p1 d.subs W (s1.later hW) hn1)
      generalize hdn : d.name = dn at *
      generalize hdv : d.val = dv at *
      have HDN := Lib.hid hdn
      have HDV := Lib.hid hdv
      clear s1 hsd hdn hdv
      have hki : (k : Int) < (n : Int) := by omega
      have hbBz : bb < wr.heap.size := hbB
      obtain ⟨V, hV⟩ : ∃ V, V = wr.alloc (.cells #[.string dn, .slice A1 n1 p1, .string dv] 102) := ⟨_, rfl⟩
      have HBV : Hid (Below wr.heap.size wr V) := by subst hV; exact Below.new _ _
      have HN5 : Hid (Blk V wr.heap.size 102 #[.string dn, .slice A1 n1 p1, .string dv]) := by subst hV; exact heap_alloc_new _ _
      have HVS : Hid (V.heap.size = wr.heap.size + 1) := by subst hV; unfold Hid; simp
      go_wp2_with fail
      rw [← hV]
      clear hV k0 k1 k2 x0
      refine (HKS.out _ HBV.out).mono ?_
      rintro e w4 ⟨A2, c2, rfl, hq2, hs2, hb4⟩
      have HB4 := Lib.hid (HBV.out.later hb4)
      have HN4 := Lib.hid (HN5.out.later hb4 HN5.out.lt)
      have HV4 := Lib.hid (HV.out.later HB4.out HV.out.lt)
      have HS2 := Lib.hid (Own.own_base hs2 (show wr.heap.size ≤ V.heap.size by rw [HVS.out]; omega))
      clear hb4 hs2 HN5
      have n0 := HN4.out.cell 0
      have n1' := HN4.out.cell 1
      have n2 := HN4.out.cell 2
      have nf := HN4.out.frozen 1
      have nz := HN4.out.lt
      have pv := HV4.out.cell 0
      have fv := HV4.out.frozen 0
      have zv := HV4.out.lt
      have hwz := HB.out.size
      simp at n0 n1' n2 pv
      have hvr := HV.out.lt
      obtain ⟨W5, hW5⟩ : ∃ W5, W5 = (w4.setCell ⟨wr.heap.size, 1, none⟩ (.slice A2 n1 c2)).alloc (.cells #[.string dn, .slice A2 n1 c2, .string dv] 102) := ⟨_, rfl⟩
      have HB5 : Hid (Below wr.heap.size wr W5) := by subst hW5; exact (HB4.out.setCell (p := ⟨wr.heap.size, 1, none⟩) (Nat.le_refl _) _).later (Below.new _ _)
      have HS5 : Hid (Own.SubO W5 w.heap.size (.slice A2 n1 c2) d.subs) := by subst hW5; exact Own.own_later (Own.own_base (Own.SubO.setBlk (u := .slice A2 n1 c2) (i := 1) HS2.out HN4.out (by decide)) hwz) (Below.new _ _)
      have HO5 := Lib.hid (HO.out.later HB5.out)
      have HV5 := Lib.hid (HV.out.later HB5.out HV.out.lt)
      have HOWN : Hid (W5.ownsRow w.heap.size 102 3 (.slice g k cap) k (Own.flat nodeK (fs.take k) vs)) := by
        have h := HO5.out.row
        rw [HTL.out] at h
        exact h
      have hbs : w.heap.size ≤ W5.heap.size := Nat.le_trans hwz HB5.out.size
      have HCN : Hid (∀ j u, (#[.string dn, .slice A2 n1 c2, .string dv] : Array Value).toList[j]? = some u → W5.cell? ((⟨w4.heap.size, 0, none⟩ : Addr).add j) = some u) := by
        subst hW5
        exact cells_newG (w := w4.setCell ⟨wr.heap.size, 1, none⟩ (.slice A2 n1 c2)) (cs := #[.string dn, .slice A2 n1 c2, .string dv]) (by simp)
      go_wp2_with (rw [← hW5]; clear hW5; at_builtin; refine wpList_append_own _ rfl (.tmp 24) (.tmp 26) 24 rfl w.heap.size 102 i0 _ 3 56 Tryz.underlying24 hi hz0 hz1 hz2 rfl (by decide) _ k _ rfl HOWN.out ⟨_, 0, none⟩ 1 1 ((#[.string dn, .slice A2 n1 c2, .string dv] : Array Value).toList) rfl rfl ?c1a ?c2a ?c3a ?c4a ?c5a ?_)
      try (case c1a => first | exact HCN.out | (intro j u hu; have h9 := HCN.out j u hu; rw [add_offN, Nat.zero_add] at h9; exact h9))
      try (case c2a => simp [Value.oneCell'])
      try (case c3a => unfold maxLen; omega)
      try (case c4a => omega)
      try (case c5a => exact hbs)
      intro v5 w5 hown5 hg5 _
      have HN6 := Lib.hid (Own.OwnL.snoc (d := d) HO5.out HS5.out (HO.out.fresh HS2.out (Nat.le_refl _)) (by rw [HTL.out]; first | exact hown5 | (rw [HDN.out, HDV.out]; exact hown5) | (subst dn dv; exact hown5)) (by first | exact hg5 | (rw [HTL.out]; exact hg5)) (by decide))
      have HB6 := Lib.hid ((HB.out.later HB5.out).grown hg5 hbs (fun g' e => (HOWN.out.lt g' e).1))
      have HV6 := Lib.hid (HV5.out.grown hg5 (fun e => Own.own_blk_ne HOWN.out HV5.out (by decide) e.symm))
      have HY6 := Lib.hid ((HY.out.later HB5.out HY.out.lt).grown hg5 (fun e => Own.own_blk_ne HOWN.out (HY.out.later HB5.out HY.out.lt) (by decide) e.symm))
      have HA6 := Lib.hid ((HA.out.later HB5.out HA.out.lt).grown hg5 (fun e => Own.own_blk_ne HOWN.out (HA.out.later HB5.out HA.out.lt) (by decide) e.symm))
      obtain ⟨A6, c6, rfl⟩ : ∃ A6 c6, v5 = .slice A6 (k + 1) c6 := by
        have h6 := HN6.out.row
        obtain ⟨A', c', e, _⟩ := Own.own_slice h6
        rw [List.length_append, HTL.out] at e
        exact ⟨A', c', e⟩
      have r0 := HV6.out.cell 0
      have rf := HV6.out.frozen 0
      have rz := HV6.out.lt
      simp at r0
      clear hown5 hg5 n0 n1' n2 nf nz pv fv zv
      go_wp2_with fail
      go_roundw
      case rel => exact ⟨k + 1, _, by omega, by go_num, HA6.out.far (p := ⟨w.heap.size + 1 + 1, 0, none⟩) (show w.heap.size ≠ w.heap.size + 1 + 1 by omega) _, HY6.out.far (p := ⟨w.heap.size + 1 + 1, 0, none⟩) (show w.heap.size + 1 ≠ w.heap.size + 1 + 1 by omega) _, HV6.out.set_ 0 _, by unfold Hid; rw [HT.out]; exact NodesO.setBlk ⟨_, HN6.out⟩ HV6.out (by decide) (by decide), HB6.out.setCell (p := ⟨w.heap.size + 1 + 1, 0, none⟩) (show w.heap.size ≤ w.heap.size + 1 + 1 by omega) _⟩
      case measure => simp [intOf]; omega
    · obtain rfl : k = n := by omega
      have HE : Hid (fs.take k = fs) := List.take_of_length_le (by rw [Hlen.out]; exact Nat.le_refl _)
      have HOE := HO.out
      rw [HE.out] at HOE
      obtain ⟨A6, n6, c6, rfl⟩ : ∃ A6 n6 c6, v = .slice A6 n6 c6 := by obtain ⟨A', c', e, _⟩ := Own.own_slice HOE.row; exact ⟨_, _, _, e⟩
      have pv := HV.out.cell 0
      have py := HY.out.cell 0
      have fy := HY.out.frozen 0
      have zy := HY.out.lt
      simp at pv py
      have hki : ¬ (k : Int) < (k : Int) := by omega
      go_wp2_with fail
      refine bodyPost_ret (v := .agg #[.slice A6 n6 c6]) (by simp [results, Tryz.results88, go_sem, py]; try first | exact rfl | exact ⟨rfl, rfl⟩) rfl ?_
      exact ⟨_, rfl, NodesO.setBlk ⟨_, HOE⟩ HY.out (by decide) (by decide), HB.out.setCell (show w.heap.size ≤ w.heap.size + 1 by omega) _⟩
theorem rep_tsmall {fs : List NodeD} {l : List EvD} (ht : treeB fs = true) (hn : notesB l = true) : smallNs (repB fs l 0).2.2 := by
  by_cases h0 : (repB fs l 0).1 = 0
  · exact tree_small (rep_tree l fs 0 ht (notes_all hn).2 h0)
  · rw [rep_nil h0]
    exact ⟨by simp, fun d hd => by cases hd⟩
set_option maxRecDepth 100000 in
set_option maxHeartbeats 8000000 in
theorem specReplay_any (A : Option Addr) (n c : Nat) (L : Option Addr) (m q : Nat) (fs : List NodeD) (l : List EvD) (w : World) (hN : Nodes w w.heap.size A n fs) (hnc : n ≤ c) (hs : smallNs fs) (hcl : cleanT fs) (hL : Evs w w.heap.size L m l) (hok : okEs l) (hce : cleanEs l) :
    Calls Tryz.prog 35 #[.agg #[.slice A n c], .slice L m q] w (ReplPost (replB fs l) w) := by
  obtain ⟨WB, hWB⟩ : ∃ WB, WB = (w.alloc (.cells #[.slice A n c] 26)).alloc (.cells #[.slice none 0 0] 26) := ⟨_, rfl⟩
  have HB0 : Hid (Below w.heap.size w WB) := by subst hWB; exact (Below.new _ _).later (Below.new _ _)
  have HX0 : Hid (Blk WB w.heap.size 26 #[.slice A n c]) := by subst hWB; exact heap_two0 _ _ _
  have HY0 : Hid (Blk WB (w.heap.size + 1) 26 #[.slice none 0 0]) := by subst hWB; exact heap_two1 _ _ _
  have HNX : Hid (∀ W, Below WB.heap.size WB W → Nodes W W.heap.size A n fs) := fun W hW => hN.later (HB0.out.later hW)
  have HEV : Hid (∀ W, Below WB.heap.size WB W → Evs W W.heap.size L m l) := fun W hW => hL.later (HB0.out.later hW)
  have HK1 := Lib.hid (fun W (hW : Below WB.heap.size WB W) => specTreeOk_any A n c fs W (HNX.out W hW) hs)
  have HK2 := Lib.hid (fun W (hW : Below WB.heap.size WB W) => l25Notes_any L m q l W (HEV.out W hW) hok)
  have HK3 := Lib.hid (fun (ht : treeB fs = true) (hn : notesB l = true) W (hW : Below WB.heap.size WB W) => l25Replay_any A n c L m q fs l W (HNX.out W hW) hnc ht hcl (HEV.out W hW) (by rw [← hL.1]; exact (notes_all hn).1) (fun e he => ⟨(notes_all hn).2 e he, (hok.2 e he).1, hce e he⟩))
  have HSM := Lib.hid (fun (ht : treeB fs = true) (hn : notesB l = true) => rep_tsmall (fs := fs) (l := l) ht hn)
  have HR : Hid (replB fs l = if (treeB fs && notesB l) = true then repB fs l 0 else (1, 0, [])) := rfl
  have hnc' := hnc
  clear hN hs hcl hL hok hce
  generalize replB fs l = PB at *
  generalize repB fs l 0 = RB at *
  generalize treeB fs = x at *
  generalize notesB l = y at *
  obtain ⟨code, at_, gs⟩ := RB
  have x0 := HX0.out.cell 0
  simp at x0
  go_enter Tryz.func35, Tryz.ntmps35
  go_wp2_with fail
  rw [← hWB]
  clear hWB
  refine (HK1.out _ (Below.refl _ _)).mono ?_
  rintro e w1 ⟨rfl, hb1⟩
  have HB1 := Lib.hid hb1
  have HX1 := Lib.hid (HX0.out.later hb1 HX0.out.lt)
  have HY1 := Lib.hid (HY0.out.later hb1 HY0.out.lt)
  have HBW1 := Lib.hid (HB0.out.later hb1)
  clear hb1 HK1 x0
  have px := HX1.out.cell 0
  have py := HY1.out.cell 0
  have fy := HY1.out.frozen 0
  have zy := HY1.out.lt
  simp at px py
  cases x
  · have HE : Hid (PB = (1, 0, [])) := by unfold Hid; rw [HR.out]; rfl
    go_wp2_with fail
    refine bodyPost_ret (v := .tuple #[.agg #[.slice none 0 0], .int .i64 0, .int .i64 1]) (by simp [results, Tryz.results35, go_sem, py]; try first | exact rfl | exact ⟨rfl, rfl⟩) rfl ?_
    exact ⟨_, by rw [HE.out]; rfl, by rw [HE.out]; exact nodesW_nil _ _, HBW1.out.setCell (show w.heap.size ≤ w.heap.size + 1 by omega) _⟩
  rw [Bool.true_and] at HR
  go_wp2_with fail
  refine (HK2.out _ HB1.out).mono ?_
  rintro e w2 ⟨rfl, hb2⟩
  have HB2 := Lib.hid (HB1.out.later hb2)
  have HX2 := Lib.hid (HX1.out.later hb2 HX1.out.lt)
  have HY2 := Lib.hid (HY1.out.later hb2 HY1.out.lt)
  have HBW2 := Lib.hid (HB0.out.later HB2.out)
  clear hb2 HK2 px py fy zy
  have px := HX2.out.cell 0
  have py := HY2.out.cell 0
  have fy := HY2.out.frozen 0
  have zy := HY2.out.lt
  simp at px py
  cases y
  · have HE : Hid (PB = (1, 0, [])) := by unfold Hid; rw [HR.out]; rfl
    go_wp2_with fail
    refine bodyPost_ret (v := .tuple #[.agg #[.slice none 0 0], .int .i64 0, .int .i64 1]) (by simp [results, Tryz.results35, go_sem, py]; try first | exact rfl | exact ⟨rfl, rfl⟩) rfl ?_
    exact ⟨_, by rw [HE.out]; rfl, by rw [HE.out]; exact nodesW_nil _ _, HBW2.out.setCell (show w.heap.size ≤ w.heap.size + 1 by omega) _⟩
  rw [if_pos rfl] at HR
  have HK3' := Lib.hid (HK3.out (by first | rfl | trivial) (by first | rfl | trivial) w2 HB2.out)
  have hgs := HSM.out (by first | rfl | trivial) (by first | rfl | trivial)
  try dsimp only at hgs
  clear HK3 HSM
  go_wp2_with fail
  refine HK3'.out.mono ?_
  rintro e w3 ⟨v, rfl, htw, hb3⟩
  dsimp only at htw ⊢
  obtain ⟨A3, cap3, rfl, hc3, hN3⟩ := htw.reads (HNX.out _ HB2.out) hnc hb3
  have HB3 := Lib.hid (HB2.out.later hb3)
  obtain ⟨V, hV⟩ : ∃ V, V = w3.alloc (.cells #[.slice A3 gs.length cap3] 26) := ⟨_, rfl⟩
  have HBV : Hid (Below WB.heap.size WB V) := by subst hV; exact HB3.out.later (Below.new _ _)
  have HQ : Hid (Blk V w3.heap.size 26 #[.slice A3 gs.length cap3]) := by subst hV; exact heap_alloc_new _ _
  have HKT := Lib.hid (l25Tree_any A3 gs.length cap3 gs V (by subst hV; exact hN3.later (Below.new _ _)) hgs)
  have hb3s := hb3.size
  clear htw hb3 hN3 HK3' px py fy zy
  have q0 := HQ.out.cell 0
  simp at q0
  go_wp2_with fail
  rw [← hV]
  refine HKT.out.mono ?_
  rintro e w4 ⟨v4, rfl, hn4, hb4⟩
  obtain ⟨A4, cap4, rfl, _, _⟩ := hn4.reads
  have HB4 := Lib.hid (HB0.out.later (HBV.out.later hb4))
  have HN4 := Lib.hid (hn4.W.base (show w.heap.size ≤ V.heap.size from Nat.le_trans HB0.out.size HBV.out.size))
  have HY4 := Lib.hid (HY0.out.later (HBV.out.later hb4) HY0.out.lt)
  clear hn4 hb4 HKT q0 hV
  have py := HY4.out.cell 0
  have fy := HY4.out.frozen 0
  have zy := HY4.out.lt
  simp at py
  go_wp2_with fail
  refine bodyPost_ret (v := .tuple #[.agg #[.slice A4 gs.length cap4], .int .i64 at_, .int .i64 code]) (by simp [results, Tryz.results35, go_sem, py]; try first | exact rfl | exact ⟨rfl, rfl⟩) rfl ?_
  exact ⟨_, by rw [HR.out], by rw [HR.out]; exact HN4.out.setBlk HY4.out (by decide) (by decide), HB4.out.setCell (show w.heap.size ≤ w.heap.size + 1 by omega) _⟩
end Go.Proofs.YtgmaamnofhmecaaGreatDoor
