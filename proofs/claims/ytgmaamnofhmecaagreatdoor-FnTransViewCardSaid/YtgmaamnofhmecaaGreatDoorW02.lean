/-
  What a transaction sees behind an event that is noted, plain: the law of FnTransView. Changes on the program's side: ChangeOk, DoChanges, ViewOf. (Printed by gen_ty1.py.)
-/
import Derived.Test.YtgmaamnofhmecaaGreatDoorZ00
import Derived.Test.YtgmaamnofhmecaaGreatDoorZ01
import Derived.Test.YtgmaamnofhmecaaGreatDoorZ02
import Derived.Test.YtgmaamnofhmecaaGreatDoorZ03
import Derived.Test.YtgmaamnofhmecaaGreatDoorZ04
import Derived.Test.YtgmaamnofhmecaaGreatDoorZ05
import Derived.Test.YtgmaamnofhmecaaGreatDoorZ06
import Derived.Test.YtgmaamnofhmecaaGreatDoorZ07
import Derived.Test.YtgmaamnofhmecaaGreatDoorZ08
import Derived.Test.YtgmaamnofhmecaaGreatDoorZ09
import Derived.Test.YtgmaamnofhmecaaGreatDoorZ10
import Derived.Test.YtgmaamnofhmecaaGreatDoorZ11
import Derived.Test.YtgmaamnofhmecaaGreatDoorZ12
import Derived.Test.YtgmaamnofhmecaaGreatDoorZ13
import Derived.Test.YtgmaamnofhmecaaGreatDoorZ14
import Derived.Test.YtgmaamnofhmecaaGreatDoorZ15
import Derived.Test.YtgmaamnofhmecaaGreatDoorZ16
import Derived.Test.YtgmaamnofhmecaaGreatDoorZ17
import Derived.Test.YtgmaamnofhmecaaGreatDoorZ18
import Derived.Test.YtgmaamnofhmecaaGreatDoorZ19
import Derived.Test.YtgmaamnofhmecaaGreatDoorZ20
import Derived.Test.YtgmaamnofhmecaaGreatDoorZ21
import Derived.Test.YtgmaamnofhmecaaGreatDoorZ22
import Derived.Test.YtgmaamnofhmecaaGreatDoorZ23
import Derived.Test.YtgmaamnofhmecaaGreatDoorZ24
import Derived.Test.YtgmaamnofhmecaaGreatDoorZ25
import Derived.Test.YtgmaamnofhmecaaGreatDoorZ26
import Derived.Test.YtgmaamnofhmecaaGreatDoorZ27
import Derived.Test.YtgmaamnofhmecaaGreatDoorZ28
import Derived.Test.YtgmaamnofhmecaaGreatDoorZ29
import Derived.Test.YtgmaamnofhmecaaGreatDoorZ30
import Derived.Test.YtgmaamnofhmecaaGreatDoorZ31
import Derived.Test.YtgmaamnofhmecaaGreatDoorZ32
import Derived.Test.YtgmaamnofhmecaaGreatDoorZ33
import Derived.Test.YtgmaamnofhmecaaGreatDoorZ34
import Derived.Test.YtgmaamnofhmecaaGreatDoorZ35
import Derived.Test.YtgmaamnofhmecaaGreatDoorZ36
import Derived.Test.YtgmaamnofhmecaaGreatDoorZ37
import Derived.Test.YtgmaamnofhmecaaGreatDoorZ38
import Derived.Test.YtgmaamnofhmecaaGreatDoorZ39
import Derived.Test.YtgmaamnofhmecaaGreatDoorZ40
import Derived.Test.YtgmaamnofhmecaaGreatDoorZ41
import Derived.Test.YtgmaamnofhmecaaGreatDoorZ42
import Derived.Test.YtgmaamnofhmecaaGreatDoorZ43
import Derived.Test.YtgmaamnofhmecaaGreatDoorW00
import Derived.Test.YtgmaamnofhmecaaGreatDoorProg
import Derived.BigQuiet
import Derived.Deep.AppendLies
import Derived.Deep.CutBlock
import Derived.Deep.DeepCutAuto
import Derived.Deep.QuietTactic
import Derived.Deep.RegionHeld3
import Derived.Deep.RegionLaw
import Derived.Deep.RegionWith
import Derived.Ground.GgwProg
import Derived.Ground.Names2Prog
import Derived.Ground.SlgnProg
import Derived.IntWalk
import Derived.Laws.BitsAllLaws
import Derived.Laws.CopyOwn
import Derived.Laws.CopyRow
import Derived.Laws.Externs
import Derived.Laws.IdiomStrings
import Derived.Laws.OwnMore
import Derived.Lib.AppendIntMem
import Derived.Lib.AppendZerosOnto
import Derived.Lib.BufferWrite
import Derived.Lib.Hide
import Derived.Lib.IndexAny
import Derived.Lib.IndexBytes
import Derived.Lib.ItoaNum
import Derived.Lib.Join
import Derived.Lib.JoinLaws
import Derived.Lib.Overlaps
import Derived.Lib.SlTrimSet
import Derived.Lib.SliceRun
import Derived.Lib.SplitLaws
import Derived.Lib.Strings
import Derived.Lib.TrimUEq
import Derived.Maps.AppendAt
import Derived.OwnWalk
import Derived.RegionTactic
import Derived.Shelf.GgClosure.StringsIndexFunc
import Derived.Shelf.GgClosure.StringsIndexFuncTop
import Derived.Shelf.LaysM
import Derived.Shelf.Slices.Cells
import Derived.Shelf.Slices.Clone
import Derived.Shelf.Slices.CompactS
import Derived.Shelf.Slices.Empties2
import Derived.Shelf.Slices.Equal
import Derived.Shelf.Slices.In.SortNone
import Derived.Shelf.Slices.Turned
import Derived.Shelf.SlicesE.Clone
import Derived.Shelf.SlicesG.SearchI
import Derived.Shelf.Small.Bits
import Derived.Shelf.Small.Strs
import Derived.Shelf.Small.Utf8
import Derived.Shelf.Small.Wraps
import Derived.Shelf.Sort.Plain
import Derived.Shelf.Strconv.Itoa0
import Derived.Shelf.Strconv.Itoa1
import Derived.Shelf.Strconv.Itoa2
import Derived.Shelf.Strconv.Itoa3
import Derived.Shelf.Strconv.Itoa4
import Derived.Shelf.Strings.AsciiSet
import Derived.Shelf.Strings.Builder1
import Derived.Shelf.Strings.Builder2
import Derived.Shelf.Strings.Count
import Derived.Shelf.Strings.Explode
import Derived.Shelf.Strings.FuncGrows
import Derived.Shelf.Strings.OnBuilder
import Derived.Shelf.Strings.Prefix
import Derived.Shelf.Strings.Replace
import Derived.Shelf.Strings.RuneCount
import Derived.Shelf.Strings.Runes
import Derived.Shelf.Strings.Search1
import Derived.Shelf.Strings.Search2
import Derived.Shelf.Strings.Search3
import Derived.Shelf.Strings.Shaped
import Derived.Shelf.Strings.SlTrimAscii
import Derived.Shelf.Strings.Split
import Derived.Shelf.Strings.SplitShaped
import Derived.Shelf.Strings.Trim
import Derived.Shelf.Unicode.Decode
import Derived.Shelf.Unicode.DecodeAny
import Derived.Shelf.Unicode.DecodeLast
import Derived.Shelf.Unicode.DecodeSlow
import Derived.Shelf.Unicode.PredsPay
import Derived.Shelf.Utf8.RuneCount
import Derived.WalkKit
import Derived.WalkLawsBesides
import Derived.WalkSpells
set_option linter.unusedSimpArgs false
namespace Go.Proofs.YtgmaamnofhmecaaGreatDoor
open Go.RowKit
set_option linter.unusedVariables false
set_option linter.unusedSimpArgs false

theorem doAll_snoc : ∀ (cs : List ChgD) (fs : List NodeD) (c : ChgD), (doAllB fs cs).1 = 0 → (doOneB (doAllB fs cs).2 c).1 = 0 → doAllB fs (cs ++ [c]) = (0, (doOneB (doAllB fs cs).2 c).2)
  | [], fs, c, _, h => by
    have e : doAllB fs [] = (0, fs) := rfl
    rw [e] at h ⊢
    show doAllB fs [c] = _
    unfold doAllB
    rw [if_pos h]
    rfl
  | a :: r, fs, c, h0, h => by
    by_cases h1 : (doOneB fs a).1 = 0
    · have e : doAllB fs (a :: r) = doAllB (doOneB fs a).2 r := by
        conv => lhs; unfold doAllB
        rw [if_pos h1]
      rw [e] at h0 h ⊢
      rw [← doAll_snoc r _ c h0 h]
      rw [List.cons_append]
      conv => lhs; unfold doAllB
      rw [if_pos h1]
    · have e : (doAllB fs (a :: r)).1 = (doOneB fs a).1 := by
        conv => lhs; unfold doAllB
        rw [if_neg h1]
      rw [e] at h0
      exact absurd h0 h1
/-- An event that was noted. -/
theorem noteEv_good {fs : List NodeD} {d r : Int} {l : List EvD} {e : EvD} (h : (noteEvB fs ⟨d, r, l⟩ e).1 = 0) :
    (treeB fs = true ∧ transB ⟨d, r, l⟩ = true ∧ noteB e = true) ∧ d ≠ 0 ∧ l.length < 60 ∧ (viewB fs l).1 = 0 ∧ (readsB e = true → againB (viewB fs l).2 e = e) ∧ (turnsB e = true → (doOneB (viewB fs l).2 (chgOf e)).1 = 0) ∧ noteEvB fs ⟨d, r, l⟩ e = (0, ⟨d, r, l ++ [e]⟩) := by
  unfold noteEvB at h ⊢
  dsimp only at h ⊢
  split at h
  · cases h
  next h1 =>
  rw [if_neg h1]
  split at h
  · cases h
  next h2 =>
  rw [if_neg h2]
  split at h
  · cases h
  next h3 =>
  rw [if_neg h3]
  split at h
  · next h4 => exact absurd h h4
  next h4 =>
  rw [if_neg h4]
  split at h
  · cases h
  next h5 =>
  rw [if_neg h5]
  split at h
  · next h6 => exact absurd h h6.2
  next h6 =>
  rw [if_neg h6]
  simp only [Bool.not_eq_false, Bool.and_eq_true] at h1
  refine ⟨h1, h2, by omega, by simpa using h4, fun hr => ?_, fun ht => ?_, rfl⟩
  · rw [hr, Bool.true_and] at h5
    simp only [Bool.not_eq_true', Bool.not_eq_false] at h5
    exact sameE_iff.1 h5
  · by_cases hz : (doOneB (viewB fs l).2 (chgOf e)).1 = 0
    · exact hz
    · exact absurd ⟨ht, hz⟩ h6
theorem put_at {fs : List NodeD} (h : treeB fs = true) (nm : ByteArray) (ss : List ByteArray) (v : ByteArray) : hasN (putN fs nm ss v) nm ss = true ∧ getF (putN fs nm ss v) nm ss = v := by
  have hle := atN_le fs nm ss
  have hlen : (fs.take (atN fs nm ss)).length = atN fs nm ss := by rw [List.length_take]; omega
  have hg : ∀ j, j < atN fs nm ss → (putN fs nm ss v).getD j default = (fs.take (atN fs nm ss)).getD j default := fun j hj => by
    unfold putN
    rw [List.getD_eq_getElem?_getD, List.getElem?_append_left (by omega), ← List.getD_eq_getElem?_getD]
  have hx : (putN fs nm ss v).getD (atN fs nm ss) default = ⟨nm, ss, v⟩ := by
    unfold putN
    rw [List.getD_eq_getElem?_getD, List.getElem?_append_right (by omega), hlen, Nat.sub_self]
    rfl
  have hl : atN fs nm ss < (putN fs nm ss v).length := by
    unfold putN
    rw [List.length_append, hlen, List.length_cons]
    omega
  have hat : atN (putN fs nm ss v) nm ss = atN fs nm ss := by
    refine atN_eq (by omega) (fun j hj => ?_) (.inr ?_)
    · rw [hg j hj]
      have := (put_parts h nm ss v).1 ((fs.take (atN fs nm ss)).getD j default) (by
        rw [List.getD_eq_getElem?_getD, List.getElem?_eq_getElem (by omega)]
        exact List.getElem_mem _)
      exact this
    · rw [hx]
      exact stepB_irr (a := ⟨nm, ss, v⟩) (b := ⟨nm, ss, v⟩) rfl rfl
  have hh : hasN (putN fs nm ss v) nm ss = true := by
    unfold hasN hereN
    rw [hat, hx]
    simp [hl]
  refine ⟨hh, ?_⟩
  unfold getF
  rw [if_pos hh, hat, hx]
theorem data_kill : ∀ (fs : List NodeD) (nm : ByteArray) (ss : List ByteArray) (o : Int), (killB fs nm ss).foldl (fun out d => dataN nm ss d out) o = o
  | [], _, _, _ => rfl
  | d :: r, nm, ss, o => by
    unfold killB
    by_cases hd : inN nm ss d = true
    · rw [List.filter_cons_of_neg (by rw [hd]; decide)]
      exact data_kill r nm ss o
    · rw [List.filter_cons_of_pos (by simpa using hd), List.foldl_cons]
      have : dataN nm ss d o = o := by unfold dataN; rw [if_neg hd]
      rw [this]
      exact data_kill r nm ss o
theorem turns_kind {e : EvD} : turnsB e = true ↔ e.kind = 2 ∨ e.kind = 3 := by
  unfold turnsB
  simp
theorem reads_kind {e : EvD} : readsB e = true ↔ e.kind = 1 ∨ e.kind = 4 ∨ e.kind = 5 ∨ e.kind = 6 := by
  unfold readsB
  simp
/-- What is seen behind an event that was noted. -/
theorem view_next {fs : List NodeD} {d r : Int} {l : List EvD} {e : EvD} (h : (noteEvB fs ⟨d, r, l⟩ e).1 = 0) :
    noteEvB fs ⟨d, r, l⟩ e = (0, ⟨d, r, l ++ [e]⟩) ∧ treeB fs = true ∧ noteB e = true ∧ transB ⟨d, r, l ++ [e]⟩ = true ∧ ∃ gs, viewB fs (l ++ [e]) = (0, gs) ∧ treeB gs = true ∧
      (e.kind = 2 → hasN gs e.name e.subs = true ∧ getF gs e.name e.subs = e.val) ∧ (e.kind = 3 → dataF e.name e.subs gs = 0) ∧ (e.kind ≠ 2 → e.kind ≠ 3 → readsB e = true ∧ againB gs e = e) := by
  obtain ⟨⟨ht, hx, hn⟩, hd, hl, hv, hr, hk, he⟩ := noteEv_good h
  obtain ⟨p0, p1, p2, p3, p4, p5⟩ := trans_parts hx
  dsimp only at p0 p1 p2 p3 p4 p5
  obtain ⟨q0, q1⟩ := notes_all p4
  have hnn : notesB (l ++ [e]) = true := by
    unfold notesB
    rw [Bool.and_eq_true, decide_eq_true_eq, List.all_eq_true]
    refine ⟨by rw [List.length_append]; simp; omega, fun x hx => ?_⟩
    rcases List.mem_append.1 hx with h1 | h1
    · exact q1 x h1
    · rw [List.mem_singleton] at h1; rw [h1]; exact hn
  refine ⟨he, ht, hn, trans_of (by omega) p1 p2 p3 hnn, ?_⟩
  have hcl := chgsOf_len l
  have hvw : ∀ m : List EvD, m.length ≤ 60 → viewB fs m = doAllB fs (chgsOf m) := fun m hm => by
    have := chgsOf_len m
    unfold viewB doChangesB
    rw [if_pos ht, if_neg (by omega)]
  have hle : (l ++ [e]).length ≤ 60 := by rw [List.length_append]; simp; omega
  have hvt := doChanges_tree hv
  rw [hvw l q0] at hv hr hk
  have hvt' : treeB (doAllB fs (chgsOf l)).2 = true := by rw [← hvw l q0]; exact hvt
  by_cases hkt : turnsB e = true
  · have hz := hk hkt
    have e0 : doOneB (doAllB fs (chgsOf l)).2 (chgOf e) = doB (doAllB fs (chgsOf l)).2 (chgOf e) := by
      unfold doOneB
      rw [hvt', note_chg hn hkt]
      rfl
    have e1 : viewB fs (l ++ [e]) = (0, (doOneB (doAllB fs (chgsOf l)).2 (chgOf e)).2) := by
      rw [hvw _ hle, chgsOf_snoc, if_pos hkt]
      exact doAll_snoc _ _ _ hv hz
    refine ⟨_, e1, doOne_tree hz, fun h2 => ?_, fun h3 => ?_, fun h2 h3 => ?_⟩
    · have e2 : doOneB (doAllB fs (chgsOf l)).2 (chgOf e) = putB (doAllB fs (chgsOf l)).2 e.name e.subs e.val := by
        have hc : chgOf e = ⟨1, e.name, e.subs, e.val⟩ := by unfold chgOf; rw [if_neg (by omega)]
        rw [e0, hc]
        rfl
      rw [e2] at hz ⊢
      have e3 : (putB (doAllB fs (chgsOf l)).2 e.name e.subs e.val).2 = putN (doAllB fs (chgsOf l)).2 e.name e.subs e.val := by
        unfold putB at hz ⊢
        split at hz
        · cases hz
        · next h4 => rw [if_neg h4]
      rw [e3]
      exact put_at hvt' _ _ _
    · have e2 : doOneB (doAllB fs (chgsOf l)).2 (chgOf e) = (0, killB (doAllB fs (chgsOf l)).2 e.name e.subs) := by
        have hc : chgOf e = ⟨2, e.name, e.subs, e.val⟩ := by unfold chgOf; rw [if_pos h3]
        rw [e0, hc]
        rfl
      rw [e2]
      exact data_kill _ _ _ 0
    · rcases turns_kind.1 hkt with h4 | h4
      · exact absurd h4 h2
      · exact absurd h4 h3
  · have e1 : viewB fs (l ++ [e]) = (0, (doAllB fs (chgsOf l)).2) := by
      rw [hvw _ hle, chgsOf_snoc, if_neg hkt]
      exact Prod.ext hv rfl
    have hrd : readsB e = true := by
      have h1 := (note_parts hn).2
      rw [reads_kind]
      unfold resB at h1
      by_cases a1 : e.kind = 1
      · exact .inl a1
      by_cases a4 : e.kind = 4
      · exact .inr (.inl a4)
      by_cases a5 : e.kind = 5
      · exact .inr (.inr (.inl a5))
      by_cases a6 : e.kind = 6
      · exact .inr (.inr (.inr a6))
      exfalso
      have n2 : e.kind ≠ 2 := fun h2 => hkt (turns_kind.2 (.inl h2))
      have n3 : e.kind ≠ 3 := fun h3 => hkt (turns_kind.2 (.inr h3))
      simp [a1, a4, a5, a6, n2, n3] at h1
    refine ⟨_, e1, hvt', fun h2 => absurd (turns_kind.2 (.inl h2)) hkt, fun h3 => absurd (turns_kind.2 (.inr h3)) hkt, fun _ _ => ⟨hrd, hr hrd⟩⟩
end Go.Proofs.YtgmaamnofhmecaaGreatDoor
namespace Go.Proofs.YtgmaamnofhmecaaGreatDoor
open Go.RowKit
set_option linter.unusedVariables false
set_option linter.unusedSimpArgs false

set_option maxRecDepth 100000 in
set_option maxHeartbeats 2000000 in
theorem ChangeOkI_any (c0 c1 c2 c3 : Value) (d : ChgD) (w : World) (h : ChgR w w.heap.size c0 c1 c2 c3 d) (hd : d.small) :
    Calls Tryz.prog 164 #[.agg #[c0, c1, c2, c3]] w fun e w' => e = .returned (.bool (changeB d)) ∧ Below w.heap.size w w' := by
  obtain ⟨rfl, rfl, ⟨S, m, q, rfl, hs, hmq⟩, rfl⟩ := h
  have hm : m ≤ 1048576 := by rw [← hs.1]; exact hd.2.1.1
  have HKP := Lib.hid (fun W (hW : Below w.heap.size w W) => locationOk_any d.name S m q d.subs W hd.1 (hs.later hW) hm hd.2.1.2)
  have HR : Hid (changeB d = (thingB d.name d.subs && ((decide (d.kind = 1) && decide (d.val.size ≤ 64)) || (decide (d.kind = 2) && decide (d.val = ⟨#[]⟩))))) := rfl
  have hvs := hd.2.2
  clear hs hd
  generalize changeB d = R at *
  generalize thingB d.name d.subs = t1 at *
  generalize d.name = nm at *
  generalize d.val = vl at *
  generalize d.kind = kd at *
  go_enter Tryz.func164, Tryz.ntmps164
  go_wp2_with fail
  refine (HKP.out _ (Below.new _ _)).mono ?_
  rintro e w2 ⟨rfl, rfl⟩
  cases t1
  · have HE : Hid (R = false) := by unfold Hid; rw [HR.out]; rfl
    go_wp2_with fail
    go_ret
    exact ⟨ret_bool (by first | exact HE.out.symm | (rw [HE.out]; first | (simp; done) | (simp; omega) | (rw [Bool.eq_iff_iff]; simp))), Below.new _ _⟩
  · by_cases h1 : kd = 1
    · subst h1
      by_cases h64 : vl.size ≤ 64
      · have HE : Hid (R = true) := by unfold Hid; rw [HR.out, decide_eq_true h64]; rfl
        have h64i : (vl.size : Int) ≤ 64 := by omega
        go_wp2_with fail
        go_ret
        exact ⟨ret_bool (by first | exact HE.out.symm | (rw [HE.out]; first | (simp; done) | (simp; omega) | (rw [Bool.eq_iff_iff]; simp))), Below.new _ _⟩
      · have HE : Hid (R = false) := by unfold Hid; rw [HR.out, decide_eq_false h64]; rfl
        have h64i : ¬ (vl.size : Int) ≤ 64 := by omega
        go_wp2_with fail
        go_ret
        exact ⟨ret_bool (by first | exact HE.out.symm | (rw [HE.out]; first | (simp; done) | (simp; omega) | (rw [Bool.eq_iff_iff]; simp))), Below.new _ _⟩
    · have hb1 : (kd == (1 : Int)) = false := by rw [beq_eq_false_iff_ne]; exact h1
      by_cases h2 : kd = 2
      · subst h2
        by_cases hv : vl = ⟨#[]⟩
        · subst hv
          have HE : Hid (R = true) := by unfold Hid; rw [HR.out]; rfl
          go_wp2_with fail
          go_ret
          exact ⟨ret_bool (by first | exact HE.out.symm | (rw [HE.out]; first | (simp; done) | (simp; omega) | (rw [Bool.eq_iff_iff]; simp))), Below.new _ _⟩
        · have HE : Hid (R = false) := by unfold Hid; rw [HR.out, decide_eq_false hv]; rfl
          have hbe := str_beq hv
          have hbe3 := ne_bytes (l := []) hv
          go_wp2_with fail
          go_ret
          exact ⟨ret_bool (by first | exact HE.out.symm | (rw [HE.out]; first | (simp; done) | (simp; omega) | (rw [Bool.eq_iff_iff]; simp))), Below.new _ _⟩
      · have HE : Hid (R = false) := by unfold Hid; rw [HR.out, decide_eq_false h1, decide_eq_false h2]; rfl
        have hb2 : (kd == (2 : Int)) = false := by rw [beq_eq_false_iff_ne]; exact h2
        go_wp2_with fail
        go_ret
        exact ⟨ret_bool (by first | exact HE.out.symm | (rw [HE.out]; first | (simp; done) | (simp; omega) | (rw [Bool.eq_iff_iff]; simp))), Below.new _ _⟩
theorem sub_lt {w : World} {base m q : Nat} {S : Option Addr} {ss : List ByteArray} (h : Own.SubO w base (.slice S m q) ss) (a : Addr) (ha : S = some a) : a.block < w.heap.size := by
  rcases h.2 with ⟨he, _⟩ | ⟨g, cap', cur, he, _⟩
  · injection he with e1 e2 e3
    rw [e1] at ha
    cases ha
  · have h1 := h
    rw [he] at h1
    injection he with e1 e2 e3
    rw [e1] at ha
    injection ha with ha
    subst ha
    exact (World.ownsRow.lt h1 g rfl).2
def TreeW_ (r : Int × List NodeD) (w : World) (e : Ending) (w' : World) : Prop := ∃ v, e = .returned (.tuple #[.agg #[v], .int .i64 r.1]) ∧ NodesW w' w.heap.size v r.2 ∧ Below w.heap.size w w'
theorem doOne_of {fs : List NodeD} {c : ChgD} (ht : treeB fs = true) (hc : changeB c = true) : doOneB fs c = doB fs c := by
  unfold doOneB
  rw [ht, hc]
  rfl
theorem doOne_bad {fs : List NodeD} {c : ChgD} (hc : changeB c = false) : doOneB fs c = (1, []) := by
  unfold doOneB
  rw [hc, Bool.and_false, if_neg (by decide)]
set_option maxRecDepth 100000 in
set_option maxHeartbeats 8000000 in
theorem DoChangesI_any (base : Nat) (A : Option Addr) (n c : Nat) (L : Option Addr) (m q : Nat) (fs : List NodeD) (cs : List ChgD) (w : World) (htab : tabT w) (hN : Nodes w w.heap.size A n fs) (hs : smallNs fs) (hL : ChgsO w base (.slice L m q) cs) (hm : cs.length = m) (hm6 : m ≤ 1048576) (hd : ∀ d ∈ cs, d.small) :
    Calls Tryz.prog 96 #[.agg #[.slice A n c], .slice L m q] w (TreeW_ (doChangesB fs cs) w) := by
  obtain ⟨vs, hol⟩ := hL
  have HOL := Lib.hid hol
  have HLL := Lib.hid hm
  have HSD := Lib.hid hd
  have HTAB := Lib.hid htab
  have HK1 := Lib.hid (fun W (hW : Below w.heap.size w W) => TreeOk_any A n c fs W (hN.later hW) (tab_later htab hW) hs)
  have HK3 := Lib.hid (fun W (hW : Below w.heap.size w W) => copyTree_any A n c fs W (hN.later hW) hs)
  have HB : Hid (doChangesB fs cs = if treeB fs = true then (if 120 < m then (4, []) else doAllB fs cs) else (1, [])) := by unfold Hid doChangesB; rw [hm]
  have HCH : Hid (∀ W, Below w.heap.size w W → 0 < m → ∃ g, L = some ⟨g, 0, none⟩ ∧ g < W.heap.size) := fun W hW h0 => by
    have h1 := (Own.own_later hol.row hW)
    rw [hm] at h1
    obtain ⟨A', cap', e, _, _, hA⟩ := Own.own_slice h1
    obtain ⟨g, rfl, hg, _⟩ := hA h0
    injection e with e1 e2 e3
    exact ⟨g, e1, hg⟩
  clear htab hN hs hd hol hm
  generalize doChangesB fs cs = PB at *
  generalize hx : treeB fs = x at *
  have HX := Lib.hid hx
  clear hx
  obtain ⟨WB, hWB⟩ : ∃ WB, WB = (w.alloc (.cells #[.slice A n c] 26)).alloc (.cells #[.slice none 0 0] 26) := ⟨_, rfl⟩
  have HB0 : Hid (Below w.heap.size w WB) := by subst hWB; exact (Below.new _ _).later (Below.new _ _)
  have HX0 : Hid (Blk WB w.heap.size 26 #[.slice A n c]) := by subst hWB; exact heap_two0 _ _ _
  have HY0 : Hid (Blk WB (w.heap.size + 1) 26 #[.slice none 0 0]) := by subst hWB; exact heap_two1 _ _ _
  go_enter Tryz.func96, Tryz.ntmps96
  go_wp2_with fail
  rw [← hWB]
  clear hWB
  refine (HK1.out _ HB0.out).mono ?_
  rintro e w1 ⟨rfl, hb1⟩
  have HB1 := Lib.hid (HB0.out.later hb1)
  have HX1 := Lib.hid (HX0.out.later hb1 HX0.out.lt)
  have HY1 := Lib.hid (HY0.out.later hb1 HY0.out.lt)
  have px := HX1.out.cell 0
  have py := HY1.out.cell 0
  have fy := HY1.out.frozen 0
  have zy := HY1.out.lt
  simp at px py
  clear hb1 HX0 HY0 HB0 HK1
  cases x
  · have HE : Hid (PB = (1, [])) := by unfold Hid; rw [HB.out]; rfl
    go_wp2_with fail
    refine bodyPost_ret (v := .tuple #[.agg #[.slice none 0 0], .int .i64 1]) (by simp [results, Tryz.results96, go_sem, py]; try first | exact rfl | exact ⟨rfl, rfl⟩) rfl ?_
    exact ⟨_, by rw [HE.out], by rw [HE.out]; exact nodesW_nil _ _, HB1.out.setCell (show w.heap.size ≤ w.heap.size + 1 by omega) _⟩
  rw [if_pos rfl] at HB
  by_cases h120 : 120 < m
  · have HE : Hid (PB = (4, [])) := by unfold Hid; rw [HB.out, if_pos h120]
    have hmi : (120 : Int) < (m : Int) := by omega
    go_wp2_with fail
    refine bodyPost_ret (v := .tuple #[.agg #[.slice none 0 0], .int .i64 4]) (by simp [results, Tryz.results96, go_sem, py]; try first | exact rfl | exact ⟨rfl, rfl⟩) rfl ?_
    exact ⟨_, by rw [HE.out], by rw [HE.out]; exact nodesW_nil _ _, HB1.out.setCell (show w.heap.size ≤ w.heap.size + 1 by omega) _⟩
  have HP0 : Hid (PB = doAllB fs cs) := by unfold Hid; rw [HB.out, if_neg h120]
  have hmi : ¬ (120 : Int) < (m : Int) := by omega
  clear HB
  go_wp2_with fail
  refine (HK3.out _ HB1.out).mono ?_
  rintro e w3 ⟨v3, rfl, hn3, hb3⟩
  have HB3 := Lib.hid (HB1.out.later hb3)
  have HY3 := Lib.hid (HY1.out.later hb3 HY1.out.lt)
  have HN3 := Lib.hid (hn3.W.base HB1.out.size)
  obtain ⟨A3, cap3, rfl, _, _⟩ := hn3.reads
  have hz3 := HY3.out.lt
  have HBX := Lib.hid (Below.new w3 (.cells #[.slice A3 fs.length cap3] 26))
  clear hb3 hn3 px py fy zy HX1 HY1 HB1 HK3 hmi h120
  go_wp2_with fail
  go_loopw [24] (fun i wr => ∃ (k : Nat) (v : Value) (gs : List NodeD), k ≤ m ∧ i = .int .i64 k ∧ Hid (Blk wr w3.heap.size 26 #[v]) ∧ Hid (Blk wr (w.heap.size + 1) 26 #[.slice none 0 0]) ∧ Hid (NodesW wr w.heap.size v gs) ∧ Hid (treeB gs = true) ∧ Hid (Below w.heap.size w wr) ∧ Hid (PB = doAllB gs (cs.drop k))) (fun i _ => m - (intOf i).toNat)
  case atStart => exact ⟨0, _, fs, Nat.zero_le _, rfl, heap_alloc_new w3 _, HY3.out.alloc _, HN3.out.later HBX.out, HX.out, HB3.out.later HBX.out, by unfold Hid; rw [List.drop_zero]; exact HP0.out⟩
  case round =>
    obtain ⟨k, v, gs, hk, rfl, HV, HYR, HNW, HTG, HBW, HPK⟩ := hrel
    obtain ⟨A4, cap4, rfl, hc4, _⟩ := HNW.out.reads
    clear HBX HN3
    by_cases hlt : k < m
    · obtain ⟨gc, rfl, hgc⟩ := HCH.out wr HBW.out (by omega)
      have hl : k < cs.length := by rw [HLL.out]; exact hlt
      have hsd := HSD.out _ (getD_memC cs k hl)
      have hda := drop_consC cs k hl
      have hou := HOL.out.later HBW.out
      have k0 := hou.cellAt HLL.out k 0 hlt (by decide)
      have k1 := hou.cellAt HLL.out k 1 hlt (by decide)
      have k2 := hou.cellAt HLL.out k 2 hlt (by decide)
      have k3 := hou.cellAt HLL.out k 3 hlt (by decide)
      have hsub0 := HOL.out.subs k hl
      have hsub := hou.subs k hl
      obtain ⟨SA, scap, hsa, hsc, hst⟩ := Own.SubO.strs hsub
      rw [hsa] at k2 hsub0
      simp [chgK] at k0 k1 k2 k3
      rw [← List.getD_eq_getElem?_getD] at k0 k1 k2 k3
      have hoff : offRow SA (.slice A4 gs.length cap4) := fun a ha hb => by
        have h1 := sub_lt hsub0 a ha
        have h2 := (HNW.out.lt _ hb).1
        omega
      have HST : Hid (∀ W, Below wr.heap.size wr W → Strs W W.heap.size SA (cs.getD k default).subs.length (cs.getD k default).subs) := fun W hW => hst.later hW
      have hsc' : (cs.getD k default).subs.length ≤ scap := hsc
      clear hsa hou hsub hsub0 hst hsc
      generalize cs.getD k default = d at *
      have HR1 : Hid (∀ W, Below wr.heap.size wr W → ChgR W W.heap.size (.int .i64 d.kind) (.string d.name) (.slice SA d.subs.length scap) (.string d.val) d) := fun W hW => ⟨rfl, rfl, ⟨_, _, _, rfl, HST.out W hW, hsc'⟩, rfl⟩
      have HKC := Lib.hid (fun W (hW : Below wr.heap.size wr W) => ChangeOkI_any _ _ _ _ d W (HR1.out W hW) hsd)
      have HKA := Lib.hid (fun W (hW : Below wr.heap.size wr W) => change_any w3.heap.size w.heap.size (.slice A4 gs.length cap4) SA d.subs.length scap gs d W (tab_later HTAB.out (HBW.out.later hW)) (HV.out.later hW HV.out.lt) (HNW.out.later hW) (Nat.le_trans HBW.out.size hW.size) HTG.out (HST.out W hW) hsc' hoff hsd)
      have HDA : Hid (PB = if (doOneB gs d).1 = 0 then doAllB (doOneB gs d).2 (cs.drop (k + 1)) else ((doOneB gs d).1, [])) := by unfold Hid; rw [HPK.out, hda]; rfl
      have HDT : Hid ((doOneB gs d).1 = 0 → treeB (doOneB gs d).2 = true) := doOne_tree
      have HD1 : Hid (changeB d = true → doOneB gs d = doB gs d) := doOne_of HTG.out
      have HD0 : Hid (changeB d = false → doOneB gs d = (1, [])) := doOne_bad
      clear hda hsd hoff HR1 HST hsc'
      generalize changeB d = cb at *
      generalize doB gs d = R at *
      generalize doOneB gs d = R' at *
      obtain ⟨r1, r2⟩ := R
      obtain ⟨V, hV⟩ : ∃ V, V = wr.alloc (.cells #[.int .i64 d.kind, .string d.name, .slice SA d.subs.length scap, .string d.val] 88) := ⟨_, rfl⟩
      have HBV : Hid (Below wr.heap.size wr V) := by subst hV; exact Below.new _ _
      have HC5 : Hid (Blk V wr.heap.size 88 #[.int .i64 d.kind, .string d.name, .slice SA d.subs.length scap, .string d.val]) := by subst hV; exact heap_alloc_new _ _
      go_wp2_with fail
      rw [← hV]
      clear hV k0 k1 k2 k3
      refine (HKC.out _ HBV.out).mono ?_
      rintro e w4 ⟨rfl, hb4⟩
      have HB4 := Lib.hid (HBV.out.later hb4)
      have HC4 := Lib.hid (HC5.out.later hb4 HC5.out.lt)
      have HY4 := Lib.hid (HYR.out.later HB4.out HYR.out.lt)
      have k0 := HC4.out.cell 0
      have k1 := HC4.out.cell 1
      have k2 := HC4.out.cell 2
      have k3 := HC4.out.cell 3
      have py := HY4.out.cell 0
      have fy := HY4.out.frozen 0
      have zy := HY4.out.lt
      have zc := HC4.out.lt
      simp at k0 k1 k2 k3 py
      clear hb4
      cases cb
      · have HE : Hid (PB = (1, [])) := by unfold Hid; rw [HDA.out, HD0.out (by first | rfl | trivial)]; rfl
        have HBZ := Lib.hid (HBW.out.later HB4.out)
        go_wp2_with fail
        refine bodyPost_ret (v := .tuple #[.agg #[.slice none 0 0], .int .i64 1]) (by simp [results, Tryz.results96, go_sem, py]; try first | exact rfl | exact ⟨rfl, rfl⟩) rfl ?_
        exact ⟨_, by rw [HE.out], by rw [HE.out]; exact nodesW_nil _ _, HBZ.out.setCell (show w.heap.size ≤ w.heap.size + 1 by omega) _⟩
      have hRR := HD1.out (by first | rfl | trivial)
      subst hRR
      dsimp only at HDA HDT HKA
      clear HD1 HD0 py fy zy
      go_wp2_with fail
      refine (HKA.out _ HB4.out).mono ?_
      rintro e w5 ⟨rfl, hp5⟩
      have HP5 := Lib.hid (hp5.lift HB4.out)
      have HB5 : Hid (Below w.heap.size w w5) := Own.Chg.below HBW.out HP5.out.1 (fun g hg => by
        rcases hg with rfl | hg
        · have := HB3.out.size; omega
        · exact (HNW.out.lt _ hg).1) (Nat.le_refl _)
      have HY5 : Hid (Blk w5 (w.heap.size + 1) 26 #[.slice none 0 0]) := Own.Blk.chg HYR.out HP5.out.1 (fun hg => by
        rcases hg with h | hg
        · omega
        · exact HNW.out.off HYR.out (by decide) hg)
      have py := HY5.out.cell 0
      have fy := HY5.out.frozen 0
      have zy := HY5.out.lt
      simp at py
      clear hp5 k0 k1 k2 k3 zc
      by_cases hr0 : r1 = 0
      · have HE2 : Hid (PB = doAllB r2 (cs.drop (k + 1))) := by unfold Hid; rw [HDA.out, if_pos hr0]
        have HT2 := Lib.hid (HDT.out hr0)
        obtain ⟨v5, hv5, hn5⟩ := HP5.out.2 hr0
        have HV5 := Lib.hid hv5
        have HN5 := Lib.hid hn5
        clear hv5 hn5
        subst hr0
        go_wp2_with fail
        go_roundw
        case rel => exact ⟨k + 1, _, r2, by omega, by go_num, HV5.out, HY5.out, HN5.out, HT2.out, HB5.out, HE2.out⟩
        case measure => simp [intOf]; omega
      · have HE : Hid (PB = (r1, [])) := by unfold Hid; rw [HDA.out, if_neg hr0]
        have hb0 : (r1 != (0 : Int)) = true := by simpa using hr0
        go_wp2_with fail
        refine bodyPost_ret (v := .tuple #[.agg #[.slice none 0 0], .int .i64 r1]) (by simp [results, Tryz.results96, go_sem, py]; try first | exact rfl | exact ⟨rfl, rfl⟩) rfl ?_
        exact ⟨_, by rw [HE.out], by rw [HE.out]; exact nodesW_nil _ _, HB5.out.setCell (show w.heap.size ≤ w.heap.size + 1 by omega) _⟩
    · obtain rfl : k = m := by omega
      have HE2 : Hid (PB = (0, gs)) := by unfold Hid; rw [HPK.out, List.drop_of_length_le (by rw [HLL.out]; omega)]; rfl
      have pv := HV.out.cell 0
      have py := HYR.out.cell 0
      have fy := HYR.out.frozen 0
      have zy := HYR.out.lt
      simp at pv py
      go_wp2_with fail
      refine bodyPost_ret (v := .tuple #[.agg #[.slice A4 _ cap4], .int .i64 0]) (by simp [results, Tryz.results96, go_sem, py]; try first | exact rfl | exact ⟨rfl, rfl⟩) rfl ?_
      exact ⟨_, by first | (rw [HE2.out]; done) | (rw [HE2.out]; rfl), by rw [HE2.out]; exact HNW.out.setBlk HYR.out (by decide) (by decide), HBW.out.setCell (show w.heap.size ≤ w.heap.size + 1 by omega) _⟩

noncomputable def viewOfB (fs : List NodeD) (x : TransD) : Int × List NodeD := if (treeB fs && transB x) = true then viewB fs x.evs else (1, [])
set_option maxRecDepth 100000 in
set_option maxHeartbeats 8000000 in
theorem ViewOfI_any (A : Option Addr) (n c : Nat) (fs : List NodeD) (dp rs : Int) (L : Option Addr) (m q : Nat) (l : List EvD) (w : World) (htab : tabT w) (hN : Nodes w w.heap.size A n fs) (hs : smallNs fs) (hL : Evs w w.heap.size L m l) (hok : okEs l) :
    Calls Tryz.prog 36 #[.agg #[.slice A n c], .agg #[.int .i64 dp, .int .i64 rs, .slice L m q]] w (TreeW_ (viewOfB fs ⟨dp, rs, l⟩) w) := by
  have hsml : smallEs l := ⟨hok.1, fun e he => (hok.2 e he).1⟩
  obtain ⟨WB, hWB⟩ : ∃ WB, WB = ((w.alloc (.cells #[.slice A n c] 26)).alloc (.cells #[.int .i64 dp, .int .i64 rs, .slice L m q] 58)).alloc (.cells #[.slice none 0 0] 26) := ⟨_, rfl⟩
  have HB0 : Hid (Below w.heap.size w WB) := by subst hWB; exact below_new3 w _ _ _
  have HT0 : Hid (Blk WB w.heap.size 26 #[.slice A n c]) := by subst hWB; exact heap_new0 _ _ _ _
  have HX0 : Hid (Blk WB (w.heap.size + 1) 58 #[.int .i64 dp, .int .i64 rs, .slice L m q]) := by subst hWB; exact heap_new1 _ _ _ _
  have HYY : Hid (Blk WB (w.heap.size + 1 + 1) 26 #[.slice none 0 0]) := by subst hWB; exact heap_new2 _ _ _ _
  have HS : Hid (∀ W', Below WB.heap.size WB W' → W'.cell? ⟨w.heap.size, 0, none⟩ = some (.slice A n c) ∧ W'.cell? ⟨w.heap.size + 1, 0, none⟩ = some (.int .i64 dp) ∧ W'.cell? ⟨w.heap.size + 1, 1, none⟩ = some (.int .i64 rs) ∧ W'.cell? ⟨w.heap.size + 1, 2, none⟩ = some (.slice L m q)) := fun W' hW => ⟨(HT0.out.later hW HT0.out.lt).at 0 rfl, (HX0.out.later hW HX0.out.lt).at 0 rfl, (HX0.out.later hW HX0.out.lt).at 1 rfl, (HX0.out.later hW HX0.out.lt).at 2 rfl⟩
  have HNX : Hid (∀ W, Below WB.heap.size WB W → Nodes W W.heap.size A n fs) := fun W hW => hN.later (HB0.out.later hW)
  have HEV : Hid (∀ W, Below WB.heap.size WB W → Evs W W.heap.size L m l) := fun W hW => hL.later (HB0.out.later hW)
  have HTT : Hid (∀ W, Below WB.heap.size WB W → tabT W) := fun W hW => tab_later htab (HB0.out.later hW)
  have HK1 := Lib.hid (fun W (hW : Below WB.heap.size WB W) => TreeOk_any A n c fs W (HNX.out W hW) (HTT.out W hW) hs)
  have HK2 := Lib.hid (fun W (hW : Below WB.heap.size WB W) => TransOk_any dp rs L m q l W (HTT.out W hW) (HEV.out W hW) hok)
  have HK3 := Lib.hid (fun W (hW : Below WB.heap.size WB W) => changesOf_any L m q l W (HEV.out W hW) hsml)
  have hm6 : m ≤ 1048576 := by rw [← hL.1]; exact hok.1
  have HCL : Hid ((chgsOf l).length ≤ 1048576) := Nat.le_trans (chgsOf_len l) hok.1
  have HCS : Hid (∀ d ∈ chgsOf l, d.small) := chgsOf_small hsml.2
  have HK4 := Lib.hid (fun b (AC : Option Addr) cc W (hW : Below WB.heap.size WB W) (hC : ChgsO W b (.slice AC (chgsOf l).length cc) (chgsOf l)) => DoChangesI_any b A n c AC (chgsOf l).length cc fs (chgsOf l) W (HTT.out W hW) (HNX.out W hW) hs hC rfl HCL.out HCS.out)
  have HR : Hid (viewOfB fs ⟨dp, rs, l⟩ = if (treeB fs && transB ⟨dp, rs, l⟩) = true then doChangesB fs (chgsOf l) else (1, [])) := rfl
  have hyz := HYY.out.lt
  clear htab hN hL hok hsml hm6
  generalize viewOfB fs ⟨dp, rs, l⟩ = PB at *
  generalize treeB fs = tb at *
  generalize transB ⟨dp, rs, l⟩ = xb at *
  obtain ⟨z0, z1, z2, z3⟩ := HS.out _ (Below.refl _ _)
  go_enter Tryz.func36, Tryz.ntmps36
  go_wp2_with fail
  rw [← hWB]
  clear hWB
  refine (HK1.out _ (Below.refl _ _)).mono ?_
  rintro e w1 ⟨rfl, hb1⟩
  have HB1 := Lib.hid hb1
  clear hb1 HK1 z0 z1 z2 z3
  obtain ⟨z0, z1, z2, z3⟩ := HS.out _ HB1.out
  cases tb
  · have HE : Hid (PB = (1, [])) := by unfold Hid; rw [HR.out]; rfl
    have hb9 := HYY.out.later HB1.out HYY.out.lt
    have py := hb9.cell 0
    have fy := hb9.frozen 0
    have zy := hb9.lt
    have HBZ := Lib.hid (HB0.out.later HB1.out)
    simp at py
    go_wp2_with fail
    refine bodyPost_ret (v := .tuple #[.agg #[.slice none 0 0], .int .i64 1]) (by simp [results, Tryz.results36, go_sem, py]; try first | exact rfl | exact ⟨rfl, rfl⟩) rfl ?_
    exact ⟨_, by rw [HE.out], by rw [HE.out]; exact nodesW_nil _ _, HBZ.out.setCell (show w.heap.size ≤ w.heap.size + 1 + 1 by omega) _⟩
  rw [Bool.true_and] at HR
  go_wp2_with fail
  refine (HK2.out _ HB1.out).mono ?_
  rintro e w2 ⟨rfl, hb2⟩
  have HB2 := Lib.hid (HB1.out.later hb2)
  clear hb2 HK2 z0 z1 z2 z3
  obtain ⟨z0, z1, z2, z3⟩ := HS.out _ HB2.out
  have hb9 := HYY.out.later HB2.out HYY.out.lt
  have py := hb9.cell 0
  have fy := hb9.frozen 0
  have zy := hb9.lt
  simp at py
  cases xb
  · have HE : Hid (PB = (1, [])) := by unfold Hid; rw [HR.out]; rfl
    have HBZ := Lib.hid (HB0.out.later HB2.out)
    go_wp2_with fail
    refine bodyPost_ret (v := .tuple #[.agg #[.slice none 0 0], .int .i64 1]) (by simp [results, Tryz.results36, go_sem, py]; try first | exact rfl | exact ⟨rfl, rfl⟩) rfl ?_
    exact ⟨_, by rw [HE.out], by rw [HE.out]; exact nodesW_nil _ _, HBZ.out.setCell (show w.heap.size ≤ w.heap.size + 1 + 1 by omega) _⟩
  rw [if_pos rfl] at HR
  clear hb9
  go_wp2_with fail
  go_region_held3 (fun W' => W'.cell? ⟨w.heap.size, 0, none⟩ = some (.slice A n c) ∧ W'.cell? ⟨w.heap.size + 1, 2, none⟩ = some (.slice L m q))
    (first | exact ⟨(HS.out _ HB2.out.drew).1, (HS.out _ HB2.out.drew).2.2.2⟩ | exact ⟨(HS.out _ HB3.out).1, (HS.out _ HB3.out).2.2.2⟩ | exact ⟨(HS.out _ HB4.out).1, (HS.out _ HB4.out).2.2.2⟩ | exact ⟨cell_far2 (show w.heap.size + 1 + 1 ≠ w.heap.size by omega) (HS.out _ HB4.out).1, cell_far2 (show w.heap.size + 1 + 1 ≠ w.heap.size + 1 by omega) (HS.out _ HB4.out).2.2.2⟩)
    (first
      | (go_at_call 86
         refine (HK3.out _ HB2.out.drew).mono ?_
         rintro e w3 ⟨cv, rfl, hc3, hb3'⟩
         obtain ⟨AC, cc, rfl, hcc, _⟩ := hc3.reads
         have HB3 := Lib.hid (HB2.out.later (undrew hb3'))
         have HC3 := Lib.hid hc3
         have HW2 := Lib.hid HB2.out.size
         clear hc3 hb3')
      | (go_at_call 96
         refine (HK4.out _ AC cc _ HB3.out HC3.out).mono ?_
         rintro e w4 ⟨v4, rfl, hn4, hb4⟩
         obtain ⟨AD, cd, rfl, hcd, _⟩ := hn4.reads
         have HB4 := Lib.hid (HB3.out.later hb4)
         have HN4 := Lib.hid (hn4.base (show w.heap.size ≤ w3.heap.size from Nat.le_trans HB0.out.size HB3.out.size))
         have hb9 := HYY.out.later HB4.out HYY.out.lt
         have q0 := hb9.cell 0
         have qf := hb9.frozen 0
         have qz := hb9.lt
         have HYZ := Lib.hid hb9
         simp at q0
         clear hn4 hb4))
  all_goals
    generalize doChangesB fs (chgsOf l) = DR at *
    obtain ⟨r1, r2⟩ := DR
    dsimp only at HN4 ⊢
    go_wp2_with fail
    refine bodyPost_ret (v := .tuple #[.agg #[.slice AD r2.length cd], .int .i64 r1]) (by simp [results, Tryz.results36, go_sem, q0]; try first | exact rfl | exact ⟨rfl, rfl⟩) rfl ?_
    exact ⟨_, by rw [HR.out], by rw [HR.out]; exact HN4.out.setBlk HYZ.out (by decide) (by decide), (HB0.out.later HB4.out).setCell (show w.heap.size ≤ w.heap.size + 1 + 1 by omega) _⟩
end Go.Proofs.YtgmaamnofhmecaaGreatDoor
