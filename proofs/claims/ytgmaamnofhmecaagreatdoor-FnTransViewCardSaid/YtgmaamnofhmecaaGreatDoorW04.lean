/-
  FnTransView returns true at all bytes: the walk. (Printed by gen_fntv.py.)
-/
import Derived.Test.YtgmaamnofhmecaaGreatDoorZ00
import Derived.Test.YtgmaamnofhmecaaGreatDoorZ01
import Derived.Test.YtgmaamnofhmecaaGreatDoorZ02
import Derived.Test.YtgmaamnofhmecaaGreatDoorZ03
import Derived.Test.YtgmaamnofhmecaaGreatDoorZ04
import Derived.Test.YtgmaamnofhmecaaGreatDoorZ05
import Derived.Test.YtgmaamnofhmecaaGreatDoorZ06
import Derived.Test.YtgmaamnofhmecaaGreatDoorZ07
import Derived.Test.YtgmaamnofhmecaaGreatDoorZ08
import Derived.Test.YtgmaamnofhmecaaGreatDoorZ09
import Derived.Test.YtgmaamnofhmecaaGreatDoorZ10
import Derived.Test.YtgmaamnofhmecaaGreatDoorZ11
import Derived.Test.YtgmaamnofhmecaaGreatDoorZ12
import Derived.Test.YtgmaamnofhmecaaGreatDoorZ13
import Derived.Test.YtgmaamnofhmecaaGreatDoorZ14
import Derived.Test.YtgmaamnofhmecaaGreatDoorZ15
import Derived.Test.YtgmaamnofhmecaaGreatDoorZ16
import Derived.Test.YtgmaamnofhmecaaGreatDoorZ17
import Derived.Test.YtgmaamnofhmecaaGreatDoorZ18
import Derived.Test.YtgmaamnofhmecaaGreatDoorZ19
import Derived.Test.YtgmaamnofhmecaaGreatDoorZ20
import Derived.Test.YtgmaamnofhmecaaGreatDoorZ21
import Derived.Test.YtgmaamnofhmecaaGreatDoorZ22
import Derived.Test.YtgmaamnofhmecaaGreatDoorZ23
import Derived.Test.YtgmaamnofhmecaaGreatDoorZ24
import Derived.Test.YtgmaamnofhmecaaGreatDoorZ25
import Derived.Test.YtgmaamnofhmecaaGreatDoorZ26
import Derived.Test.YtgmaamnofhmecaaGreatDoorZ27
import Derived.Test.YtgmaamnofhmecaaGreatDoorZ28
import Derived.Test.YtgmaamnofhmecaaGreatDoorZ29
import Derived.Test.YtgmaamnofhmecaaGreatDoorZ30
import Derived.Test.YtgmaamnofhmecaaGreatDoorZ31
import Derived.Test.YtgmaamnofhmecaaGreatDoorZ32
import Derived.Test.YtgmaamnofhmecaaGreatDoorZ33
import Derived.Test.YtgmaamnofhmecaaGreatDoorZ34
import Derived.Test.YtgmaamnofhmecaaGreatDoorZ35
import Derived.Test.YtgmaamnofhmecaaGreatDoorZ36
import Derived.Test.YtgmaamnofhmecaaGreatDoorZ37
import Derived.Test.YtgmaamnofhmecaaGreatDoorZ38
import Derived.Test.YtgmaamnofhmecaaGreatDoorZ39
import Derived.Test.YtgmaamnofhmecaaGreatDoorZ40
import Derived.Test.YtgmaamnofhmecaaGreatDoorZ41
import Derived.Test.YtgmaamnofhmecaaGreatDoorZ42
import Derived.Test.YtgmaamnofhmecaaGreatDoorZ43
import Derived.Test.YtgmaamnofhmecaaGreatDoorW01
import Derived.Test.YtgmaamnofhmecaaGreatDoorW03
import Derived.Test.YtgmaamnofhmecaaGreatDoorW00
import Derived.Test.YtgmaamnofhmecaaGreatDoorProg
import Derived.BigQuiet
import Derived.Deep.AppendLies
import Derived.Deep.CutBlock
import Derived.Deep.DeepCutAuto
import Derived.Deep.QuietTactic
import Derived.Deep.RegionHeld3
import Derived.Deep.RegionLaw
import Derived.Deep.RegionWith
import Derived.Ground.GgwProg
import Derived.Ground.Names2Prog
import Derived.Ground.SlgnProg
import Derived.IntWalk
import Derived.Laws.BitsAllLaws
import Derived.Laws.CopyOwn
import Derived.Laws.CopyRow
import Derived.Laws.IdiomStrings
import Derived.Laws.OwnMore
import Derived.Lib.AppendIntMem
import Derived.Lib.BufferWrite
import Derived.Lib.Hide
import Derived.Lib.IndexAny
import Derived.Lib.IndexBytes
import Derived.Lib.ItoaNum
import Derived.Lib.Join
import Derived.Lib.SlTrimSet
import Derived.Lib.SliceRun
import Derived.Lib.SplitLaws
import Derived.Lib.Strings
import Derived.Lib.TrimUEq
import Derived.Maps.AppendAt
import Derived.OwnWalk
import Derived.RegionTactic
import Derived.Shelf.GgClosure.StringsIndexFunc
import Derived.Shelf.GgClosure.StringsIndexFuncTop
import Derived.Shelf.LaysM
import Derived.Shelf.Slices.Cells
import Derived.Shelf.Slices.Clone
import Derived.Shelf.Slices.CompactS
import Derived.Shelf.Slices.Empties2
import Derived.Shelf.Slices.Equal
import Derived.Shelf.Slices.In.SortNone
import Derived.Shelf.Slices.Turned
import Derived.Shelf.SlicesE.Clone
import Derived.Shelf.SlicesG.SearchI
import Derived.Shelf.Small.Bits
import Derived.Shelf.Small.Strs
import Derived.Shelf.Small.Utf8
import Derived.Shelf.Small.Wraps
import Derived.Shelf.Sort.Plain
import Derived.Shelf.Strconv.Itoa0
import Derived.Shelf.Strconv.Itoa1
import Derived.Shelf.Strconv.Itoa2
import Derived.Shelf.Strconv.Itoa3
import Derived.Shelf.Strconv.Itoa4
import Derived.Shelf.Strings.AsciiSet
import Derived.Shelf.Strings.Builder1
import Derived.Shelf.Strings.Builder2
import Derived.Shelf.Strings.Count
import Derived.Shelf.Strings.Explode
import Derived.Shelf.Strings.FuncGrows
import Derived.Shelf.Strings.OnBuilder
import Derived.Shelf.Strings.Prefix
import Derived.Shelf.Strings.Replace
import Derived.Shelf.Strings.RuneCount
import Derived.Shelf.Strings.Runes
import Derived.Shelf.Strings.Search1
import Derived.Shelf.Strings.Search2
import Derived.Shelf.Strings.Search3
import Derived.Shelf.Strings.Shaped
import Derived.Shelf.Strings.SlTrimAscii
import Derived.Shelf.Strings.Split
import Derived.Shelf.Strings.SplitShaped
import Derived.Shelf.Strings.Trim
import Derived.Shelf.Unicode.Decode
import Derived.Shelf.Unicode.DecodeAny
import Derived.Shelf.Unicode.DecodeLast
import Derived.Shelf.Unicode.DecodeSlow
import Derived.Shelf.Unicode.PredsPay
import Derived.Shelf.Utf8.RuneCount
import Derived.WalkKit
import Derived.WalkLawsBesides
import Derived.WalkSpells
set_option linter.unusedSimpArgs false
namespace Go.Proofs.YtgmaamnofhmecaaGreatDoor
open Go.RowKit
set_option linter.unusedVariables false
set_option linter.unusedSimpArgs false

theorem noteEv_small {fs : List NodeD} {dp rs : Int} {l : List EvD} {d : EvD} (hl : l.length ≤ 61) (hs : smallEs l) (hd : d.small) : smallEs (noteEvB fs ⟨dp, rs, l⟩ d).2.evs := by
  have hz : smallEs zeroT.evs := ⟨by simp [zeroT], fun x hx => by cases hx⟩
  unfold noteEvB
  split
  · exact hz
  split
  · exact hz
  split
  · exact hz
  split
  · exact hz
  split
  · exact hz
  split
  · exact hz
  · refine ⟨by rw [List.length_append]; simp; omega, fun x hx => ?_⟩
    rcases List.mem_append.1 hx with h1 | h1
    · exact hs.2 x h1
    · rw [List.mem_singleton.1 h1]; exact hd
theorem evs_one {W0 : World} {c0 c1 c2 c3 c4 : Value} {d : EvD} {g : Nat} (hg : W0.heap.size = g) (h : EvR W0 W0.heap.size c0 c1 c2 c3 c4 d) : Evs (W0.alloc (.cells #[c0, c1, c2, c3, c4] 55)) (W0.alloc (.cells #[c0, c1, c2, c3, c4] 55)).heap.size (some ⟨g, 0, none⟩) 1 [d] := by
  subst hg
  refine ⟨rfl, fun _ => ⟨W0.heap.size, 0, rfl, by simp, fun j hj => ?_⟩⟩
  obtain rfl : j = 0 := by omega
  have hB : Blk (W0.alloc (.cells #[c0, c1, c2, c3, c4] 55)) W0.heap.size 55 #[c0, c1, c2, c3, c4] := heap_alloc_new _ _
  exact ⟨c0, c1, c2, c3, c4, hB.at 0 rfl, hB.at 1 rfl, hB.at 2 rfl, hB.at 3 rfl, hB.at 4 rfl, h.later (Below.new _ _)⟩
theorem ok_snoc {l : List EvD} {d : EvD} (hl : l.length ≤ 61) (h : okEs l) (hd : okE d) : okEs (l ++ [d]) := ⟨by rw [List.length_append]; simp; omega, fun x hx => by
  rcases List.mem_append.1 hx with h1 | h1
  · exact h.2 x h1
  · rw [List.mem_singleton.1 h1]; exact hd⟩
theorem view_read {fs : List NodeD} {l : List EvD} {d : EvD} (h : readsB d = true) : viewB fs (l ++ [d]) = viewB fs l := by
  have ht : ¬ turnsB d = true := fun h1 => by
    rcases turns_kind.1 h1 with h2 | h2
    all_goals
      rcases reads_kind.1 h with h3 | h3 | h3 | h3
      all_goals omega
  unfold viewB
  rw [chgsOf_snoc, if_neg ht]
theorem viewOf_isV {fs : List NodeD} {x : TransD} (ht : treeB fs = true) (hx : transB x = true) : viewOfB fs x = viewB fs x.evs := by
  unfold viewOfB
  rw [ht, hx]
  rfl
theorem note_thing {d : EvD} (h : noteB d = true) (hk : d.kind ≠ 5) : thingB d.name d.subs = true := by
  have h1 := (note_parts h).1
  unfold whereB at h1
  rw [if_neg hk] at h1
  exact h1
/-- What FnTransView looks at. -/
structure TvF (fs : List NodeD) (dp rs : Int) (l : List EvD) (d : EvD) (gs : List NodeD) : Prop where
  eq : noteEvB fs ⟨dp, rs, l⟩ d = (0, ⟨dp, rs, l ++ [d]⟩)
  view : viewOfB fs ⟨dp, rs, l ++ [d]⟩ = (0, gs)
  tree : treeB gs = true
  note : noteB d = true
  set_ : d.kind = 2 → hasN gs d.name d.subs = true ∧ getF gs d.name d.subs = d.val ∧ thingB d.name d.subs = true
  kill : d.kind = 3 → dataB gs d.name d.subs = 0
  read : d.kind ≠ 2 → d.kind ≠ 3 → readsB d = true ∧ againB gs d = d ∧ cleanT gs
theorem tv_facts {fs : List NodeD} {dp rs : Int} {l : List EvD} {d : EvD} (hcl : cleanT fs) (hce : cleanEs l) (h : (noteEvB fs ⟨dp, rs, l⟩ d).1 = 0) : ∃ gs, TvF fs dp rs l d gs := by
  obtain ⟨h1, h2, h3, h4, gs, h5, h6, h7, h8, h9⟩ := view_next h
  refine ⟨gs, h1, (viewOf_isV h2 h4).trans h5, h6, h3, fun hk => ⟨(h7 hk).1, (h7 hk).2, note_thing h3 (by omega)⟩, fun hk => ?_, fun hk hk' => ?_⟩
  · unfold dataB
    rw [h6, note_thing h3 (by omega)]
    exact h8 hk
  · obtain ⟨h10, h11⟩ := h9 hk hk'
    have h12 := view_read (fs := fs) (l := l) h10
    rw [h5] at h12
    refine ⟨h10, h11, ?_⟩
    have := view_clean hcl hce
    rw [← h12] at this
    exact this

set_option maxRecDepth 100000 in
set_option maxHeartbeats 40000000 in
theorem fnTv_walk (A : Option Addr) (n c : Nat) (w : World) (htab : tabT w) (h : BytesR w w.heap.size A n) (hn : n ≤ 9223372036854775807) :
    Calls Tryz.prog 9 #[.slice A n c] w fun e w' => e = .returned (.bool true) ∧ Below w.heap.size w w' := by
  have HK1 := Lib.hid (c2Big2_any A n c none 0 0 w hn (by omega))
  by_cases hbig : (decide (1048576 < n) || decide (1048576 < 0)) = true
  · rw [hbig] at HK1
    clear h htab
    go_enter Tryz.func9, Tryz.ntmps9
    go_wp2_with fail
    refine HK1.out.mono ?_
    rintro e w1 ⟨rfl, rfl⟩
    go_wp2_with fail
    go_ret
    exact ⟨rfl, Below.refl _ _⟩
  rw [Bool.not_eq_true] at hbig
  rw [hbig] at HK1
  have hn6 : n ≤ 1048576 := by simp at hbig; omega
  have HK2 := Lib.hid (DrawNoteEvent_any A n c w h hn6)
  have HTB := Lib.hid htab
  clear h htab hbig
  go_enter Tryz.func9, Tryz.ntmps9
  go_wp2_with fail
  refine HK1.out.mono ?_
  rintro e w1 ⟨rfl, rfl⟩
  go_wp2_with fail
  refine HK2.out.mono ?_
  rintro e w1 ⟨tv, fs, ev, x, sv, d, rfl, hT, htr, hfi, hev, hy, hsu, hod, hb1⟩
  obtain ⟨dp, rs, l⟩ := x
  dsimp only at hev hy ⊢
  obtain ⟨A1, cap1, rfl, hcap1, hN⟩ := hT.reads
  obtain ⟨EA, ec, rfl, hec, hE⟩ := hev.reads
  obtain ⟨SA, sc, rfl, hsc, hSS⟩ := Own.SubO.strs hsu
  obtain ⟨hy1, hy2, hy3, hy4, hy5, hy6⟩ := hy
  dsimp only at hy1 hy2 hy3 hy4 hy5 hy6
  have hok : okEs l := ⟨by omega, fun d hd => (hy6 d hd).1.1⟩
  have hce : cleanEs l := fun d hd => (hy6 d hd).1.2
  have hts := tree_small htr
  have hcl := fine_clean hfi
  have hsl : smallEs l := ⟨hok.1, fun e he => (hok.2 e he).1⟩
  have hsm : d.subs.length ≤ 1048576 := hod.1.2.1.1
  have HERb : Hid (EvR w1 w1.heap.size (.int .i64 d.kind) (.string d.name) (.slice SA d.subs.length sc) (.string d.val) (.int .i64 d.n) d) := ⟨rfl, rfl, ⟨SA, _, sc, rfl, hSS, hsc⟩, rfl, rfl⟩
  generalize hsn : d.subs.length = sn at *
  clear hsn
  obtain ⟨WX, hWX⟩ : ∃ WX, WX = ((w1.alloc (.cells #[.slice A1 fs.length cap1] 26)).alloc (.cells #[.int .i64 dp, .int .i64 rs, .slice EA l.length ec] 58)).alloc (.cells #[.int .i64 d.kind, .string d.name, .slice SA sn sc, .string d.val, .int .i64 d.n] 55) := ⟨_, rfl⟩
  have HBX : Hid (Below w1.heap.size w1 WX) := by subst hWX; exact below_new3 w1 _ _ _
  have HX0 : Hid (Blk WX (w1.heap.size) 26 #[.slice A1 fs.length cap1]) := by subst hWX; exact heap_new0 _ _ _ _
  have HX1 : Hid (Blk WX (w1.heap.size + 1) 58 #[.int .i64 dp, .int .i64 rs, .slice EA l.length ec]) := by subst hWX; exact heap_new1 _ _ _ _
  have HX2 : Hid (Blk WX (w1.heap.size + 1 + 1) 55 #[.int .i64 d.kind, .string d.name, .slice SA sn sc, .string d.val, .int .i64 d.n]) := by subst hWX; exact heap_new2 _ _ _ _
  have HS1 : Hid (∀ W', Below WX.heap.size WX W' → (W'.cell? ⟨w1.heap.size, 0, none⟩ = some (.slice A1 fs.length cap1) ∧ W'.cell? ⟨w1.heap.size + 1, 0, none⟩ = some (.int .i64 dp) ∧ W'.cell? ⟨w1.heap.size + 1, 1, none⟩ = some (.int .i64 rs) ∧ W'.cell? ⟨w1.heap.size + 1, 2, none⟩ = some (.slice EA l.length ec) ∧ W'.cell? ⟨w1.heap.size + 1 + 1, 0, none⟩ = some (.int .i64 d.kind) ∧ W'.cell? ⟨w1.heap.size + 1 + 1, 1, none⟩ = some (.string d.name) ∧ W'.cell? ⟨w1.heap.size + 1 + 1, 2, none⟩ = some (.slice SA sn sc) ∧ W'.cell? ⟨w1.heap.size + 1 + 1, 3, none⟩ = some (.string d.val) ∧ W'.cell? ⟨w1.heap.size + 1 + 1, 4, none⟩ = some (.int .i64 d.n))) := fun W' hW => ⟨(HX0.out.later hW HX0.out.lt).at 0 rfl, (HX1.out.later hW HX1.out.lt).at 0 rfl, (HX1.out.later hW HX1.out.lt).at 1 rfl, (HX1.out.later hW HX1.out.lt).at 2 rfl, (HX2.out.later hW HX2.out.lt).at 0 rfl, (HX2.out.later hW HX2.out.lt).at 1 rfl, (HX2.out.later hW HX2.out.lt).at 2 rfl, (HX2.out.later hW HX2.out.lt).at 3 rfl, (HX2.out.later hW HX2.out.lt).at 4 rfl⟩
  have HNX : Hid (∀ W, Below WX.heap.size WX W → Nodes W W.heap.size A1 fs.length fs) := fun W hW => hN.later (HBX.out.later hW)
  have HLX : Hid (∀ W, Below WX.heap.size WX W → Evs W W.heap.size EA l.length l) := fun W hW => hE.later (HBX.out.later hW)
  have HER : Hid (∀ W, Below WX.heap.size WX W → EvR W W.heap.size (.int .i64 d.kind) (.string d.name) (.slice SA sn sc) (.string d.val) (.int .i64 d.n) d) := fun W hW => HERb.out.later (HBX.out.later hW)
  have HST : Hid (∀ W, Below WX.heap.size WX W → Strs W W.heap.size SA sn d.subs) := fun W hW => hSS.later (HBX.out.later hW)
  have HBW : Hid (Below w.heap.size w WX) := hb1.later HBX.out
  have HTT : Hid (∀ W, Below WX.heap.size WX W → tabT W) := fun W hW => tab_later HTB.out (HBW.out.later hW)
  have HKI := Lib.hid (fun W (hW : Below WX.heap.size WX W) => NoteEvent_any A1 fs.length cap1 fs dp rs EA l.length ec l _ _ _ _ _ d W (HTT.out W hW) (HNX.out W hW) hts hcl (HLX.out W hW) hok hce (HER.out W hW) hod)
  have HKS := Lib.hid (fun W (hW : Below WX.heap.size WX W) => specNoteEvent_any A1 fs.length cap1 fs dp rs EA l.length ec l _ _ _ _ _ d W (HNX.out W hW) hcap1 hts hcl (HLX.out W hW) hok hce (HER.out W hW) hod)
  have HKV := Lib.hid (fun d' r' (A2 : Option Addr) c2 (l' : List EvD) (hl : l' = l ++ [d]) W (hW : Below WX.heap.size WX W) (hE2 : Evs W W.heap.size A2 l'.length l') => ViewOfI_any A1 fs.length cap1 fs d' r' A2 l'.length c2 l' W (HTT.out W hW) (HNX.out W hW) hts hE2 (by rw [hl]; exact ok_snoc hy5 hok hod))
  have hss := noteEv_small (fs := fs) (dp := dp) (rs := rs) (d := d) hy5 hsl hod.1
  have HTV := Lib.hid (fun h0 => tv_facts (fs := fs) (dp := dp) (rs := rs) (l := l) (d := d) hcl hce h0)
  have HOD := Lib.hid hod
  clear hN hE hev hT hb1 HTB hok hce htr hfi hcl hy1 hy2 hy3 hy4 hy5 hy6 hsl hsu hod hSS
  generalize hSB : noteEvB fs ⟨dp, rs, l⟩ d = SB at *
  have HSB := Lib.hid hSB
  clear hSB
  obtain ⟨sc_, d2, r2, l2⟩ := SB
  dsimp only at hss HTV
  obtain ⟨z0, z1, z2, z3, z4, z5, z6, z7, z8⟩ := HS1.out _ (Below.refl _ _)
  go_wp2_with fail
  rw [← hWX]
  clear hWX
  refine (HKI.out _ (Below.refl _ _)).mono ?_
  rintro e w2 ⟨v2, rfl, hv2, hb2⟩
  dsimp only at hv2 ⊢
  obtain ⟨A2, c2, rfl, hc2, hE2⟩ := hv2.reads
  have HB2 := Lib.hid hb2
  obtain ⟨WY, hWY⟩ : ∃ WY, WY = w2.alloc (.cells #[.int .i64 d2, .int .i64 r2, .slice A2 l2.length c2] 58) := ⟨_, rfl⟩
  have HBY : Hid (Below WX.heap.size WX WY) := by subst hWY; exact HB2.out.later (Below.new _ _)
  have HY0 : Hid (Blk WY w2.heap.size 58 #[.int .i64 d2, .int .i64 r2, .slice A2 l2.length c2]) := by subst hWY; exact heap_alloc_new _ _
  have HEY : Hid (∀ W, Below WY.heap.size WY W → Evs W W.heap.size A2 l2.length l2) := fun W hW => by
    have h1 : Evs WY WY.heap.size A2 l2.length l2 := by subst hWY; exact hE2.later (Below.new _ _)
    exact h1.later hW
  clear hb2 hv2 hE2 z0 z1 z2 z3 z4 z5 z6 z7 z8 HKI
  obtain ⟨z0, z1, z2, z3, z4, z5, z6, z7, z8⟩ := HS1.out _ HB2.out
  have hz2 : w1.heap.size + 1 + 1 < w2.heap.size := Nat.lt_of_lt_of_le HX2.out.lt HB2.out.size
  have hz1 : w1.heap.size + 1 < w2.heap.size := by omega
  have hz0 : w1.heap.size < w2.heap.size := by omega
  go_wp2_with fail
  rw [← hWY]
  clear hWY
  refine (HKS.out _ HBY.out).mono ?_
  rintro e w3 ⟨v3, rfl, hv3, hb3⟩
  dsimp only at hv3 ⊢
  obtain ⟨A3, c3, rfl, hc3, hE3⟩ := hv3.reads
  have HB3 := Lib.hid (HBY.out.later hb3)
  have HY3 := Lib.hid hb3
  obtain ⟨WZ, hWZ⟩ : ∃ WZ, WZ = w3.alloc (.cells #[.int .i64 d2, .int .i64 r2, .slice A3 l2.length c3] 58) := ⟨_, rfl⟩
  have HYZ : Hid (Below WY.heap.size WY WZ) := by subst hWZ; exact hb3.later (Below.new _ _)
  have HBZ := Lib.hid (HBY.out.later HYZ.out)
  have HEZ : Hid (∀ W, Below WZ.heap.size WZ W → Evs W W.heap.size A3 l2.length l2) := fun W hW => by
    have h1 : Evs WZ WZ.heap.size A3 l2.length l2 := by subst hWZ; exact hE3.later (Below.new _ _)
    exact h1.later hW
  have HKE := Lib.hid (SameTrans_same A2 A3 l2.length c2 c3 d2 r2 l2 WZ (HEY.out _ HYZ.out) (HEZ.out _ (Below.refl _ _)) hss)
  clear hb3 hv3 hE3 z0 z1 z2 z3 z4 z5 z6 z7 z8 HKS hz0 hz1 hz2
  have hyb := HY0.out.later HY3.out HY0.out.lt
  have y0 := hyb.cell 0
  have y1 := hyb.cell 1
  have y2 := hyb.cell 2
  have yz := hyb.lt
  simp at y0 y1 y2
  have hsc : ((sc_ != sc_) : Bool) = false := by simp
  go_wp2_with fail
  rw [← hWZ]
  clear hWZ y0 y1 y2 yz hyb
  refine HKE.out.mono ?_
  rintro e w4 ⟨rfl, hb4⟩
  have HB4 := Lib.hid (HBZ.out.later hb4)
  have HYW := Lib.hid (HYZ.out.later hb4)
  clear hb4 HKE
  by_cases hs0 : sc_ = 0
  case neg =>
    have hb0 : (sc_ != (0 : Int)) = true := by simpa using hs0
    go_wp2_with fail
    go_ret
    exact ⟨rfl, HBW.out.later HB4.out⟩
  obtain ⟨gs, hF⟩ := HTV.out hs0
  have hsb := HSB.out.symm.trans hF.eq
  injection hsb with e1 e2
  injection e2 with e2 e3 e4
  have e5 := e2.symm
  have e6 := e3.symm
  subst e1 e5 e6
  have HF := Lib.hid hF
  have HVW : Hid (viewOfB fs ⟨dp, rs, l2⟩ = (0, gs)) := by unfold Hid; rw [e4]; exact hF.view
  have htg := hF.tree
  have hgs := tree_small htg
  have HYB := Lib.hid (HY0.out.later HYW.out HY0.out.lt)
  have HKC := Lib.hid (HKV.out dp rs A2 c2 l2 e4 w4 HB4.out (HEY.out _ HYW.out))
  rw [HVW.out] at HKC
  clear HTV HKV hs0 hF HSB e4
  obtain ⟨z0, z1, z2, z3, z4, z5, z6, z7, z8⟩ := HS1.out _ HB4.out
  have y0 := HYB.out.cell 0
  have y1 := HYB.out.cell 1
  have y2 := HYB.out.cell 2
  simp only [List.getElem?_toArray, List.getElem?_cons_zero, List.getElem?_cons_succ] at y0 y1 y2
  go_wp2_with fail
  refine HKC.out.mono ?_
  rintro e w5 ⟨v5, rfl, hv5, hb5⟩
  dsimp only at hv5 ⊢
  obtain ⟨A12, c12, rfl, hc12, hN12⟩ := hv5.reads
  have HB5 := Lib.hid (HB4.out.later hb5)
  obtain ⟨WV, hWV⟩ : ∃ WV, WV = w5.alloc (.cells #[.slice A12 gs.length c12] 26) := ⟨_, rfl⟩
  have HBV : Hid (Below WX.heap.size WX WV) := by subst hWV; exact HB5.out.later (Below.new _ _)
  have HQV : Hid (Blk WV w5.heap.size 26 #[.slice A12 gs.length c12]) := by subst hWV; exact heap_alloc_new _ _
  have HNV : Hid (∀ W, Below WV.heap.size WV W → Nodes W W.heap.size A12 gs.length gs) := fun W hW => by
    have h1 : Nodes WV WV.heap.size A12 gs.length gs := by subst hWV; exact hN12.later (Below.new _ _)
    exact h1.later hW
  have HKT := Lib.hid (specTreeOk_any A12 gs.length c12 gs WV (HNV.out _ (Below.refl _ _)) hgs)
  rw [htg] at HKT
  clear hb5 hv5 hN12 HKC z0 z1 z2 z3 z4 z5 z6 z7 z8 y0 y1 y2
  go_wp2_with fail
  try rw [← hWV]
  clear hWV
  refine HKT.out.mono ?_
  rintro e w6 ⟨rfl, hb6⟩
  have HB6 := Lib.hid (HBV.out.later hb6)
  have HV6 := Lib.hid hb6
  clear hb6 HKT
  obtain ⟨z0, z1, z2, z3, z4, z5, z6, z7, z8⟩ := HS1.out _ HB6.out
  have v0 := (HQV.out.later HV6.out HQV.out.lt).cell 0
  simp at v0
  have hnm := HOD.out.1.1
  have hnz := HOD.out.1.2.1.2
  by_cases hk2 : d.kind = 2
  · obtain ⟨g1, g2, g3⟩ := HF.out.set_ hk2
    have HKG := Lib.hid (GetNode_true A12 gs.length c12 gs d.name SA sn sc d.subs w6 (HNV.out _ HV6.out) htg (HST.out _ HB6.out) hsm g3 hnm hnz)
    rw [g1, g2] at HKG
    have hkb : (d.kind == (2 : Int)) = true := by simpa using hk2
    clear HF HVW hk2 g1 g2 g3
    go_wp2_with fail
    refine HKG.out.mono ?_
    rintro e w7 ⟨rfl, hb7⟩
    have HB7 := Lib.hid (HB6.out.later hb7)
    clear hb7 z0 z1 z2 z3 z4 z5 z6 z7 z8 v0
    obtain ⟨z0, z1, z2, z3, z4, z5, z6, z7, z8⟩ := HS1.out _ HB7.out
    go_wp2_with fail
    go_ret
    exact ⟨ret_bool (by simp), HBW.out.later HB7.out⟩
  have hkb2 : (d.kind == (2 : Int)) = false := beq_eq_false_iff_ne.2 hk2
  by_cases hk3 : d.kind = 3
  · have hd0 := HF.out.kill hk3
    have HKG := Lib.hid (DataOf_any A12 gs.length c12 gs d.name SA sn sc d.subs w6 (HNV.out _ HV6.out) hgs (HST.out _ HB6.out) hsm hnm hnz)
    rw [hd0] at HKG
    have hkb : (d.kind == (3 : Int)) = true := by simpa using hk3
    clear HF HVW hd0
    go_wp2_with fail
    refine HKG.out.mono ?_
    rintro e w7 ⟨rfl, hb7⟩
    have HB7 := Lib.hid (HB6.out.later hb7)
    clear hb7
    go_wp2_with fail
    go_ret
    exact ⟨ret_bool (by simp), HBW.out.later HB7.out⟩
  have hkb3 : (d.kind == (3 : Int)) = false := beq_eq_false_iff_ne.2 hk3
  obtain ⟨g1, g2, g3⟩ := HF.out.read hk2 hk3
  have HKR := Lib.hid (ReadAgain_any A12 gs.length c12 gs _ _ _ _ _ d w6 (HTT.out _ HB6.out) (HNV.out _ HV6.out) htg g3 (HER.out _ HB6.out) HOD.out HF.out.note g1)
  rw [g2] at HKR
  clear HF HVW g1 g2 g3 hk2 hk3
  go_wp2_with fail
  refine HKR.out.mono ?_
  rintro e w7 ⟨v7, rfl, hs7, hb7⟩
  obtain ⟨AR, cr, rfl, hcr, hSR⟩ := Own.SubO.strs hs7
  have HB7 := Lib.hid (HB6.out.later hb7)
  have HRR : Hid (EvR w7 w7.heap.size (.int .i64 d.kind) (.string d.name) (.slice AR d.subs.length cr) (.string d.val) (.int .i64 d.n) d) := ⟨rfl, rfl, ⟨AR, _, cr, rfl, hSR, hcr⟩, rfl, rfl⟩
  obtain ⟨WE, hWE⟩ : ∃ WE, WE = w7.alloc (.cells #[.int .i64 d.kind, .string d.name, .slice AR d.subs.length cr, .string d.val, .int .i64 d.n] 55) := ⟨_, rfl⟩
  have H7E : Hid (Below w7.heap.size w7 WE) := by subst hWE; exact Below.new _ _
  have HBE := Lib.hid (HB7.out.later H7E.out)
  have HQE : Hid (Blk WE w7.heap.size 55 #[.int .i64 d.kind, .string d.name, .slice AR d.subs.length cr, .string d.val, .int .i64 d.n]) := by subst hWE; exact heap_alloc_new _ _
  clear hs7 hb7 hSR z0 z1 z2 z3 z4 z5 z6 z7 z8 v0 HKR
  obtain ⟨W1, hW1⟩ : ∃ W1, W1 = WE.alloc (.cells #[.int .i64 d.kind, .string d.name, .slice AR d.subs.length cr, .string d.val, .int .i64 d.n] 55) := ⟨_, rfl⟩
  obtain ⟨W2, hW2⟩ : ∃ W2, W2 = W1.alloc (.cells #[.int .i64 d.kind, .string d.name, .slice SA sn sc, .string d.val, .int .i64 d.n] 55) := ⟨_, rfl⟩
  have hwe1 : WE.heap.size = w7.heap.size + 1 := by subst hWE; simp
  have hw11 : W1.heap.size = w7.heap.size + 1 + 1 := by subst hW1; simp [hwe1]
  have HE1 : Hid (Below WE.heap.size WE W1) := by subst hW1; exact Below.new _ _
  have H12 : Hid (Below W1.heap.size W1 W2) := by subst hW2; exact Below.new _ _
  have HR1 : Hid (Evs W2 W2.heap.size (some ⟨w7.heap.size + 1, 0, none⟩) 1 [d]) := by
    have h1 : Evs W1 W1.heap.size (some ⟨w7.heap.size + 1, 0, none⟩) 1 [d] := by subst hW1; exact evs_one hwe1 (HRR.out.later H7E.out)
    exact h1.later H12.out
  have HR2 : Hid (Evs W2 W2.heap.size (some ⟨w7.heap.size + 1 + 1, 0, none⟩) 1 [d]) := by subst hW2; exact evs_one hw11 (HER.out _ (HBE.out.later HE1.out))
  have HKF := Lib.hid (SameEvents_same (some ⟨w7.heap.size + 1, 0, none⟩) (some ⟨w7.heap.size + 1 + 1, 0, none⟩) 1 1 1 [d] W2 HR1.out HR2.out ⟨by simp, fun x hx => by rw [List.mem_singleton.1 hx]; exact HOD.out.1⟩)
  have HBF := Lib.hid ((HBE.out.later HE1.out).later H12.out)
  obtain ⟨z0, z1, z2, z3, z4, z5, z6, z7, z8⟩ := HS1.out _ HB7.out
  have hz2 : w1.heap.size + 1 + 1 < w7.heap.size := Nat.lt_of_lt_of_le HX2.out.lt HB7.out.size
  have hz1 : w1.heap.size + 1 < w7.heap.size := by omega
  have hz0 : w1.heap.size < w7.heap.size := by omega
  clear hwe1 hw11
  go_wp2_with fail
  rw [← hWE, ← hW1, ← hW2]
  clear hWE hW1 hW2
  refine HKF.out.mono ?_
  rintro e w8 ⟨rfl, hb8⟩
  have HB8 := Lib.hid (HBF.out.later hb8)
  clear hb8
  go_wp2_with fail
  go_ret
  exact ⟨rfl, HBW.out.later HB8.out⟩
end Go.Proofs.YtgmaamnofhmecaaGreatDoor
