import Derived.Test.YtlicffeicmoifaaGreatDoorZ15
import Derived.Test.YtlicffeicmoifaaGreatDoorZ16
import Derived.Test.YtlicffeicmoifaaGreatDoorProg
import Derived.Test.YtlicffeicmoifaaGreatDoorZ01
import Derived.Test.YtlicffeicmoifaaGreatDoorZ11
import Derived.Test.YtlicffeicmoifaaGreatDoorZ00
import Derived.Test.YtlicffeicmoifaaGreatDoorZ04
import Derived.Test.YtlicffeicmoifaaGreatDoorZ06
import Derived.Ground.Names2Prog
import Derived.Ground.SlgnProg
import Derived.Shelf.LaysM
import Derived.Shelf.Slices.Cells
import Derived.Shelf.Slices.Clone
import Derived.Shelf.Slices.CompactS
import Derived.Shelf.Slices.Empties2
import Derived.Shelf.Slices.Equal
import Derived.Shelf.SlicesE.Clone
import Derived.Shelf.SlicesG.CompactI
import Derived.Shelf.SlicesG.Delete
import Derived.Shelf.SlicesG.SearchI
import Derived.Shelf.Small.Bits
import Derived.Shelf.Small.Strs
import Derived.Shelf.Small.Utf8
import Derived.Shelf.Small.Wraps
import Derived.Shelf.Strconv.Itoa0
import Derived.Shelf.Strconv.Itoa1
import Derived.Shelf.Strconv.Itoa2
import Derived.Shelf.Strconv.Itoa3
import Derived.Shelf.Strconv.Itoa4
import Derived.Shelf.Strings.AsciiSet
import Derived.Shelf.Strings.Builder1
import Derived.Shelf.Strings.Builder2
import Derived.Shelf.Strings.Count
import Derived.Shelf.Strings.OnBuilder
import Derived.Shelf.Strings.Prefix
import Derived.Shelf.Strings.Replace
import Derived.Shelf.Strings.RuneCount
import Derived.Shelf.Strings.Runes
import Derived.Shelf.Strings.Search1
import Derived.Shelf.Strings.Search2
import Derived.Shelf.Strings.Search3
import Derived.Shelf.Strings.Shaped
import Derived.Shelf.Strings.SlTrimAscii
import Derived.Shelf.Strings.Split
import Derived.Shelf.Strings.SplitShaped
import Derived.Shelf.Strings.Trim
import Derived.Shelf.Unicode.Decode
import Derived.Shelf.Unicode.DecodeAny
import Derived.Shelf.Unicode.DecodeLast
import Derived.Shelf.Unicode.DecodeSlow
set_option linter.unusedSimpArgs false
namespace Go.Proofs.YtlicffeicmoifaaGreatDoor
open Go.RowKit
set_option linter.unusedVariables false
theorem sub_appv' {w5 : World} {bs n : Nat} {v : Value} {ss : List ByteArray} {t : ByteArray} (hrow : w5.ownsRow bs 9 1 v (n + 1) (ss.map Value.string ++ [.string t])) (hn : n = ss.length) : Own.SubO w5 bs v (ss ++ [t]) := by
 subst hn
 unfold Own.SubO
 rw [List.length_append, List.map_append]
 exact hrow
set_option maxRecDepth 100000 in
set_option maxHeartbeats 2000000 in
theorem l02Take_bad (v : ByteArray) (w : World) (hv : headBad v) :
 Calls Tryz.prog 204 #[.string v] w fun e w' => ∃ a b, e = .returned (.tuple #[.string a, .string b, .bool false]) ∧ w' = w := by
 obtain ⟨c, r, he, h1, h2⟩ := hv
 have hv0 : 0 < v.size := by
  have := congrArg List.length he
  rw [Array.length_toList] at this
  show 0 < v.data.size
  rw [this]; simp
 have h0 : v[0]'hv0 = c := str_at he hv0 rfl
 have hb0 : (((v[0]'hv0).toNat : Int) == (1 : Int)) = false := by rw [h0]; exact beq_eq_false_iff_ne.2 (fun e => h1 (UInt8.toNat_inj.1 (by rw [show (1 : UInt8).toNat = 1 from rfl]; omega)))
 have hb1 : (((v[0]'hv0).toNat : Int) == (2 : Int)) = false := by rw [h0]; exact beq_eq_false_iff_ne.2 (fun e => h2 (UInt8.toNat_inj.1 (by rw [show (2 : UInt8).toNat = 2 from rfl]; omega)))
 have hb2 : (((v[0]'hv0).toNat : Int) != (2 : Int)) = true := by simpa [bne] using hb1
 clear he h0 h1 h2
 go_enter Tryz.func204, Tryz.ntmps204
 go_wp2_with fail
 go_ret3
 exact ⟨_, _, rfl, rfl⟩
def slLen (v : Value) : Nat := match v with | .slice _ m _ => m | _ => 0
def GetPost (v : ByteArray) (w : World) (e : Ending) (w' : World) : Prop := ∃ u ss, e = .returned (.tuple #[u, .bool (getOkB v)]) ∧ (getOkB v = true → PutOf v ss) ∧ Own.SubO w' w.heap.size u ss ∧ Below w.heap.size w w'
set_option maxRecDepth 100000 in
set_option maxHeartbeats 4000000 in
theorem specGetSubs_put (v : ByteArray) (ss : List ByteArray) (w : World) (hv : PutOf v ss) (hz : v.size ≤ 1048576) :
 Calls Tryz.prog 113 #[.string v] w (GetPost v w) := by
 obtain ⟨i0, hi, hz0, hz1, hz2⟩ := info_parts infoS
 have HGO := Lib.hid (getOk_of hv)
 have HPO := Lib.hid hv
 obtain ⟨hsb, hpu, rfl⟩ := hv
 have hsb2 := hsb
 unfold subsB at hsb
 rw [Bool.and_eq_true, decide_eq_true_eq, List.all_eq_true] at hsb
 obtain ⟨hn4, hall⟩ := hsb
 have HSB : Hid (∀ s ∈ ss, 0 < s.size ∧ s.size ≤ 24) := fun s hs => by
  have h := hall s hs
  unfold subB at h
  rw [Bool.and_eq_true, decide_eq_true_eq, decide_eq_true_eq] at h
  omega
 have HZ : Hid (∀ s ∈ ss, s.size ≤ 1048576) := fun s hs => by have := (HSB.out s hs).2; omega
 have HPU := Lib.hid hpu
 have HOK := Lib.hid hsb2
 have HDR : Hid (∀ k, k < ss.length → (ss.drop k).flatMap subE = subE (ss.getD k ByteArray.empty) ++ (ss.drop (k + 1)).flatMap subE) := fun k h => by
  rw [List.drop_eq_getElem_cons h, List.flatMap_cons, List.getD_eq_getElem?_getD, List.getElem?_eq_getElem h]
  rfl
 have HMEM : Hid (∀ k, k < ss.length → ss.getD k ByteArray.empty ∈ ss) := fun k h => Own.mem_of_getD ss k _ h
 have HPUT : Hid ((putE ss).data.toList = ss.flatMap subE) := putE_list ss
 generalize hN : ss.length = n at *
 have HLN := Lib.hid hN
 clear hall hsb2 hpu hN
 obtain ⟨W0, hW0⟩ : ∃ W0, W0 = w.alloc (.cells #[] 9) := ⟨_, rfl⟩
 have HU0 : Hid (Own.SubO W0 w.heap.size (.slice (some ⟨w.heap.size, 0, none⟩) 0 0) []) := by
  subst hW0
  exact World.ownsRow_lit (e := 9) (size := 1) w #[] 0 (Nat.le_refl _) (by omega) rfl
 have HB0 : Hid (Below w.heap.size w W0) := by subst hW0; exact Below.new _ _
 generalize hV : putE ss = V at *
 have HV := Lib.hid hV
 clear hV
 go_enter Tryz.func113, Tryz.ntmps113
 go_wp2_with fail
 rw [← hW0]
 clear hW0
 go_loopw [4, 5] (fun o l wr => ∃ (k : Nat) (L : ByteArray), k ≤ n ∧ l = .string L ∧ Hid (L.data.toList = (ss.drop k).flatMap subE) ∧ L.size ≤ 1048576 ∧ Hid (Own.SubO wr w.heap.size o (ss.take k)) ∧ Hid (Below w.heap.size w wr)) (fun o _ _ => n - slLen o)
 case atStart => exact ⟨0, V, Nat.zero_le _, rfl, HPUT.out, hz, HU0.out, HB0.out⟩
 case round =>
  obtain ⟨k, L, hk, rfl, HL, hLz, HU, HB⟩ := hrel
  have hszr := HB.out.size
  obtain ⟨S, cap, rfl, hcap, _⟩ := Own.SubO.strs HU.out
  have HTL : Hid ((ss.take k).length = k) := by unfold Hid; rw [List.length_take, HLN.out]; omega
  rw [HTL.out] at hcap HU ⊢
  by_cases hlt : k < n
  · have hls := HDR.out k hlt
    obtain ⟨c, r, hc1, _⟩ := subE_head (ss.getD k ByteArray.empty)
    have hne : L.toList.isEmpty = false := by
     rw [toList_data, HL.out, hls, hc1]
     rfl
    have hne2 : (!L.toList.isEmpty) = true := by rw [hne]; rfl
    have hk4 : (k : Int) ≤ 4 := by omega
    have hmem := HMEM.out k hlt
    have HK1 := Lib.hid (fun W => l02Take_any L (ss.getD k ByteArray.empty) ((ss.drop (k + 1)).flatMap subE) W (by rw [HL.out]; exact hls) (HPU.out _ hmem) (HSB.out _ hmem).1 hLz)
    have HTK : Hid (ss.take (k + 1) = ss.take k ++ [ss.getD k ByteArray.empty]) := by
     unfold Hid
     rw [List.take_succ_eq_append_getElem (by rw [HLN.out]; exact hlt), List.getD_eq_getElem?_getD, List.getElem?_eq_getElem (by rw [HLN.out]; exact hlt)]
     rfl
    have HSZ : Hid (((ss.drop (k + 1)).flatMap subE).length ≤ 1048576) := by
     unfold Hid
     have h2 := congrArg List.length (HL.out.trans hls)
     rw [List.length_append, Array.length_toList] at h2
     have h3 : L.data.size = L.size := rfl
     omega
    clear hls hc1 hmem
    generalize ss.getD k ByteArray.empty = s at *
    generalize hD : (ss.drop (k + 1)).flatMap subE = D at *
    have HD := Lib.hid hD
    clear hD
    go_wp2_with fail
    refine (HK1.out _).mono ?_
    rintro e w1 ⟨t, rfl, ht, hb1⟩
    have HB1 := Lib.hid (HB.out.later hb1)
    have HT := Lib.hid ht
    have hU1 := Own.own_later HU.out hb1
    rw [HTL.out] at hU1
    have HRr : Hid (∀ o, (w1.alloc o).ownsRow w.heap.size 9 1 (.slice S k cap) k ((ss.take k).map Value.string)) := fun o => Own.own_later hU1 (Below.new w1 o)
    have hsz1 := HB1.out.size
    have htz : t.size ≤ 1048576 := by
     have h2 := congrArg List.length ht
     rw [Array.length_toList] at h2
     have h3 : t.data.size = t.size := rfl
     have := HSZ.out
     omega
    clear hb1 ht hU1 hne hne2
    go_wp2_with (at_builtin; refine wpList_append_own _ rfl (.tmp 27) (.tmp 29) 35 rfl w.heap.size 9 i0 _ 1 16 Tryz.underlying35 hi hz0 hz1 hz2 rfl (by decide) _ k _ rfl (HRr.out _) ⟨_, 0, none⟩ 1 1 [.string s] rfl rfl ?c1 ?c2 ?c3 ?c4 ?c5 ?_)
    case c1 => exact cell_one_new _ _ _
    case c2 => simp [Value.oneCell']
    case c3 => unfold maxLen; omega
    case c4 => omega
    case c5 => simp; omega
    intro v4 w4 hown4 hg4 _
    rw [← List.map_take] at hown4
    have HU4 := Lib.hid (sub_appv' hown4 HTL.out.symm)
    rw [← HTK.out] at HU4
    have HB4 : Hid (Below w.heap.size w w4) := (HB1.out.later (Below.new _ _)).grown hg4 (by simp; omega) (fun g hg => ((HRr.out (.cells #[] 0)).lt g hg).1)
    obtain ⟨S4, cap4, e4, _, _⟩ := Own.SubO.strs HU4.out
    have hl4 : (ss.take (k + 1)).length = k + 1 := by rw [List.length_take, HLN.out]; omega
    rw [hl4] at e4
    subst e4
    clear hown4 hg4
    go_wp2_with fail
    go_roundw
    case rel => exact ⟨k + 1, t, by omega, rfl, by unfold Hid; rw [HD.out]; exact HT.out, htz, HU4.out, HB4.out⟩
    case measure => simp [slLen]; omega
  · obtain rfl : k = n := by omega
    have hemp : L.toList.isEmpty = true := by
     rw [toList_data, HL.out, List.drop_of_length_le (by rw [HLN.out]; exact Nat.le_refl _)]
     rfl
    have hemp2 : (!L.toList.isEmpty) = false := by rw [hemp]; rfl
    have HTA : Hid (ss.take k = ss) := List.take_of_length_le (by rw [HLN.out]; exact Nat.le_refl _)
    rw [HTA.out] at HU
    obtain ⟨S', cap', e', hcap', hS⟩ := Own.SubO.strs HU.out
    rw [HLN.out] at e' hS
    injection e' with e1 _ e3
    subst e1 e3
    have HK1 := Lib.hid (fun W (hW : Below wr.heap.size wr W) => l02Subs_any S k cap ss W (hS.later hW) (by omega) HZ.out)
    have HK2 := Lib.hid (fun W (hW : Below wr.heap.size wr W) => l02Put_any S k cap ss W (hS.later hW) (by omega) HZ.out HPU.out)
    rw [HOK.out] at HK1
    rw [HV.out] at HK2
    clear hS
    go_wp2_with fail
    refine (HK1.out _ (Below.refl _ _)).mono ?_
    rintro e w1 ⟨rfl, rfl⟩
    go_wp2_with fail
    refine (HK2.out _ (Below.refl _ _)).mono ?_
    rintro e w2 ⟨rfl, hb2⟩
    have HB2 := Lib.hid hb2
    clear hb2
    go_wp2_with fail
    go_ret2
    refine ⟨_, ss, ?_, fun _ => HPO.out, Own.own_later HU.out HB2.out, HB.out.later HB2.out⟩
    rw [HGO.out]
    rfl
set_option maxRecDepth 100000 in
set_option maxHeartbeats 4000000 in
theorem specGetSubs_bad (v : ByteArray) (w : World) (hv : headBad v) (hz : v.size ≤ 1048576) :
 Calls Tryz.prog 113 #[.string v] w (GetPost v w) := by
 have HGO := Lib.hid (getOk_bad hv)
 have HK := Lib.hid (fun W => l02Take_bad v W hv)
 have hne : v.toList.isEmpty = false := by
  obtain ⟨c, r, he, _⟩ := hv
  rw [toList_data, he]
  rfl
 have hne2 : (!v.toList.isEmpty) = true := by rw [hne]; rfl
 clear hv
 go_enter Tryz.func113, Tryz.ntmps113
 go_wp2_with fail
 go_loopw [4, 5] (fun o l wr => l = .string v ∧ o = .slice (some ⟨w.heap.size, 0, none⟩) 0 0 ∧ Hid (Below w.heap.size w wr)) (fun _ _ _ => 0)
 case atStart => exact ⟨rfl, rfl, Below.new _ _⟩
 case round =>
  obtain ⟨rfl, rfl, HB⟩ := hrel
  go_wp2_with fail
  refine (HK.out _).mono ?_
  rintro e w1 ⟨a, b, rfl, rfl⟩
  go_wp2_with fail
  go_ret2
  refine ⟨_, [], ?_, fun h => absurd (HGO.out.symm.trans h) (by decide), World.ownsRow_lit (e := 9) (size := 1) _ #[] 0 HB.out.size (by omega) rfl, HB.out.later (Below.new _ _)⟩
  rw [HGO.out]
  rfl
theorem specGetSubs_any (v : ByteArray) (w : World) (hv : okV v) (hz : v.size ≤ 1048576) :
 Calls Tryz.prog 113 #[.string v] w (GetPost v w) := by
 rcases hv with ⟨ss, h⟩ | h
 · exact specGetSubs_put v ss w h hz
 · exact specGetSubs_bad v w h hz
end Go.Proofs.YtlicffeicmoifaaGreatDoor
namespace Go.Proofs
open Go.Shelf
def Tryz.laysB_ren : Go.Shelf.Ren := ⟨fun | 167 => 305 | 166 => 326 | 169 => 299 | 240 => 331 | 241 => 381 | 276 => 359 | 277 => 391 | n => n, fun | 31 => 35 | 9 => 9 | 3 => 3 | 4 => 4 | 0 => 0 | 20 => 20 | 72 => 264 | 76 => 285 | 70 => 262 | 37 => 22 | 75 => 269 | 127 => 288 | 164 => 311 | 5 => 5 | 80 => 266 | n => n, fun | n => n⟩
theorem Tryz.laysB167 : Go.Proofs.Lays.n167 Tryz.prog Tryz.laysB_ren := {
 mixed := by kernel_rfl
 f167 := Tryz.func305.trans (congrArg some (by kernel_rfl))
 f240 := Tryz.func331.trans (congrArg some (by kernel_rfl))
 f276 := Tryz.func359.trans (congrArg some (by kernel_rfl))
 t0 := Tryz.underlying0
 a0 := Tryz.isAgg0
 z0 := Tryz.sizeOf0
 v0 := Tryz.zeroValue0
 t4 := Tryz.underlying4
 a4 := Tryz.isAgg4
 z4 := Tryz.sizeOf4
 v4 := Tryz.zeroValue4
 t5 := Tryz.underlying5
 a5 := Tryz.isAgg5
 z5 := Tryz.sizeOf5
 v5 := Tryz.zeroValue5
 t9 := Tryz.underlying9
 a9 := Tryz.isAgg9
 z9 := Tryz.sizeOf9
 v9 := Tryz.zeroValue9
 t20 := Tryz.underlying20
 a20 := Tryz.isAgg20
 z20 := Tryz.sizeOf20
 v20 := Tryz.zeroValue20
 t37 := Tryz.underlying22
 a37 := Tryz.isAgg22
 z37 := Tryz.sizeOf22
 v37 := Tryz.zeroValue22
 t70 := Tryz.underlying262
 a70 := Tryz.isAgg262
 z70 := Tryz.sizeOf262
 v70 := Tryz.zeroValue262
 t72 := Tryz.underlying264
 a72 := Tryz.isAgg264
 z72 := Tryz.sizeOf264
 v72 := Tryz.zeroValue264
 t75 := Tryz.underlying269
 a75 := Tryz.isAgg269
 z75 := Tryz.sizeOf269
 v75 := Tryz.zeroValue269
 t164 := Tryz.underlying311
 a164 := Tryz.isAgg311
 z164 := Tryz.sizeOf311
 v164 := Tryz.zeroValue311 }
theorem Tryz.laysB166 : Go.Proofs.Lays.n166 Tryz.prog Tryz.laysB_ren := {
 mixed := by kernel_rfl
 f166 := Tryz.func326.trans (congrArg some (by kernel_rfl))
 f240 := Tryz.func331.trans (congrArg some (by kernel_rfl))
 f276 := Tryz.func359.trans (congrArg some (by kernel_rfl))
 t0 := Tryz.underlying0
 a0 := Tryz.isAgg0
 z0 := Tryz.sizeOf0
 v0 := Tryz.zeroValue0
 t3 := Tryz.underlying3
 a3 := Tryz.isAgg3
 z3 := Tryz.sizeOf3
 v3 := Tryz.zeroValue3
 t4 := Tryz.underlying4
 a4 := Tryz.isAgg4
 z4 := Tryz.sizeOf4
 v4 := Tryz.zeroValue4
 t9 := Tryz.underlying9
 a9 := Tryz.isAgg9
 z9 := Tryz.sizeOf9
 v9 := Tryz.zeroValue9
 t20 := Tryz.underlying20
 a20 := Tryz.isAgg20
 z20 := Tryz.sizeOf20
 v20 := Tryz.zeroValue20
 t37 := Tryz.underlying22
 a37 := Tryz.isAgg22
 z37 := Tryz.sizeOf22
 v37 := Tryz.zeroValue22
 t70 := Tryz.underlying262
 a70 := Tryz.isAgg262
 z70 := Tryz.sizeOf262
 v70 := Tryz.zeroValue262
 t72 := Tryz.underlying264
 a72 := Tryz.isAgg264
 z72 := Tryz.sizeOf264
 v72 := Tryz.zeroValue264
 t75 := Tryz.underlying269
 a75 := Tryz.isAgg269
 z75 := Tryz.sizeOf269
 v75 := Tryz.zeroValue269
 t164 := Tryz.underlying311
 a164 := Tryz.isAgg311
 z164 := Tryz.sizeOf311
 v164 := Tryz.zeroValue311 }
theorem Tryz.laysB169 : Go.Proofs.Lays.n169 Tryz.prog Tryz.laysB_ren := {
 mixed := by kernel_rfl
 f169 := Tryz.func299.trans (congrArg some (by kernel_rfl))
 t0 := Tryz.underlying0
 a0 := Tryz.isAgg0
 z0 := Tryz.sizeOf0
 v0 := Tryz.zeroValue0
 t3 := Tryz.underlying3
 a3 := Tryz.isAgg3
 z3 := Tryz.sizeOf3
 v3 := Tryz.zeroValue3
 t9 := Tryz.underlying9
 a9 := Tryz.isAgg9
 z9 := Tryz.sizeOf9
 v9 := Tryz.zeroValue9
 t37 := Tryz.underlying22
 a37 := Tryz.isAgg22
 z37 := Tryz.sizeOf22
 v37 := Tryz.zeroValue22
 t70 := Tryz.underlying262
 a70 := Tryz.isAgg262
 z70 := Tryz.sizeOf262
 v70 := Tryz.zeroValue262
 t72 := Tryz.underlying264
 a72 := Tryz.isAgg264
 z72 := Tryz.sizeOf264
 v72 := Tryz.zeroValue264
 t127 := Tryz.underlying288
 a127 := Tryz.isAgg288
 z127 := Tryz.sizeOf288
 v127 := Tryz.zeroValue288 }
theorem Tryz.Builder_Extra_B : Builder.Extra Tryz.prog Tryz.laysB_ren := {
 sizeBuilder := by kernel_rfl
 liesBuilder := by kernel_rfl
 t5 := Tryz.underlying5
 a5 := Tryz.isAgg5
 z5 := Tryz.sizeOf5
 v5 := Tryz.zeroValue5
 infoByte := by kernel_rfl
 cellsByte := by kernel_rfl
 sizeByte := by kernel_rfl
 neB5 := by decide }
open Go.RowKit in
theorem Tryz.B_WriteByte (B b : Nat) (bs : List Value) (c : Int) (w : World) (h : Lib.IsBuilder 264 5 B b bs w) (hlen : bs.length + 1 ≤ 140737488355328) (hBw : B ≤ w.heap.size) :
 Calls Tryz.prog 305 #[.pointer (some ⟨b, 0, none⟩), .int .u8 c] w fun e w' => e = .returned .nilIface ∧ (Lib.BuilderAt 264 5 B b (.pointer (some ⟨b, 0, none⟩)) (bs ++ [.int .u8 c]) w' ∧ Below B w w') := Any.Builder_WriteByte Tryz.laysB167 Tryz.Builder_Extra_B B b bs c w h hlen hBw
open Go.RowKit in
theorem Tryz.B_WriteString (B b : Nat) (bs : List Value) (s : ByteArray) (w : World) (h : Lib.IsBuilder 264 5 B b bs w) (hlen : bs.length + s.size ≤ 140737488355328) (hBw : B ≤ w.heap.size) :
 Calls Tryz.prog 326 #[.pointer (some ⟨b, 0, none⟩), .string s] w fun e w' => e = .returned (.tuple #[.int .i64 s.size, .nilIface]) ∧ (Lib.BuilderAt 264 5 B b (.pointer (some ⟨b, 0, none⟩)) (bs ++ Lib.strCells s) w' ∧ Below B w w') := Any.Builder_WriteString Tryz.laysB166 Tryz.Builder_Extra_B B b bs s w h hlen hBw
open Go.RowKit in
theorem Tryz.B_String (B b : Nat) (l : List UInt8) (w : World) (h : Lib.IsBuilder 264 5 B b (Lib.byteCells l) w) (hBw : B ≤ w.heap.size) :
 Calls Tryz.prog 299 #[.pointer (some ⟨b, 0, none⟩)] w fun e w' => e = .returned (.string ⟨l.toArray⟩) ∧ Below B w w' := Any.Builder_String_any Tryz.laysB169 Tryz.Builder_Extra_B B b l w h hBw
end Go.Proofs
namespace Go.Proofs.YtlicffeicmoifaaGreatDoor
open Go.RowKit Go.Lib
set_option linter.unusedVariables false
theorem count_zero {s : ByteArray} (h : pureS s) : Lib.countByte s.data.toList 0 = 0 := List.count_eq_zero.2 h
set_option maxHeartbeats 2000000 in
theorem ReplaceAll0_any (s : ByteArray) (w : World) (h : pureS s) :
 Calls Tryz.prog 327 #[.string s, .string ⟨#[0]⟩, .string ⟨#[0, 255]⟩] w fun e w' => e = .returned (.string s) ∧ w' = w := by
 have HC : Hid (∀ W, Calls Tryz.prog 322 #[.string s, .string ⟨#[0]⟩] W fun e w' => e = .returned (.int .i64 0) ∧ w' = W) := fun W => by
  have h1 := Tryz.strings_Count_one s 0 W
  rw [count_zero h] at h1
  exact h1
 have HR : Hid (∀ W, Calls Tryz.prog 354 #[.string s, .string ⟨#[0]⟩, .string ⟨#[0, 255]⟩, .int .i64 (-1)] W fun e w' => e = .returned (.string s) ∧ w' = W) := fun W => by
  go_enter Tryz.func354, Tryz.ntmps354
  go_wp2_with fail
  refine (HC.out _).mono ?_
  rintro e w1 ⟨rfl, rfl⟩
  go_wp2_with fail
  go_ret
  exact ⟨rfl, rfl⟩
 go_enter Tryz.func327, Tryz.ntmps327
 go_wp2_with fail
 refine (HR.out _).mono ?_
 rintro e w1 ⟨rfl, rfl⟩
 go_wp2_with fail
 go_ret
 exact ⟨rfl, rfl⟩
theorem bld_later {B b : Nat} {bs : List Value} {p : Value} {w w' : World} (h : BuilderAt 264 5 B b p bs w) (hb : Below w.heap.size w w') : BuilderAt 264 5 B b p bs w' := by
 have hlt := h.lt
 obtain ⟨h1, v, h2, h3, h4⟩ := h
 exact ⟨h1, v, Blk.later h2 hb hlt, Own.own_later h3 hb, h4⟩
theorem isb_later {B b : Nat} {bs : List Value} {w w' : World} (h : IsBuilder 264 5 B b bs w) (hb : Below w.heap.size w w') : IsBuilder 264 5 B b bs w' := h.elim (fun x => .inl (bld_later x hb)) (fun x => .inr (bld_later x hb))
theorem be_at {B b N k : Nat} {bs : List Value} {p : Value} {c : Int} {w : World} (h : BuilderAt 264 5 B b p ((bs ++ Go.Lib.byteCells (1 :: (be8 N).take k)) ++ [.int .u8 c]) w) (hk : k < 8) (hc : c = (((N / 2 ^ (56 - 8 * k)) % 256 : Nat) : Int)) : BuilderAt 264 5 B b p (bs ++ Go.Lib.byteCells (1 :: (be8 N).take (k + 1))) w := by
 have e : bs ++ Go.Lib.byteCells (1 :: (be8 N).take (k + 1)) = (bs ++ Go.Lib.byteCells (1 :: (be8 N).take k)) ++ [.int .u8 c] := by
  have h2 : ((UInt8.ofNat ((N / 2 ^ (56 - 8 * k)) % 256)).toNat : Int) = c := by
   rw [hc, UInt8.toNat_ofNat']
   have := Nat.mod_lt (N / 2 ^ (56 - 8 * k)) (show 0 < 256 by decide)
   rw [Nat.mod_eq_of_lt (a := N / 2 ^ (56 - 8 * k) % 256) (by simpa using this)]
  rw [be_step N k hk, Go.Lib.byteCells, Go.Lib.byteCells, List.map_cons, List.map_cons, List.map_append, List.map_cons, List.map_nil, h2]
  simp
 rw [e]
 exact h
set_option maxRecDepth 100000 in
set_option maxHeartbeats 8000000 in
theorem putSub_any (b : Nat) (bs : List Value) (s : ByteArray) (w0 w : World) (h : IsBuilder 264 5 w0.heap.size b bs w) (hp : pureS s) (hs : s.size ≤ 1048576) (htab : tabT w0) (hb0 : Below w0.heap.size w0 w) (hlen : bs.length ≤ 1000000) :
 Calls Tryz.prog 298 #[.pointer (some ⟨b, 0, none⟩), .string s] w fun e w' => e = .returned (.tuple #[]) ∧ IsBuilder 264 5 w0.heap.size b (bs ++ Go.Lib.byteCells (subE s)) w' ∧ Below w0.heap.size w w' := by
 have HK1 := Lib.hid (fun W (hW : Below w0.heap.size w0 W) => IsCanon_any s W (tab_later htab hW) hs)
 have HK2 : Hid (∀ W, Calls Tryz.prog 295 #[.string s] W fun e w' => e = .returned (.int .i64 (numS s.data.toList)) ∧ Below W.heap.size W w') := fun W => by
  have h := NumOf_any s W hs
  rw [numI_eq] at h
  exact h
 have HRP := Lib.hid (fun W => ReplaceAll0_any s W hp)
 have hBz := hb0.size
 have HBL := Lib.hid h
 have HB0 := Lib.hid hb0
 have HSE : Hid (subE s = if canonB s = true then 1 :: be8 (encN s) else 2 :: (s.data.toList ++ [0, 0])) := rfl
 obtain ⟨hn1, hn2, hn3⟩ := encN_bd s
 have hw0 : wrap64 (numS s.data.toList + 1000000000000000000) = (encN s : Int) := by unfold wrap64; omega
 have HSZ : Hid (s.data.toList.length = s.size) := by unfold Hid; rw [Array.length_toList]; rfl
 clear h hb0 htab hp hn3
 generalize canonB s = cn at *
 generalize encN s = N at *
 generalize numS s.data.toList = M at *
 go_enter Tryz.func298, Tryz.ntmps298
 go_wp2_with fail
 refine (HK1.out _ HB0.out).mono ?_
 rintro e w1 ⟨rfl, hb1⟩
 have HBL1 := Lib.hid (isb_later HBL.out hb1)
 have HB1 : Hid (Below w0.heap.size w w1) := hb1.mono hBz
 have hw1 := hb1.size
 clear hb1
 cases cn
 · go_wp2_with fail
   refine (Tryz.B_WriteByte _ b bs 2 w1 HBL1.out (by omega) (by omega)).mono ?_
   rintro e w2 ⟨rfl, hbl2, hb2⟩
   have HB2 := Lib.hid (HB1.out.trans hb2)
   have HBL2 := Lib.hid hbl2
   have hw2 := hb2.size
   clear hb2 hbl2
   go_wp2_with fail
   refine (HRP.out _).mono ?_
   rintro e w3 ⟨rfl, rfl⟩
   go_wp2_with fail
   refine (Tryz.B_WriteString _ b _ s _ (.inr HBL2.out) (by rw [List.length_append]; simp only [List.length_cons, List.length_nil]; omega) (by omega)).mono ?_
   rintro e w4 ⟨rfl, hbl4, hb4⟩
   have HB4 := Lib.hid (HB2.out.trans hb4)
   have HBL4 := Lib.hid hbl4
   have hw4 := hb4.size
   clear hb4 hbl4
   go_wp2_with fail
   refine (Tryz.B_WriteString _ b _ ⟨#[0, 0]⟩ w4 (.inr HBL4.out) (by rw [List.length_append, List.length_append, strCells_length, show (⟨#[0, 0]⟩ : ByteArray).size = 2 from rfl]; simp only [List.length_cons, List.length_nil]; omega) (by omega)).mono ?_
   rintro e w5 ⟨rfl, hbl5, hb5⟩
   have HB5 := Lib.hid (HB4.out.trans hb5)
   have HBL5 := Lib.hid hbl5
   clear hb5 hbl5
   go_wp2_with fail
   go_end0
   refine ⟨rfl, .inr ?_, HB5.out⟩
   have h := HBL5.out
   rw [HSE.out]
   simpa [Go.Lib.byteCells, strCells] using h
 · go_wp2_with fail
   refine (HK2.out _).mono ?_
   rintro e w2 ⟨rfl, hb2⟩
   have HBL2 := Lib.hid (isb_later HBL1.out hb2)
   have HB2 : Hid (Below w0.heap.size w w2) := HB1.out.trans (hb2.mono (by omega))
   have hw2 := hb2.size
   clear hb2
   go_wp2_with fail
   refine (Tryz.B_WriteByte _ b bs 1 _ HBL2.out (by omega) (by omega)).mono ?_
   rintro e w3 ⟨rfl, hbl3, hb3⟩
   have HB3 := Lib.hid (HB2.out.trans hb3)
   have HBL3 := Lib.hid hbl3
   clear hb3 hbl3
   go_wp2_with fail
   go_loopw [5] (fun v wr => ∃ k : Nat, k ≤ 8 ∧ v = .int .i64 (56 - 8 * (k : Int)) ∧ Hid (BuilderAt 264 5 w0.heap.size b (.pointer (some ⟨b, 0, none⟩)) (bs ++ Go.Lib.byteCells (1 :: (be8 N).take k)) wr) ∧ Below w0.heap.size w wr) (fun v _ => (intOf v + 8).toNat)
   case atStart => exact ⟨0, by omega, rfl, by unfold Hid; simpa [Go.Lib.byteCells] using HBL3.out, HB3.out⟩
   case round =>
    obtain ⟨k, hk, rfl, HBLr, hbr⟩ := hrel
    have HBr := Lib.hid hbr
    have hwr := hbr.size
    clear hbr
    by_cases hk8 : k = 8
    · subst hk8
      go_wp2_with fail
      refine bodyPost_ret (results_none rfl _ _ _) rfl ?_
      refine ⟨rfl, .inr ?_, HBr.out⟩
      have h := HBLr.out
      rw [HSE.out]
      exact h
    · have hcs : k = 0 ∨ k = 1 ∨ k = 2 ∨ k = 3 ∨ k = 4 ∨ k = 5 ∨ k = 6 ∨ k = 7 := by omega
      rcases hcs with rfl | rfl | rfl | rfl | rfl | rfl | rfl | rfl
      all_goals
       go_wp2_with fail
       refine (Tryz.B_WriteByte _ b _ _ _ (.inr HBLr.out) (by rw [List.length_append, Go.Lib.byteCells_length, List.length_cons, List.length_take]; omega) (by omega)).mono ?_
       rintro e w4 ⟨rfl, hbl4, hb4⟩
       have HB4 := Lib.hid (HBr.out.trans hb4)
       have HBL4 := Lib.hid (be_at hbl4 (by decide) (by simp only [Nat.reduceMul, Nat.reduceSub, Nat.reducePow]; omega))
       clear hb4 hbl4
       go_wp2_with fail
       go_roundw
       case rel => exact ⟨_ + 1, by omega, by go_num, HBL4.out, HB4.out⟩
       case measure => simp [intOf]; try omega
set_option maxRecDepth 100000 in
set_option maxHeartbeats 8000000 in
theorem PutSubs_any (A : Option Addr) (n c : Nat) (ss : List ByteArray) (w : World) (h : Strs w w.heap.size A n ss) (hp : ∀ s ∈ ss, pureS s) (hok : subsB ss = true) (htab : tabT w) :
 Calls Tryz.prog 248 #[.slice A n c] w fun e w' => e = .returned (.string ⟨(ss.flatMap subE).toArray⟩) ∧ Below w.heap.size w w' := by
 have hn4 : ss.length ≤ 4 := by
  unfold subsB at hok
  rw [Bool.and_eq_true, decide_eq_true_eq] at hok
  exact hok.1
 have hsz : ∀ s ∈ ss, s.size ≤ 24 := fun s hs => by
  unfold subsB at hok
  rw [Bool.and_eq_true, List.all_eq_true] at hok
  have := hok.2 s hs
  unfold subB at this
  rw [Bool.and_eq_true, decide_eq_true_eq, decide_eq_true_eq] at this
  exact this.2
 have HK1 : Hid (∀ W, Below w.heap.size w W → Calls Tryz.prog 107 #[.slice A n c] W fun e w' => e = .returned (.bool (subsB ss)) ∧ Below W.heap.size W w') := fun W hW => (SubsOk_any A n c ss W (h.later hW) (by rw [← h.1]; omega) (fun s hs => by have := hsz s hs; omega)).mono fun e w' h => ⟨h.1, h.2 ▸ Below.refl _ _⟩
 have HKP := Lib.hid (fun b bs s W (hs : s ∈ ss) (hbl : IsBuilder 264 5 w.heap.size b bs W) (hW : Below w.heap.size w W) (hl : bs.length ≤ 1000000) => putSub_any b bs s w W hbl (hp s hs) (by have := hsz s hs; omega) htab hW hl)
 have HS := Lib.hid h
 have HLN := Lib.hid h.1
 have HN4 := Lib.hid hn4
 have HEL : Hid (∀ s ∈ ss, (subE s).length ≤ 30) := fun s hs => by
  have h1 := hsz s hs
  have h2 : s.data.toList.length = s.size := by rw [Array.length_toList]; rfl
  unfold subE
  split
  · rw [List.length_cons, be8_len]; omega
  · rw [List.length_cons, List.length_append, h2]; simp only [List.length_cons, List.length_nil]; omega
 clear h hp htab hsz hn4
 rw [hok] at HK1
 clear hok
 go_enter Tryz.func248, Tryz.ntmps248
 go_wp2_with fail
 refine (HK1.out _ (Below.refl _ _)).mono ?_
 rintro e w1 ⟨rfl, hb1⟩
 have HB1 := Lib.hid hb1
 have hw1 := hb1.size
 have HBn := Lib.hid (hb1.later (Below.new w1 (.cells #[.pointer none, .slice none 0 0] 264)))
 have HBL0 : Hid (IsBuilder 264 5 w.heap.size w1.heap.size (Go.Lib.byteCells []) (w1.alloc (.cells #[.pointer none, .slice none 0 0] 264))) := .inl ⟨hw1, .slice none 0 0, heap_alloc_new _ _, World.ownsRow_nil _ _ _ _, by simp [Value.ownBlock]⟩
 clear hb1
 go_wp2_with fail
 go_loopw [11] (fun i wr => ∃ k : Nat, k ≤ n ∧ i = .int .i64 k ∧ Hid (IsBuilder 264 5 w.heap.size w1.heap.size (Go.Lib.byteCells ((ss.take k).flatMap subE)) wr) ∧ Hid (((ss.take k).flatMap subE).length ≤ 30 * k) ∧ Below w.heap.size w wr) (fun i _ => n - (intOf i).toNat)
 case atStart => exact ⟨0, Nat.zero_le _, rfl, HBL0.out, by unfold Hid; simp, HBn.out⟩
 case round =>
  obtain ⟨k, hk, rfl, HBL, HLE, hb⟩ := hrel
  have HB := Lib.hid hb
  have hwr := hb.size
  clear hb
  have hn4 : n ≤ 4 := by rw [← HLN.out]; exact HN4.out
  by_cases hlt : k < n
  · obtain ⟨sb, so, rfl, hsb, hsc⟩ := (HS.out.later HB.out).2 (by omega)
    have hck := hsc k hlt
    have hl : k < ss.length := by rw [HLN.out]; exact hlt
    have hmem := Own.mem_of_getD ss k ByteArray.empty hl
    have HEk := Lib.hid (HEL.out _ hmem)
    have HKk := Lib.hid (HKP.out w1.heap.size (Go.Lib.byteCells ((ss.take k).flatMap subE)) _ wr hmem HBL.out HB.out (by rw [Go.Lib.byteCells_length]; have := HLE.out; omega))
    have HST : Hid ((ss.take (k + 1)).flatMap subE = (ss.take k).flatMap subE ++ subE (ss.getD k ByteArray.empty)) := by
     unfold Hid
     rw [List.take_succ_eq_append_getElem hl, List.flatMap_append, List.getD_eq_getElem?_getD, List.getElem?_eq_getElem hl]
     simp
    clear hsc hl hmem
    generalize ss.getD k ByteArray.empty = s at *
    go_wp2_with fail
    refine HKk.out.mono ?_
    rintro e w2 ⟨rfl, hbl, hb2⟩
    have HB2 := Lib.hid (HB.out.trans hb2)
    have HBL2 : Hid (IsBuilder 264 5 w.heap.size w1.heap.size (Go.Lib.byteCells ((ss.take (k + 1)).flatMap subE)) w2) := by
     unfold Hid
     rw [HST.out, Go.Lib.byteCells, List.map_append]
     exact hbl
    have HLE2 : Hid (((ss.take (k + 1)).flatMap subE).length ≤ 30 * (k + 1)) := by
     unfold Hid
     have h1 := HLE.out
     have h2 := HEk.out
     rw [HST.out, List.length_append]
     omega
    clear hbl hb2
    go_wp2_with fail
    go_roundw
    case rel => exact ⟨k + 1, by omega, by go_num, HBL2.out, HLE2.out, HB2.out⟩
    case measure => simp [intOf]; omega
  · have HBE : Hid (IsBuilder 264 5 w.heap.size w1.heap.size (Go.Lib.byteCells (ss.flatMap subE)) wr) := by
     have h := HBL.out
     rw [List.take_of_length_le (l := ss) (by rw [HLN.out]; omega)] at h
     exact h
    go_wp2_with fail
    refine (Tryz.B_String _ w1.heap.size _ wr HBE.out hwr).mono ?_
    rintro e w2 ⟨rfl, hb2⟩
    have HB2 := Lib.hid (HB.out.trans hb2)
    clear hb2
    go_wp2_with fail
    go_ret
    exact ⟨rfl, HB2.out⟩
end Go.Proofs.YtlicffeicmoifaaGreatDoor
