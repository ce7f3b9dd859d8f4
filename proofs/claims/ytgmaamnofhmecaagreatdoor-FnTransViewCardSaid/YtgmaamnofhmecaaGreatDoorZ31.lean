import Derived.Test.YtgmaamnofhmecaaGreatDoorZ29
import Derived.Test.YtgmaamnofhmecaaGreatDoorZ30
set_option linter.unusedSimpArgs false
namespace Go.Proofs.YtgmaamnofhmecaaGreatDoor
open Go.RowKit
set_option linter.unusedVariables false
def EvsOnly (l : List EvD) (w : World) (e : Ending) (w' : World) : Prop := ∃ v, e = .returned v ∧ EvsO w' w.heap.size v l ∧ Below w.heap.size w w'
def chgsOf (l : List EvD) : List ChgD := (l.filter turnsB).map chgOf
noncomputable def viewB (fs : List NodeD) (l : List EvD) : Int × List NodeD := doChangesB fs (chgsOf l)
theorem take_succQ {α : Type} [Inhabited α] (l : List α) (k : Nat) (h : k < l.length) : l.take (k + 1) = l.take k ++ [l.getD k default] := by
 rw [List.take_add_one, List.getD_eq_getElem?_getD, List.getElem?_eq_getElem h]
 rfl
theorem chgsOf_snoc (l : List EvD) (d : EvD) : chgsOf (l ++ [d]) = if turnsB d = true then chgsOf l ++ [chgOf d] else chgsOf l := by
 unfold chgsOf
 rw [List.filter_append, List.map_append]
 by_cases h : turnsB d = true
 · rw [if_pos h, List.filter_cons_of_pos h]; rfl
 · rw [if_neg h, List.filter_cons_of_neg h]; simp
theorem chgsOf_len (l : List EvD) : (chgsOf l).length ≤ l.length := by
 unfold chgsOf
 rw [List.length_map]
 exact List.length_filter_le _ _
theorem chgsOf_small {l : List EvD} (h : ∀ d ∈ l, d.small) : ∀ c ∈ chgsOf l, c.small := fun c hc => by
 unfold chgsOf at hc
 obtain ⟨d, hd, rfl⟩ := List.mem_map.1 hc
 exact chgOf_small (h d (List.mem_filter.1 hd).1)
set_option maxRecDepth 100000 in
set_option maxHeartbeats 8000000 in
theorem l25OwnAll_any (A : Option Addr) (n c : Nat) (l : List EvD) (w : World) (h : Evs w w.heap.size A n l) (hsm : smallEs l) :
 Calls Tryz.prog 87 #[.slice A n c] w (EvsOnly l w) := by
 obtain ⟨i0, hi, hz0, hz1, hz2⟩ := info_parts infoEvD
 have H := Lib.hid h
 have HL := Lib.hid h.1
 have hn : n ≤ 1048576 := by rw [← h.1]; exact hsm.1
 have HSM := Lib.hid hsm.2
 clear h hsm
 obtain ⟨WB, hWB⟩ : ∃ WB, WB = w.alloc (.cells #[] 55) := ⟨_, rfl⟩
 have HS0 : Hid (Own.OwnL evK WB w.heap.size 55 (.slice (some ⟨w.heap.size, 0, none⟩) 0 0) [] []) := by subst hWB; exact ⟨rfl, World.ownsRow_lit (e := 55) (size := 5) w #[] 0 (Nat.le_refl _) (by omega) rfl, fun j hj => by simp at hj, List.Pairwise.nil⟩
 have HB0 : Hid (Below w.heap.size w WB) := by subst hWB; exact Below.new _ _
 go_enter Tryz.func87, Tryz.ntmps87
 go_wp2_with fail
 rw [← hWB]
 clear hWB
 go_loopw [3, 4] (fun ov iv wr => ∃ (k : Nat) (us : List Value), k ≤ n ∧ iv = .int .i64 k ∧ Hid (Own.OwnL evK wr w.heap.size 55 ov (l.take k) us) ∧ Hid (Below w.heap.size w wr)) (fun _ iv _ => n - (intOf iv).toNat)
 case atStart => exact ⟨0, [], Nat.zero_le _, rfl, HS0.out, HB0.out⟩
 case round =>
  obtain ⟨k, us, hk, rfl, HO, HB⟩ := hrel
  clear HS0 HB0
  have hlk : (l.take k).length = k := by rw [List.length_take, HL.out]; omega
  obtain ⟨OA, oc, rfl, _, _⟩ := Own.own_slice HO.out.row
  generalize hok : (l.take k).length = ok at *
  have hlk' := hlk.symm
  subst hlk'
  have HLK := Lib.hid hok
  clear hok
  by_cases hlt : k < n
  · obtain ⟨b, o, rfl, hb', hc'⟩ := (H.out.later HB.out).2 (by omega)
    obtain ⟨c0, c1, c2, c3, c4, x0, x1, x2, x3, x4, hr⟩ := hc' k hlt
    obtain ⟨rfl, rfl, ⟨S1, m1, q1, rfl, hs1, hq1⟩, rfl, rfl⟩ := hr
    have HR : Hid (EvR wr wr.heap.size (.int .i64 (l.getD k default).kind) (.string (l.getD k default).name) (.slice S1 m1 q1) (.string (l.getD k default).val) (.int .i64 (l.getD k default).n) (l.getD k default)) := ⟨rfl, rfl, ⟨S1, m1, q1, rfl, hs1, hq1⟩, rfl, rfl⟩
    have hsd := (HSM.out _ (getD_memQ l k (by rw [HL.out]; exact hlt))).2.1.1
    have HTK := Lib.hid (take_succQ l k (by rw [HL.out]; exact hlt))
    generalize l.getD k default = d at *
    clear hc' hs1 hq1
    have hki : (k : Int) < (n : Int) := by omega
    have HKO := Lib.hid (l25Own_any _ _ _ _ _ d wr HR.out hsd)
    clear hsd HR
    go_wp2_with fail
    refine HKO.out.mono ?_
    rintro e w3 ⟨v, rfl, hsub, hb3⟩
    obtain ⟨SA, scap, rfl, _, _⟩ := Own.SubO.strs hsub
    have HO3 := Lib.hid (HO.out.later hb3)
    have HB3 := Lib.hid (HB.out.later hb3)
    have HSB : Hid (Own.SubO w3 w.heap.size (.slice SA d.subs.length scap) d.subs) := Own.own_base hsub (show w.heap.size ≤ wr.heap.size from HB.out.size)
    have HAP := Lib.hid (HO.out.fresh hsub (Nat.le_refl _))
    clear hsub hb3 HKO x0 x1 x2 x3 x4
    have HOWN : Hid ((w3.alloc (.cells #[.int .i64 d.kind, .string d.name, .slice SA d.subs.length scap, .string d.val, .int .i64 d.n] 55)).ownsRow w.heap.size 55 5 (.slice OA k oc) k (Own.flat evK (l.take k) us)) := by
     have h := Own.own_later HO3.out.row (Below.new _ (.cells #[.int .i64 d.kind, .string d.name, .slice SA d.subs.length scap, .string d.val, .int .i64 d.n] 55))
     rw [HLK.out] at h
     exact h
    have hbs : w.heap.size ≤ (w3.alloc (.cells #[.int .i64 d.kind, .string d.name, .slice SA d.subs.length scap, .string d.val, .int .i64 d.n] 55)).heap.size := by have := HB3.out.size; simp; omega
    go_wp2_with (at_builtin; refine wpList_append_own _ rfl (.tmp 12) (.tmp 18) 51 rfl w.heap.size 55 i0 _ 5 72 Tryz.underlying51 hi hz0 hz1 hz2 rfl (by decide) _ k _ rfl HOWN.out ⟨_, 0, none⟩ 1 1 ((#[.int .i64 d.kind, .string d.name, .slice SA d.subs.length scap, .string d.val, .int .i64 d.n] : Array Value).toList) rfl rfl ?c1a ?c2a ?c3a ?c4a ?c5a ?_)
    try (case c1a => exact cells_newG (cs := #[.int .i64 d.kind, .string d.name, .slice SA d.subs.length scap, .string d.val, .int .i64 d.n]) rfl)
    try (case c2a => simp [Value.oneCell'])
    try (case c3a => unfold maxLen; omega)
    try (case c4a => omega)
    try (case c5a => exact hbs)
    intro v5 w5 hown5 hg5 _
    have HN := Lib.hid (Own.OwnL.snoc (d := d) (HO3.out.later (Below.new _ (.cells #[.int .i64 d.kind, .string d.name, .slice SA d.subs.length scap, .string d.val, .int .i64 d.n] 55))) (sub_later HSB.out (Below.new _ (.cells #[.int .i64 d.kind, .string d.name, .slice SA d.subs.length scap, .string d.val, .int .i64 d.n] 55))) HAP.out (by rw [HLK.out]; exact hown5) hg5 (by decide))
    have HB5 := Lib.hid ((HB3.out.later (Below.new _ (.cells #[.int .i64 d.kind, .string d.name, .slice SA d.subs.length scap, .string d.val, .int .i64 d.n] 55))).grown hg5 hbs (fun g e => (HOWN.out.lt g e).1))
    clear hown5 hg5
    go_wp2_with fail
    go_roundw
    case rel => exact ⟨k + 1, _, by omega, by go_num, by rw [HTK.out]; exact HN.out, HB5.out⟩
    case measure => simp [intOf]; omega
  · obtain rfl : k = n := by omega
    have HE : Hid (l.take k = l) := List.take_of_length_le (by rw [HL.out]; exact Nat.le_refl _)
    have HOE := HO.out
    rw [HE.out] at HOE
    have hki : ¬ (k : Int) < (k : Int) := by omega
    go_wp2_with fail
    go_ret
    exact ⟨_, rfl, ⟨us, HOE⟩, HB.out⟩
set_option maxRecDepth 100000 in
set_option maxHeartbeats 8000000 in
theorem l25Changes_any (A : Option Addr) (n c : Nat) (l : List EvD) (w : World) (h : Evs w w.heap.size A n l) (hsm : smallEs l) :
 Calls Tryz.prog 90 #[.slice A n c] w (ChgsOnly (chgsOf l) w) := by
 obtain ⟨i0, hi, hz0, hz1, hz2⟩ := info_parts infoChgD
 have H := Lib.hid h
 have HL := Lib.hid h.1
 have hn : n ≤ 1048576 := by rw [← h.1]; exact hsm.1
 have HSM := Lib.hid hsm.2
 clear h hsm
 obtain ⟨WB, hWB⟩ : ∃ WB, WB = w.alloc (.cells #[] 88) := ⟨_, rfl⟩
 have HS0 : Hid (Own.OwnL chgK WB w.heap.size 88 (.slice (some ⟨w.heap.size, 0, none⟩) 0 0) [] []) := by subst hWB; exact ⟨rfl, World.ownsRow_lit (e := 88) (size := 4) w #[] 0 (Nat.le_refl _) (by omega) rfl, fun j hj => by simp at hj, List.Pairwise.nil⟩
 have HB0 : Hid (Below w.heap.size w WB) := by subst hWB; exact Below.new _ _
 go_enter Tryz.func90, Tryz.ntmps90
 go_wp2_with fail
 rw [← hWB]
 clear hWB
 go_loopw [3, 4] (fun ov iv wr => ∃ (k : Nat) (us : List Value), k ≤ n ∧ iv = .int .i64 k ∧ Hid (Own.OwnL chgK wr w.heap.size 88 ov (chgsOf (l.take k)) us) ∧ Hid (Below w.heap.size w wr)) (fun _ iv _ => n - (intOf iv).toNat)
 case atStart => exact ⟨0, [], Nat.zero_le _, rfl, HS0.out, HB0.out⟩
 case round =>
  obtain ⟨k, us, hk, rfl, HO, HB⟩ := hrel
  clear HS0 HB0
  have hlk : (chgsOf (l.take k)).length ≤ k := Nat.le_trans (chgsOf_len _) (by rw [List.length_take]; omega)
  obtain ⟨OA, oc, rfl, _, _⟩ := Own.own_slice HO.out.row
  generalize hok : (chgsOf (l.take k)).length = ok at *
  have HLK := Lib.hid hok
  clear hok
  by_cases hlt : k < n
  · obtain ⟨b, o, rfl, hb', hc'⟩ := (H.out.later HB.out).2 (by omega)
    obtain ⟨c0, c1, c2, c3, c4, x0, x1, x2, x3, x4, hr⟩ := hc' k hlt
    obtain ⟨rfl, rfl, ⟨S1, m1, q1, rfl, hs1, hq1⟩, rfl, rfl⟩ := hr
    have HR : Hid (EvR wr wr.heap.size (.int .i64 (l.getD k default).kind) (.string (l.getD k default).name) (.slice S1 m1 q1) (.string (l.getD k default).val) (.int .i64 (l.getD k default).n) (l.getD k default)) := ⟨rfl, rfl, ⟨S1, m1, q1, rfl, hs1, hq1⟩, rfl, rfl⟩
    have hsd := (HSM.out _ (getD_memQ l k (by rw [HL.out]; exact hlt))).2.1.1
    have HTK := Lib.hid (take_succQ l k (by rw [HL.out]; exact hlt))
    generalize l.getD k default = d at *
    clear hc' hs1 hq1
    have hki : (k : Int) < (n : Int) := by omega
    have HKT := Lib.hid (specTurnsOf_any _ _ _ _ _ d wr HR.out)
    have HKO := Lib.hid (fun W (hW : Below wr.heap.size wr W) => l25Change_any _ _ _ _ _ d W (HR.out.later hW) hsd)
    clear hsd HR
    go_wp2_with fail
    refine HKT.out.mono ?_
    rintro e w2 ⟨rfl, hb2⟩
    have HB2 := Lib.hid hb2
    have y0 := cell_later hb2 x0
    have y1 := cell_later hb2 x1
    have y2 := cell_later hb2 x2
    have y3 := cell_later hb2 x3
    have y4 := cell_later hb2 x4
    clear hb2 HKT x0 x1 x2 x3 x4
    have HSN := Lib.hid (chgsOf_snoc (l.take k) d)
    generalize turnsB d = tb at *
    cases tb
    · have HN2 : Hid (chgsOf (l.take (k + 1)) = chgsOf (l.take k)) := by unfold Hid; rw [HTK.out, HSN.out]; rfl
      go_wp2_with fail
      go_roundw
      case rel => exact ⟨k + 1, us, by omega, by go_num, by rw [HN2.out]; exact HO.out.later HB2.out, HB.out.later HB2.out⟩
      case measure => simp [intOf]; omega
    · have HN2 : Hid (chgsOf (l.take (k + 1)) = chgsOf (l.take k) ++ [chgOf d]) := by unfold Hid; rw [HTK.out, HSN.out]; rfl
      go_wp2_with fail
      refine (HKO.out _ HB2.out).mono ?_
      rintro e w3 ⟨v, rfl, hsub, hb3⟩
      obtain ⟨SA, scap, rfl, _, _⟩ := Own.SubO.strs hsub
      have HO3 := Lib.hid (HO.out.later (HB2.out.later hb3))
      have HB3 := Lib.hid (HB.out.later (HB2.out.later hb3))
      have HSB : Hid (Own.SubO w3 w.heap.size (.slice SA (chgOf d).subs.length scap) (chgOf d).subs) := Own.own_base hsub (show w.heap.size ≤ w2.heap.size from Nat.le_trans HB.out.size HB2.out.size)
      have HAP := Lib.hid (HO.out.fresh hsub HB2.out.size)
      clear hsub hb3 HKO y0 y1 y2 y3 y4
      have HOWN : Hid ((w3.alloc (.cells #[.int .i64 (chgOf d).kind, .string (chgOf d).name, .slice SA (chgOf d).subs.length scap, .string (chgOf d).val] 88)).ownsRow w.heap.size 88 4 (.slice OA ok oc) ok (Own.flat chgK (chgsOf (l.take k)) us)) := by
       have h := Own.own_later HO3.out.row (Below.new _ (.cells #[.int .i64 (chgOf d).kind, .string (chgOf d).name, .slice SA (chgOf d).subs.length scap, .string (chgOf d).val] 88))
       rw [HLK.out] at h
       exact h
      have hbs : w.heap.size ≤ (w3.alloc (.cells #[.int .i64 (chgOf d).kind, .string (chgOf d).name, .slice SA (chgOf d).subs.length scap, .string (chgOf d).val] 88)).heap.size := by have := HB3.out.size; simp; omega
      go_wp2_with (at_builtin; refine wpList_append_own _ rfl (.tmp 17) (.tmp 23) 34 rfl w.heap.size 88 i0 _ 4 64 Tryz.underlying34 hi hz0 hz1 hz2 rfl (by decide) _ ok _ rfl HOWN.out ⟨_, 0, none⟩ 1 1 ((#[.int .i64 (chgOf d).kind, .string (chgOf d).name, .slice SA (chgOf d).subs.length scap, .string (chgOf d).val] : Array Value).toList) rfl rfl ?c1b ?c2b ?c3b ?c4b ?c5b ?_)
      try (case c1b => exact cells_newG (cs := #[.int .i64 (chgOf d).kind, .string (chgOf d).name, .slice SA (chgOf d).subs.length scap, .string (chgOf d).val]) rfl)
      try (case c2b => simp [Value.oneCell'])
      try (case c3b => unfold maxLen; omega)
      try (case c4b => omega)
      try (case c5b => exact hbs)
      intro v5 w5 hown5 hg5 _
      have HN := Lib.hid (Own.OwnL.snoc (d := (chgOf d)) (HO3.out.later (Below.new _ (.cells #[.int .i64 (chgOf d).kind, .string (chgOf d).name, .slice SA (chgOf d).subs.length scap, .string (chgOf d).val] 88))) (sub_later HSB.out (Below.new _ (.cells #[.int .i64 (chgOf d).kind, .string (chgOf d).name, .slice SA (chgOf d).subs.length scap, .string (chgOf d).val] 88))) HAP.out (by rw [HLK.out]; exact hown5) hg5 (by decide))
      have HB5 := Lib.hid ((HB3.out.later (Below.new _ (.cells #[.int .i64 (chgOf d).kind, .string (chgOf d).name, .slice SA (chgOf d).subs.length scap, .string (chgOf d).val] 88))).grown hg5 hbs (fun g e => (HOWN.out.lt g e).1))
      clear hown5 hg5
      go_wp2_with fail
      go_roundw
      case rel => exact ⟨k + 1, _, by omega, by go_num, by rw [HN2.out]; exact HN.out, HB5.out⟩
      case measure => simp [intOf]; omega
  · obtain rfl : k = n := by omega
    have HE : Hid (l.take k = l) := List.take_of_length_le (by rw [HL.out]; exact Nat.le_refl _)
    have HOE := HO.out
    rw [HE.out] at HOE
    have hki : ¬ (k : Int) < (k : Int) := by omega
    go_wp2_with fail
    go_ret
    exact ⟨_, rfl, ⟨us, HOE⟩, HB.out⟩
end Go.Proofs.YtgmaamnofhmecaaGreatDoor
namespace Go.Proofs.YtgmaamnofhmecaaGreatDoor
open Go.RowKit
set_option linter.unusedVariables false
set_option linter.unusedSimpArgs false
structure TransD where
 depth : Int
 rest : Int
 evs : List EvD
deriving Inhabited
noncomputable def transB (x : TransD) : Bool := (decide (0 ≤ x.depth) && decide (x.depth ≤ 3)) && ((decide (0 ≤ x.rest) && decide (x.rest ≤ 4)) && notesB x.evs) && (decide (0 < x.depth) || (decide (x.rest = 0) && decide (x.evs.length = 0)))
set_option maxRecDepth 100000 in
set_option maxHeartbeats 4000000 in
theorem l25View_any (A : Option Addr) (n c : Nat) (L : Option Addr) (m q : Nat) (fs : List NodeD) (l : List EvD) (w : World) (hN : Nodes w w.heap.size A n fs) (hs : smallNs fs) (hL : Evs w w.heap.size L m l) (hsm : smallEs l) :
 Calls Tryz.prog 97 #[.agg #[.slice A n c], .slice L m q] w (TreePost (viewB fs l) w) := by
 have hlen := chgsOf_len l
 have HKC := Lib.hid (fun W (hW : Below w.heap.size w W) => l25Changes_any L m q l W (hL.later hW) hsm)
 have HKD := Lib.hid (fun L2 m2 q2 W (hW : Below w.heap.size w W) (hr : Chgs W W.heap.size L2 m2 (chgsOf l)) => DoChanges_any A n c L2 m2 q2 fs (chgsOf l) W (hN.later hW) hs hr (by rw [← hr.1]; exact Nat.le_trans hlen hsm.1) (chgsOf_small hsm.2))
 have HVB : Hid (viewB fs l = doChangesB fs (chgsOf l)) := rfl
 clear hN hs hL hsm hlen
 generalize hcl : chgsOf l = cl at *
 rw [← HVB.out] at HKD
 generalize viewB fs l = PB at *
 obtain ⟨code, gs⟩ := PB
 obtain ⟨WB, hWB⟩ : ∃ WB, WB = (w.alloc (.cells #[.slice A n c] 26)).alloc (.cells #[.slice none 0 0] 26) := ⟨_, rfl⟩
 have HB0 : Hid (Below w.heap.size w WB) := by subst hWB; exact (Below.new _ _).later (Below.new _ _)
 have HTT : Hid (Blk WB w.heap.size 26 #[.slice A n c]) := by subst hWB; exact heap_two0 _ _ _
 have HYY : Hid (Blk WB (w.heap.size + 1) 26 #[.slice none 0 0]) := by subst hWB; exact heap_two1 _ _ _
 have HS : Hid (∀ W, Below WB.heap.size WB W → W.cell? ⟨w.heap.size, 0, none⟩ = some (.slice A n c)) := fun W hW => (HTT.out.later hW HTT.out.lt).at 0 rfl
 have hne0 : w.heap.size ≠ w.heap.size + 1 := by omega
 have hne1 : ¬ w.heap.size + 1 = w.heap.size := by omega
 have hwb := HYY.out.lt
 have q5 := HS.out _ (Below.refl _ _)
 clear HVB hcl
 go_enter Tryz.func97, Tryz.ntmps97
 go_wp2_with fail
 rw [← hWB]
 clear hWB
 go_region_held3 (fun W => W.cell? ⟨w.heap.size, 0, none⟩ = some (.slice A n c))
  (first | exact HS.out _ (Below.refl _ _).drew | exact HS.out _ HB1.out | exact HS.out _ HB2.out | exact cell_far2 (by simp) (HS.out _ HB2.out) | go_keep)
  (first
    | (go_at_call 90
       refine (HKC.out _ (by exact HB0.out.drew)).mono ?_
       rintro e w1 ⟨v1, rfl, ho1', hb1'⟩
       have HB1 := Lib.hid (undrew hb1')
       obtain ⟨A1, q1x, rfl, _, hr1⟩ := ho1'.reads
       have HCR := Lib.hid hr1
       clear hb1' ho1' hr1)
    | (go_at_call 16
       refine (HKD.out _ _ _ _ (HB0.out.later HB1.out) HCR.out).mono ?_
       rintro e w2 ⟨v2, rfl, hN2, hb2⟩
       have HB2 := Lib.hid (HB1.out.later hb2)
       obtain ⟨A2, cap2, rfl, _, _⟩ := hN2.reads
       have HN2 := Lib.hid (hN2.base (by have := HB1.out.size; omega : w.heap.size ≤ _))
       have HY2 := Lib.hid (HYY.out.later HB2.out HYY.out.lt)
       have y0 := HY2.out.cell 0
       have yf := HY2.out.frozen 0
       have yz := HY2.out.lt
       simp at y0
       clear hb2 hN2))
 go_wp2_with fail
 refine bodyPost_ret (v := .tuple #[.agg #[.slice A2 _ cap2], .int .i64 _]) (by simp [results, Tryz.results97, go_sem, y0]; try first | exact rfl | exact ⟨rfl, rfl⟩) rfl ?_
 exact ⟨_, rfl, HN2.out.setBlk HY2.out (by decide) (by decide), (HB0.out.later HB2.out).setCell (show w.heap.size ≤ w.heap.size + 1 by omega) _⟩
set_option maxRecDepth 100000 in
set_option maxHeartbeats 8000000 in
theorem specTransOk_any (dp rs : Int) (L : Option Addr) (m q : Nat) (l : List EvD) (w : World) (hL : Evs w w.heap.size L m l) (hok : okEs l) :
 Calls Tryz.prog 29 #[.agg #[.int .i64 dp, .int .i64 rs, .slice L m q]] w fun e w' => e = .returned (.bool (transB ⟨dp, rs, l⟩)) ∧ Below w.heap.size w w' := by
 obtain ⟨WB, hWB⟩ : ∃ WB, WB = w.alloc (.cells #[.int .i64 dp, .int .i64 rs, .slice L m q] 58) := ⟨_, rfl⟩
 have HB0 : Hid (Below w.heap.size w WB) := by subst hWB; exact Below.new _ _
 have HQ : Hid (Blk WB w.heap.size 58 #[.int .i64 dp, .int .i64 rs, .slice L m q]) := by subst hWB; exact heap_alloc_new _ _
 have HK1 := Lib.hid (l00In_any dp 0 3 WB)
 have HK2 := Lib.hid (l00In_any rs 0 4 WB)
 have HK3 := Lib.hid (l25Notes_any L m q l WB (hL.later HB0.out) hok)
 have q0 := HQ.out.cell 0
 have q1 := HQ.out.cell 1
 have q2 := HQ.out.cell 2
 simp at q0 q1 q2
 have HLM : Hid (l.length = m) := hL.1
 have HT : Hid (transB ⟨dp, rs, l⟩ = ((decide (0 ≤ dp) && decide (dp ≤ 3)) && ((decide (0 ≤ rs) && decide (rs ≤ 4)) && notesB l) && (decide (0 < dp) || (decide (rs = 0) && decide (l.length = 0))))) := rfl
 generalize transB ⟨dp, rs, l⟩ = R at *
 clear hL hok
 by_cases h1 : (decide (0 ≤ dp) && decide (dp ≤ 3)) = true
 case neg =>
  rw [Bool.not_eq_true] at h1
  rw [h1] at HT
  unfold inB at HK1 HK2
  rw [h1] at HK1
  go_enter Tryz.func29, Tryz.ntmps29
  go_wp2_with fail
  rw [← hWB]
  clear hWB
  refine HK1.out.mono ?_
  rintro e w1 ⟨rfl, rfl⟩
  go_wp2_with fail
  go_ret
  exact ⟨ret_bool (by rw [HT.out]; rfl), HB0.out⟩
 by_cases h2 : (decide (0 ≤ rs) && decide (rs ≤ 4)) = true
 case neg =>
  rw [Bool.not_eq_true] at h2
  rw [h1, h2] at HT
  unfold inB at HK1 HK2
  rw [h1] at HK1
  rw [h2] at HK2
  go_enter Tryz.func29, Tryz.ntmps29
  go_wp2_with fail
  rw [← hWB]
  clear hWB
  refine HK1.out.mono ?_
  rintro e w1 ⟨rfl, rfl⟩
  go_wp2_with fail
  refine HK2.out.mono ?_
  rintro e w1 ⟨rfl, rfl⟩
  go_wp2_with fail
  go_ret
  exact ⟨ret_bool (by rw [HT.out]; rfl), HB0.out⟩
 rw [h1, h2] at HT
 unfold inB at HK1 HK2
 rw [h1] at HK1
 rw [h2] at HK2
 simp only [Bool.and_eq_true, decide_eq_true_eq] at h1 h2
 obtain ⟨h1, h1'⟩ := h1
 obtain ⟨h2, h2'⟩ := h2
 have HSC : Hid (∀ W, Below WB.heap.size WB W → W.cell? ⟨w.heap.size, 0, none⟩ = some (.int .i64 dp) ∧ W.cell? ⟨w.heap.size, 1, none⟩ = some (.int .i64 rs) ∧ W.cell? ⟨w.heap.size, 2, none⟩ = some (.slice L m q)) := fun W hW => ⟨cell_later hW q0, cell_later hW q1, cell_later hW q2⟩
 generalize notesB l = nb at *
 go_enter Tryz.func29, Tryz.ntmps29
 go_wp2_with fail
 rw [← hWB]
 clear hWB
 refine HK1.out.mono ?_
 rintro e w1 ⟨rfl, rfl⟩
 go_wp2_with fail
 refine HK2.out.mono ?_
 rintro e w1 ⟨rfl, rfl⟩
 go_wp2_with fail
 refine HK3.out.mono ?_
 rintro e w3 ⟨rfl, hb3⟩
 have HB3 := Lib.hid hb3
 clear hb3 q0 q1 q2
 obtain ⟨q0, q1, q2⟩ := HSC.out _ HB3.out
 cases nb
 · go_wp2_with fail
   go_ret
   exact ⟨ret_bool (by rw [HT.out]; rfl), HB0.out.later HB3.out⟩
 · by_cases h3 : 0 < dp
   · go_wp2_with fail
     go_ret
     exact ⟨ret_bool (by rw [HT.out, decide_eq_true h3]; rfl), HB0.out.later HB3.out⟩
   · have hd0 : dp = 0 := by omega
     subst hd0
     by_cases h4 : rs = 0
     · subst h4
       by_cases h5 : m = 0
       · have h5' : (m : Int) = 0 := by omega
         go_wp2_with fail
         go_ret
         exact ⟨ret_bool (by rw [HT.out, HLM.out, decide_eq_true h5]; simp), HB0.out.later HB3.out⟩
       · have h5' : ¬ (m : Int) = 0 := by omega
         have h5b : ((m : Int) == 0) = false := beq_eq_false_iff_ne.2 h5'
         go_wp2_with fail
         go_ret
         exact ⟨ret_bool (by rw [HT.out, HLM.out, decide_eq_false h5]; simp; try omega), HB0.out.later HB3.out⟩
     · have h4b : (rs == (0 : Int)) = false := beq_eq_false_iff_ne.2 h4
       go_wp2_with fail
       go_ret
       exact ⟨ret_bool (by rw [HT.out, decide_eq_false h4]; simp), HB0.out.later HB3.out⟩
set_option maxRecDepth 100000 in
set_option maxHeartbeats 8000000 in
theorem TransOk_any (dp rs : Int) (L : Option Addr) (m q : Nat) (l : List EvD) (w : World) (htab : tabT w) (hL : Evs w w.heap.size L m l) (hok : okEs l) :
 Calls Tryz.prog 84 #[.agg #[.int .i64 dp, .int .i64 rs, .slice L m q]] w fun e w' => e = .returned (.bool (transB ⟨dp, rs, l⟩)) ∧ Below w.heap.size w w' := by
 obtain ⟨WB, hWB⟩ : ∃ WB, WB = w.alloc (.cells #[.int .i64 dp, .int .i64 rs, .slice L m q] 58) := ⟨_, rfl⟩
 have HB0 : Hid (Below w.heap.size w WB) := by subst hWB; exact Below.new _ _
 have HQ : Hid (Blk WB w.heap.size 58 #[.int .i64 dp, .int .i64 rs, .slice L m q]) := by subst hWB; exact heap_alloc_new _ _
 have HK1 := Lib.hid (within_any dp 0 3 WB)
 have HK2 := Lib.hid (within_any rs 0 4 WB)
 have HK3 := Lib.hid (notesOk_any L m q l WB (tab_later htab HB0.out) (hL.later HB0.out) hok)
 have q0 := HQ.out.cell 0
 have q1 := HQ.out.cell 1
 have q2 := HQ.out.cell 2
 simp at q0 q1 q2
 have HLM : Hid (l.length = m) := hL.1
 have HT : Hid (transB ⟨dp, rs, l⟩ = ((decide (0 ≤ dp) && decide (dp ≤ 3)) && ((decide (0 ≤ rs) && decide (rs ≤ 4)) && notesB l) && (decide (0 < dp) || (decide (rs = 0) && decide (l.length = 0))))) := rfl
 generalize transB ⟨dp, rs, l⟩ = R at *
 clear hL hok htab
 by_cases h1 : (decide (0 ≤ dp) && decide (dp ≤ 3)) = true
 case neg =>
  rw [Bool.not_eq_true] at h1
  rw [h1] at HT
  unfold inB at HK1 HK2
  rw [h1] at HK1
  go_enter Tryz.func84, Tryz.ntmps84
  go_wp2_with fail
  rw [← hWB]
  clear hWB
  refine HK1.out.mono ?_
  rintro e w1 ⟨rfl, rfl⟩
  go_wp2_with fail
  go_ret
  exact ⟨ret_bool (by rw [HT.out]; rfl), HB0.out⟩
 by_cases h2 : (decide (0 ≤ rs) && decide (rs ≤ 4)) = true
 case neg =>
  rw [Bool.not_eq_true] at h2
  rw [h1, h2] at HT
  unfold inB at HK1 HK2
  rw [h1] at HK1
  rw [h2] at HK2
  go_enter Tryz.func84, Tryz.ntmps84
  go_wp2_with fail
  rw [← hWB]
  clear hWB
  refine HK1.out.mono ?_
  rintro e w1 ⟨rfl, rfl⟩
  go_wp2_with fail
  refine HK2.out.mono ?_
  rintro e w1 ⟨rfl, rfl⟩
  go_wp2_with fail
  go_ret
  exact ⟨ret_bool (by rw [HT.out]; rfl), HB0.out⟩
 rw [h1, h2] at HT
 unfold inB at HK1 HK2
 rw [h1] at HK1
 rw [h2] at HK2
 simp only [Bool.and_eq_true, decide_eq_true_eq] at h1 h2
 obtain ⟨h1, h1'⟩ := h1
 obtain ⟨h2, h2'⟩ := h2
 have HSC : Hid (∀ W, Below WB.heap.size WB W → W.cell? ⟨w.heap.size, 0, none⟩ = some (.int .i64 dp) ∧ W.cell? ⟨w.heap.size, 1, none⟩ = some (.int .i64 rs) ∧ W.cell? ⟨w.heap.size, 2, none⟩ = some (.slice L m q)) := fun W hW => ⟨cell_later hW q0, cell_later hW q1, cell_later hW q2⟩
 generalize notesB l = nb at *
 go_enter Tryz.func84, Tryz.ntmps84
 go_wp2_with fail
 rw [← hWB]
 clear hWB
 refine HK1.out.mono ?_
 rintro e w1 ⟨rfl, rfl⟩
 go_wp2_with fail
 refine HK2.out.mono ?_
 rintro e w1 ⟨rfl, rfl⟩
 go_wp2_with fail
 refine HK3.out.mono ?_
 rintro e w3 ⟨rfl, hb3⟩
 have HB3 := Lib.hid hb3
 clear hb3 q0 q1 q2
 obtain ⟨q0, q1, q2⟩ := HSC.out _ HB3.out
 cases nb
 · go_wp2_with fail
   go_ret
   exact ⟨ret_bool (by rw [HT.out]; rfl), HB0.out.later HB3.out⟩
 · by_cases h3 : 0 < dp
   · go_wp2_with fail
     go_ret
     exact ⟨ret_bool (by rw [HT.out, decide_eq_true h3]; rfl), HB0.out.later HB3.out⟩
   · have hd0 : dp = 0 := by omega
     subst hd0
     by_cases h4 : rs = 0
     · subst h4
       by_cases h5 : m = 0
       · have h5' : (m : Int) = 0 := by omega
         go_wp2_with fail
         go_ret
         exact ⟨ret_bool (by rw [HT.out, HLM.out, decide_eq_true h5]; simp), HB0.out.later HB3.out⟩
       · have h5' : ¬ (m : Int) = 0 := by omega
         have h5b : ((m : Int) == 0) = false := beq_eq_false_iff_ne.2 h5'
         go_wp2_with fail
         go_ret
         exact ⟨ret_bool (by rw [HT.out, HLM.out, decide_eq_false h5]; simp; try omega), HB0.out.later HB3.out⟩
     · have h4b : (rs == (0 : Int)) = false := beq_eq_false_iff_ne.2 h4
       go_wp2_with fail
       go_ret
       exact ⟨ret_bool (by rw [HT.out, decide_eq_false h4]; simp), HB0.out.later HB3.out⟩
end Go.Proofs.YtgmaamnofhmecaaGreatDoor
