import Derived.Test.YtlicffeicmoifaaGreatDoorZ27
set_option linter.unusedSimpArgs false
namespace Go.Proofs.YtlicffeicmoifaaGreatDoor
open Go.RowKit
set_option linter.unusedVariables false
theorem putN_len (fs : List NodeD) (nm : ByteArray) (ss : List ByteArray) (v : ByteArray) : (putN fs nm ss v).length ≤ fs.length + 1 := by
 have := atN_le fs nm ss
 unfold putN
 rw [List.length_append, List.length_cons, List.length_take, List.length_drop]
 split <;> omega
theorem putNode_len {fs : List NodeD} {nm : ByteArray} {ss : List ByteArray} {v : ByteArray} : (putNodeB fs nm ss v).2.length ≤ fs.length + 1 := by
 have := putN_len fs nm ss v
 unfold putNodeB putB
 repeat (first | assumption | split | simp | omega)
structure TrN (p N K : Nat) (w : World) (q r : Nat) (v : Value) (fs : List NodeD) (X : World) : Prop where
 base : TrS p K w q r v fs X
 cln : fineT fs ∧ fs.length ≤ N
section
variable {p N N' K K' q r : Nat} {w X Y : World} {v : Value} {fs : List NodeD}
theorem TrN.own (s : TrN p N K w q r v fs X) : NodesO X w.heap.size v fs := s.base.own
theorem TrN.tree (s : TrN p N K w q r v fs X) : treeB fs = true := s.base.tree
theorem TrN.box (s : TrN p N K w q r v fs X) : Blk X q 26 #[v] := s.base.box
theorem TrN.res (s : TrN p N K w q r v fs X) : Blk X r 26 #[.slice none 0 0] := s.base.res
theorem TrN.draw (s : TrN p N K w q r v fs X) : Drawn p K w X := s.base.draw
theorem TrN.later (s : TrN p N K w q r v fs X) (hb : Below X.heap.size X Y) : TrN p N K w q r v fs Y := ⟨s.base.later hb, s.cln⟩
theorem TrN.drawn (s : TrN p N K w q r v fs X) (hd : Drawn p K' X Y) (hq : q ≠ p) (hr : r ≠ p) : TrN p N K' w q r v fs Y := ⟨s.base.drawn hd hq hr, s.cln⟩
theorem TrN.mono (s : TrN p N K w q r v fs X) (hK : K ≤ K') : TrN p N K' w q r v fs X := ⟨s.base.mono hK, s.cln⟩
theorem TrN.monoN (s : TrN p N K w q r v fs X) (hN : N ≤ N') : TrN p N' K w q r v fs X := ⟨s.base, s.cln.1, Nat.le_trans s.cln.2 hN⟩
theorem TrN.put (s : TrN p N K w q r v fs X) {v2 : Value} {fs2 : List NodeD} (h : NodesO X w.heap.size v2 fs2) (ht : treeB fs2 = true ∧ fineT fs2 ∧ fs2.length ≤ N') (hrq : r ≠ q) (hpw : p < w.heap.size) (hq : w.heap.size ≤ q) : TrN p N' K w q r v2 fs2 (X.setCell ⟨q, 0, none⟩ v2) := ⟨s.base.put h ht.1 hrq hpw hq, ht.2⟩
theorem TrN.side (s : TrN p N K w q r v fs X) {b : Nat} {u : Value} {cs : Array Value} (hb : Blk X b 26 cs) (hqb : q ≠ b) (hrb : r ≠ b) (hpw : p < w.heap.size) (hwb : w.heap.size ≤ b) : TrN p N K w q r v fs (X.setCell ⟨b, 0, none⟩ u) := ⟨s.base.side hb hqb hrb hpw hwb, s.cln⟩
end
def DTreeN (p K : Nat) (w : World) (e : Ending) (w' : World) : Prop := ∃ v fs, e = .returned (.agg #[v]) ∧ NodesO w' w.heap.size v fs ∧ treeB fs = true ∧ fineT fs ∧ fs.length ≤ 7 ∧ Drawn p K w w'
set_option maxRecDepth 100000 in
set_option maxHeartbeats 40000000 in
theorem l25DrawN_any (p K : Nat) (w : World) (h : SrcR w p K) (hK : K ≤ 137438953472) :
 Calls Tryz.prog 34 #[.pointer (some ⟨p, 0, none⟩)] w (DTreeN p (K + 100) w) := by
 obtain ⟨i0, hi, hz0, hz1, hz2⟩ := info_parts infoS
 have hpw := h.lt
 obtain ⟨WB, hWB⟩ : ∃ WB, WB = (w.alloc (.cells #[.slice none 0 0] 26)).alloc (.cells #[.slice none 0 0] 26) := ⟨_, rfl⟩
 have HS0 : Hid (TrN p 0 K w (w.heap.size + 1) w.heap.size (.slice none 0 0) [] WB) := by
  subst hWB
  exact ⟨⟨nodesO_nil _ _, tree_nil, heap_two1 _ _ _, heap_two0 _ _ _, (Drawn.refl h).later ((Below.new _ _).later (Below.new _ _))⟩, ⟨(fun d hd => by cases hd), Nat.le_refl _⟩⟩
 have HK1 := Lib.hid (pick_any p K 8 WB HS0.out.draw.src (by omega) (by omega))
 clear h
 go_enter Tryz.func34, Tryz.ntmps34
 go_wp2_with fail
 rw [← hWB]
 clear hWB
 refine HK1.out.mono ?_
 rintro e w1 ⟨x, rfl, hx, hd1⟩
 have HS1 := Lib.hid (HS0.out.drawn hd1 (by omega) (by omega))
 have hx7 : x ≤ 7 := by omega
 clear hd1 HS0 HK1 hx
 go_wp2_with fail
 go_loopw [4] (fun kv wr => ∃ (k : Nat) (v : Value) (fs : List NodeD), kv = .int .i64 k ∧ k ≤ 7 ∧ Hid (TrN p (7 - k) (K + 2 + 12 * (7 - k)) w (w.heap.size + 1) w.heap.size v fs wr)) (fun kv _ => (intOf kv).toNat)
 case atStart => exact ⟨x, _, [], rfl, hx7, (HS1.out.monoN (by omega)).mono (by omega)⟩
 case round =>
  obtain ⟨k, v, fs, rfl, hk, HS⟩ := hrel
  clear HS1
  obtain ⟨wo, hwo⟩ : ∃ wo, wo = wr := ⟨_, rfl⟩
  subst hwo
  obtain ⟨A, cap, rfl, hcap, _⟩ := HS.out.own.reads
  generalize hKK : K + 2 + 12 * (7 - k) = KK at *
  have hwo := HS.out.draw.chg.size
  have hpo : p < wo.heap.size := HS.out.draw.lt
  have hqo := HS.out.box.lt
  by_cases hk0 : 0 < k
  · have hkB : KK + 12 ≤ K + 2 + 12 * (7 - (k - 1)) := by omega
    have hKb : KK ≤ 137438953600 := by omega
    clear hKK
    obtain ⟨WX, hWX⟩ : ∃ WX, WX = wo.alloc (.cells #[] 9) := ⟨_, rfl⟩
    have HDX : Hid (Drawn p KK wo WX) := by subst hWX; exact (Drawn.refl HS.out.draw.src).later (Below.new _ _)
    have HUX : Hid (Own.SubO WX wo.heap.size (.slice (some ⟨wo.heap.size, 0, none⟩) 0 0) []) := by subst hWX; exact sub_lit2 [] _ rfl (Nat.le_refl _) rfl (by decide) rfl
    have HK2 := Lib.hid (pick_any p KK 3 WX HDX.out.src (by omega) (by omega))
    go_wp2_with fail
    rw [← hWX]
    clear hWX
    refine HK2.out.mono ?_
    rintro e w2 ⟨y, rfl, hy, hd2⟩
    have HD2 := Lib.hid (HDX.out.trans hd2)
    have HU2 := Lib.hid (SubO.drawn HUX.out HDX.out.src hd2)
    have hy2 : y ≤ 2 := by omega
    clear hd2 HDX HUX HK2 hy
    go_wp2_with fail
    go_loopw [5, 6] (fun sv jv wx => ∃ (j : Nat) (ss : List ByteArray), jv = .int .i64 j ∧ j + ss.length ≤ 2 ∧ Hid (Own.SubO wx wo.heap.size sv ss) ∧ Hid (Drawn p (KK + 2 + 2 * ss.length) wo wx) ∧ Hid (∀ s ∈ ss, s.size ≤ 16 ∧ fineS s)) (fun _ jv _ => (intOf jv).toNat)
    case atStart => exact ⟨y, [], rfl, by simpa using hy2, HU2.out, HD2.out.mono (by simp), fun s hs => by cases hs⟩
    case round =>
     obtain ⟨j, ss, rfl, hj, HU, HD, HZ⟩ := hrel
     clear HD2 HU2
     generalize hm : ss.length = m at *
     have HM := Lib.hid hm
     clear hm
     have hwr := HD.out.chg.size
     by_cases hj0 : 0 < j
     · have HK3 := Lib.hid (l25SubC_any p (KK + 2 + 2 * m) wr HD.out.src (by omega))
       go_wp2_with fail
       refine HK3.out.mono ?_
       rintro e w3 ⟨t, rfl, ht, hd3⟩
       have HD3 := Lib.hid (HD.out.trans hd3)
       have HU3 := Lib.hid (SubO.drawn HU.out HD.out.src hd3)
       have HTS := Lib.hid ht
       clear hd3 ht HK3
       have hw3 := HD3.out.chg.size
       have HRW : Hid (∀ o, (w3.alloc o).ownsRow wo.heap.size 9 1 u5 m (ss.map Value.string)) := fun o => by
        have h := Own.own_later HU3.out (Below.new w3 o)
        rw [HM.out] at h
        exact h
       go_wp2_with (at_builtin; refine wpList_append_own _ rfl (.tmp 23) (.tmp 26) 35 rfl wo.heap.size 9 i0 _ 1 16 Tryz.underlying35 hi hz0 hz1 hz2 rfl (by decide) _ m _ rfl (HRW.out _) ⟨_, 0, none⟩ 1 1 [.string t] rfl rfl ?c1 ?c2 ?c3 ?c4 ?c5 ?_)
       case c1 => exact cell_one_new _ _ _
       case c2 => simp [Value.oneCell']
       case c3 => unfold maxLen; omega
       case c4 => omega
       case c5 => simp; omega
       intro v4 w4 hown4 hg4 _
       have HU4 := Lib.hid (sub_appv hown4 (by rw [HM.out]))
       have HD4 := Lib.hid ((HD3.out.later (Below.new _ _)).grown hg4 (fun g hg => ((HRW.out (.cells #[] 0)).lt g hg).1) hpo)
       have HL4 : Hid ((ss ++ [t]).length = m + 1) := by unfold Hid; rw [List.length_append, HM.out]; rfl
       clear hown4 hg4
       go_wp2_with fail
       go_roundw
       case rel => exact ⟨j - 1, ss ++ [t], by go_num, by rw [HL4.out]; omega, HU4.out, HD4.out.mono (by rw [HL4.out]; omega), all_appP HZ.out HTS.out⟩
       case measure => simp [intOf]; omega
     · obtain rfl : j = 0 := by omega
       have hm2 : m ≤ 2 := by omega
       obtain ⟨S0, sq, e5, hsq, _⟩ := Own.SubO.strs HU.out
       rw [HM.out] at e5 hsq
       subst e5
       have HQC : Hid (∀ W, DrW p wo W → W.cell? ⟨w.heap.size + 1, 0, none⟩ = some (.slice A fs.length cap)) := fun W hd => by
        obtain ⟨K', hd⟩ := hd
        exact ((HS.out.drawn hd (by omega) (by omega)).box.cell 0).trans rfl
       have HKT1 := Lib.hid (fun W g0 (hd : Drawn p (KK + 2 + 2 * m) wo W) (h2 : Strs W W.heap.size (some ⟨g0, 0, none⟩) 3 [⟨#[65]⟩, ⟨#[65]⟩, ⟨#[66]⟩]) => text_any p (KK + 2 + 2 * m) (some ⟨g0, 0, none⟩) 3 3 [⟨#[65]⟩, ⟨#[65]⟩, ⟨#[66]⟩] W hd.src (by omega) h2 (by omega) (by omega))
       have HKT2 := Lib.hid (fun W g0 (hd : Drawn p ((KK + 2 + 2 * m) + 2) wo W) (h2 : Strs W W.heap.size (some ⟨g0, 0, none⟩) 4 [⟨#[]⟩, ⟨#[49]⟩, ⟨#[116, 119, 111]⟩, ⟨#[51, 46, 53]⟩]) => text_any p ((KK + 2 + 2 * m) + 2) (some ⟨g0, 0, none⟩) 4 4 [⟨#[]⟩, ⟨#[49]⟩, ⟨#[116, 119, 111]⟩, ⟨#[51, 46, 53]⟩] W hd.src (by omega) h2 (by omega) (by omega))
       have HKP : Hid (∀ W nm val, Drawn p ((KK + 2 + 2 * m) + 2 + 2) wo W → Own.SubO W wo.heap.size (.slice S0 m sq) ss → nm.size ≤ 16 → (val.size ≤ 16 ∧ okV val) → Calls Tryz.prog 86 #[.agg #[.slice A fs.length cap], .string nm, .slice S0 m sq, .string val] W (fun e w' => ∃ v2 gs code, e = .returned (.tuple #[.agg #[v2], .int .i64 code]) ∧ (code = 0 → treeB gs = true ∧ fineT gs ∧ gs.length ≤ 7 - (k - 1)) ∧ NodesO w' w.heap.size v2 gs ∧ Below W.heap.size W w')) := fun W nm val hd hu hnm hvl => by
        have hs := HS.out.drawn hd (by omega) (by omega)
        obtain ⟨A', cap', e', hc', hN⟩ := hs.own.reads
        injection e' with e1 _ e3
        subst e1 e3
        obtain ⟨S', q', e', hq', hS⟩ := Own.SubO.strs hu
        injection e' with e1 _ e3
        subst e1 e3
        rw [HM.out] at hS
        refine (PutNode_any A fs.length cap fs nm S0 m sq ss val W hN hcap (tree_small hs.tree) hS hsq (place_small hnm (by rw [HM.out]; omega) (fun s hs => (HZ.out s hs).1) hvl.1)).mono ?_
        rintro e w' ⟨v2, rfl, hn, hb⟩
        exact ⟨v2, _, _, rfl, fun h0 => ⟨putNode_tree h0, putNode_fine hs.cln.1 (fun s hs => (HZ.out s hs).2) hvl.2, by have h1 := hs.cln.2; have h2 := putNode_len (fs := fs) (nm := nm) (ss := ss) (v := val); omega⟩, (hn.base hd.chg.size).base hwo, hb⟩
       have q0 := HQC.out _ (dw_of HD.out)
       go_wp2_with fail
       go_region_held3 (fun w' => w'.cell? ⟨w.heap.size + 1, 0, none⟩ = some (.slice A fs.length cap))
        (first | with_reducible exact kk | exact HQC.out _ (by (repeat (first | with_reducible exact dw_of HD.out | with_reducible exact dw_of HD3.out | with_reducible exact dw_of HD4.out | with_reducible exact dw_of HD5.out | with_reducible refine dw_al ?_ | with_reducible refine dw_drew ?_)); done) | go_keep)
        (first
          | (go_at_call 87
             with_reducible refine (HKT1.out _ _ ?_ ?_).mono ?_
             · (repeat (first | with_reducible exact HD.out | with_reducible exact HD3.out | with_reducible exact HD4.out | with_reducible exact HD5.out | with_reducible refine dr_al ?_ | with_reducible refine dr_drew ?_))
             · (repeat (first | ((with_reducible refine strs_at ?_ ?_ ?_); rfl; simp; rfl; done) | with_reducible refine strs_al ?_ | with_reducible refine strs_drew ?_))
             rintro e w3 ⟨nm, hnm, rfl, hd3⟩
             have HD3 := Lib.hid (Drawn.trans (K := (KK + 2 + 2 * m)) (a := wo) (by (repeat (first | with_reducible exact HD.out | with_reducible exact HD3.out | with_reducible exact HD4.out | with_reducible exact HD5.out | with_reducible refine dr_al ?_ | with_reducible refine dr_drew ?_)); done) hd3)
             have HU3 := Lib.hid (sub_dr (K := (KK + 2 + 2 * m)) (wo := wo) (bs := wo.heap.size) (v := .slice S0 m sq) (ss := ss) (by (repeat (first | with_reducible exact HU.out | with_reducible exact HU3.out | with_reducible exact HU4.out | with_reducible refine sub_al ?_ | with_reducible refine sub_drew ?_)); done) (by (repeat (first | with_reducible exact HD.out | with_reducible exact HD3.out | with_reducible exact HD4.out | with_reducible exact HD5.out | with_reducible refine dr_al ?_ | with_reducible refine dr_drew ?_)); done) hd3)
             have HCS3 := Lib.hid (fun g0 : Nat => strs_dr (A := some ⟨g0, 0, none⟩) (n := 4) (ss := [⟨#[]⟩, ⟨#[49]⟩, ⟨#[116, 119, 111]⟩, ⟨#[51, 46, 53]⟩]) (K := (KK + 2 + 2 * m)) (wo := wo) (by (repeat (first | with_reducible exact HD.out | with_reducible exact HD3.out | with_reducible exact HD4.out | with_reducible exact HD5.out | with_reducible refine dr_al ?_ | with_reducible refine dr_drew ?_)); done) hd3)
             have HCB3 := Lib.hid (fun g0 : Nat => blk_dr (g := g0) (cs := #[.slice none 0 0]) (K := (KK + 2 + 2 * m)) (wo := wo) (by (repeat (first | with_reducible exact HD.out | with_reducible exact HD3.out | with_reducible exact HD4.out | with_reducible exact HD5.out | with_reducible refine dr_al ?_ | with_reducible refine dr_drew ?_)); done) hd3)
             have HNM : Hid (nm.size ≤ 16) := (by decide : ∀ s ∈ ([⟨#[65]⟩, ⟨#[65]⟩, ⟨#[66]⟩] : List ByteArray), s.size ≤ 16) nm hnm
             have hw3 := HD3.out.chg.size
             clear hd3 hnm)
          | (go_at_call 87
             with_reducible refine (HKT2.out _ _ ?_ ?_).mono ?_
             · (repeat (first | with_reducible exact HD.out | with_reducible exact HD3.out | with_reducible exact HD4.out | with_reducible exact HD5.out | with_reducible refine dr_al ?_ | with_reducible refine dr_drew ?_))
             · (repeat (first | ((with_reducible refine strs_at ?_ ?_ ?_); rfl; simp; rfl; done) | with_reducible refine strs_al ?_ | with_reducible refine strs_drew ?_ | with_reducible refine HCS3.out _ ?_))
             rintro e w4 ⟨vl, hvl, rfl, hd4⟩
             have HD4 := Lib.hid (Drawn.trans (K := (KK + 2 + 2 * m) + 2) (a := wo) (by (repeat (first | with_reducible exact HD.out | with_reducible exact HD3.out | with_reducible exact HD4.out | with_reducible exact HD5.out | with_reducible refine dr_al ?_ | with_reducible refine dr_drew ?_)); done) hd4)
             have HU4 := Lib.hid (sub_dr (K := (KK + 2 + 2 * m) + 2) (wo := wo) (bs := wo.heap.size) (v := .slice S0 m sq) (ss := ss) (by (repeat (first | with_reducible exact HU.out | with_reducible exact HU3.out | with_reducible exact HU4.out | with_reducible refine sub_al ?_ | with_reducible refine sub_drew ?_)); done) (by (repeat (first | with_reducible exact HD.out | with_reducible exact HD3.out | with_reducible exact HD4.out | with_reducible exact HD5.out | with_reducible refine dr_al ?_ | with_reducible refine dr_drew ?_)); done) hd4)
             have HCB4 := Lib.hid (fun g0 : Nat => blk_dr (g := g0) (cs := #[.slice none 0 0]) (K := (KK + 2 + 2 * m) + 2) (wo := wo) (by (repeat (first | with_reducible exact HD.out | with_reducible exact HD3.out | with_reducible exact HD4.out | with_reducible exact HD5.out | with_reducible refine dr_al ?_ | with_reducible refine dr_drew ?_)); done) hd4)
             have HVL : Hid (vl.size ≤ 16 ∧ okV vl) := (okV_list : ∀ s ∈ ([⟨#[]⟩, ⟨#[49]⟩, ⟨#[116, 119, 111]⟩, ⟨#[51, 46, 53]⟩] : List ByteArray), s.size ≤ 16 ∧ okV s) vl hvl
             have hw4 := HD4.out.chg.size
             clear hd4 hvl)
          | (go_at_call 86
             refine (HKP.out _ _ _ (by (repeat (first | with_reducible exact HD.out | with_reducible exact HD3.out | with_reducible exact HD4.out | with_reducible exact HD5.out | with_reducible refine dr_al ?_ | with_reducible refine dr_drew ?_)); done) (by (repeat (first | with_reducible exact HU.out | with_reducible exact HU3.out | with_reducible exact HU4.out | with_reducible refine sub_al ?_ | with_reducible refine sub_drew ?_)); done) HNM.out HVL.out).mono ?_
             rintro e w5 ⟨v5, gs, code, rfl, hcd, hn5, hb5⟩
             obtain ⟨A5, cap5, rfl, _, _⟩ := hn5.reads
             have HD5 := Lib.hid (Drawn.later (p := p) (K := (KK + 2 + 2 * m) + 2 + 2) (a := wo) (by (repeat (first | with_reducible exact HD.out | with_reducible exact HD3.out | with_reducible exact HD4.out | with_reducible exact HD5.out | with_reducible refine dr_al ?_ | with_reducible refine dr_drew ?_)); done) hb5)
             have HCB5 := Lib.hid (fun (g0 : Nat) (h : Blk _ g0 26 #[.slice none 0 0]) => Blk.later h hb5 h.lt)
             have HN5 := Lib.hid hn5
             have HCD := Lib.hid hcd
             have HQ5 := Lib.hid (HS.out.drawn HD5.out (by omega) (by omega))
             have k0 := HQ5.out.box.cell 0
             have kf := HQ5.out.box.frozen 0
             have kz := HQ5.out.box.lt
             simp at k0
             clear hn5 hb5 hcd
             first
               | (refine (show Blk w5 (wr.heap.size) 26 #[.slice none 0 0] → _ from fun hbx => ?_) ?_
                  rotate_left
                  (focus (refine HCB5.out _ ?_; (repeat (first | ((with_reducible refine blk_at ?_); simp; done) | with_reducible refine blk_al ?_ | with_reducible refine blk_drew ?_ | with_reducible refine HCB4.out _ ?_ | with_reducible refine HCB3.out _ ?_)); done))
                  have HSa := Lib.hid (HQ5.out.side (u := (.slice A5 gs.length cap5)) hbx (by omega) (by omega) hpw (by omega))
                  have HSb : Hid (treeB gs = true ∧ fineT gs ∧ gs.length ≤ 7 - (k - 1) → TrN p (7 - (k - 1)) ((KK + 2 + 2 * m) + 2 + 2) w (w.heap.size + 1) w.heap.size (.slice A5 gs.length cap5) gs ((w5.setCell ⟨wr.heap.size, 0, none⟩ (.slice A5 gs.length cap5)).setCell ⟨w.heap.size + 1, 0, none⟩ (.slice A5 gs.length cap5))) := fun ht => HSa.out.put (HN5.out.setBlk hbx (by decide) (by decide)) ht (by omega) hpw (by omega)
                  have hne : wr.heap.size ≠ w.heap.size + 1 := by omega
                  have kk := (HSa.out.box.cell 0).trans (show _ = some (Value.slice A fs.length cap) from rfl)
                  have bx0 := hbx.cell 0
                  have bf0 := hbx.frozen 0
                  have bz0 := hbx.lt
                  simp at bx0
                  clear hbx)
               | (refine (show Blk w5 (wr.heap.size + 1) 26 #[.slice none 0 0] → _ from fun hbx => ?_) ?_
                  rotate_left
                  (focus (refine HCB5.out _ ?_; (repeat (first | ((with_reducible refine blk_at ?_); simp; done) | with_reducible refine blk_al ?_ | with_reducible refine blk_drew ?_ | with_reducible refine HCB4.out _ ?_ | with_reducible refine HCB3.out _ ?_)); done))
                  have HSa := Lib.hid (HQ5.out.side (u := (.slice A5 gs.length cap5)) hbx (by omega) (by omega) hpw (by omega))
                  have HSb : Hid (treeB gs = true ∧ fineT gs ∧ gs.length ≤ 7 - (k - 1) → TrN p (7 - (k - 1)) ((KK + 2 + 2 * m) + 2 + 2) w (w.heap.size + 1) w.heap.size (.slice A5 gs.length cap5) gs ((w5.setCell ⟨wr.heap.size + 1, 0, none⟩ (.slice A5 gs.length cap5)).setCell ⟨w.heap.size + 1, 0, none⟩ (.slice A5 gs.length cap5))) := fun ht => HSa.out.put (HN5.out.setBlk hbx (by decide) (by decide)) ht (by omega) hpw (by omega)
                  have hne : wr.heap.size + 1 ≠ w.heap.size + 1 := by omega
                  have kk := (HSa.out.box.cell 0).trans (show _ = some (Value.slice A fs.length cap) from rfl)
                  have bx0 := hbx.cell 0
                  have bf0 := hbx.frozen 0
                  have bz0 := hbx.lt
                  simp at bx0
                  clear hbx)
               | (refine (show Blk w5 (wr.heap.size + 1 + 1) 26 #[.slice none 0 0] → _ from fun hbx => ?_) ?_
                  rotate_left
                  (focus (refine HCB5.out _ ?_; (repeat (first | ((with_reducible refine blk_at ?_); simp; done) | with_reducible refine blk_al ?_ | with_reducible refine blk_drew ?_ | with_reducible refine HCB4.out _ ?_ | with_reducible refine HCB3.out _ ?_)); done))
                  have HSa := Lib.hid (HQ5.out.side (u := (.slice A5 gs.length cap5)) hbx (by omega) (by omega) hpw (by omega))
                  have HSb : Hid (treeB gs = true ∧ fineT gs ∧ gs.length ≤ 7 - (k - 1) → TrN p (7 - (k - 1)) ((KK + 2 + 2 * m) + 2 + 2) w (w.heap.size + 1) w.heap.size (.slice A5 gs.length cap5) gs ((w5.setCell ⟨wr.heap.size + 1 + 1, 0, none⟩ (.slice A5 gs.length cap5)).setCell ⟨w.heap.size + 1, 0, none⟩ (.slice A5 gs.length cap5))) := fun ht => HSa.out.put (HN5.out.setBlk hbx (by decide) (by decide)) ht (by omega) hpw (by omega)
                  have hne : wr.heap.size + 1 + 1 ≠ w.heap.size + 1 := by omega
                  have kk := (HSa.out.box.cell 0).trans (show _ = some (Value.slice A fs.length cap) from rfl)
                  have bx0 := hbx.cell 0
                  have bf0 := hbx.frozen 0
                  have bz0 := hbx.lt
                  simp at bx0
                  clear hbx)
               | (refine (show Blk w5 (w3.heap.size) 26 #[.slice none 0 0] → _ from fun hbx => ?_) ?_
                  rotate_left
                  (focus (refine HCB5.out _ ?_; (repeat (first | ((with_reducible refine blk_at ?_); simp; done) | with_reducible refine blk_al ?_ | with_reducible refine blk_drew ?_ | with_reducible refine HCB4.out _ ?_ | with_reducible refine HCB3.out _ ?_)); done))
                  have HSa := Lib.hid (HQ5.out.side (u := (.slice A5 gs.length cap5)) hbx (by omega) (by omega) hpw (by omega))
                  have HSb : Hid (treeB gs = true ∧ fineT gs ∧ gs.length ≤ 7 - (k - 1) → TrN p (7 - (k - 1)) ((KK + 2 + 2 * m) + 2 + 2) w (w.heap.size + 1) w.heap.size (.slice A5 gs.length cap5) gs ((w5.setCell ⟨w3.heap.size, 0, none⟩ (.slice A5 gs.length cap5)).setCell ⟨w.heap.size + 1, 0, none⟩ (.slice A5 gs.length cap5))) := fun ht => HSa.out.put (HN5.out.setBlk hbx (by decide) (by decide)) ht (by omega) hpw (by omega)
                  have hne : w3.heap.size ≠ w.heap.size + 1 := by omega
                  have kk := (HSa.out.box.cell 0).trans (show _ = some (Value.slice A fs.length cap) from rfl)
                  have bx0 := hbx.cell 0
                  have bf0 := hbx.frozen 0
                  have bz0 := hbx.lt
                  simp at bx0
                  clear hbx)
               | (refine (show Blk w5 (w3.heap.size + 1) 26 #[.slice none 0 0] → _ from fun hbx => ?_) ?_
                  rotate_left
                  (focus (refine HCB5.out _ ?_; (repeat (first | ((with_reducible refine blk_at ?_); simp; done) | with_reducible refine blk_al ?_ | with_reducible refine blk_drew ?_ | with_reducible refine HCB4.out _ ?_ | with_reducible refine HCB3.out _ ?_)); done))
                  have HSa := Lib.hid (HQ5.out.side (u := (.slice A5 gs.length cap5)) hbx (by omega) (by omega) hpw (by omega))
                  have HSb : Hid (treeB gs = true ∧ fineT gs ∧ gs.length ≤ 7 - (k - 1) → TrN p (7 - (k - 1)) ((KK + 2 + 2 * m) + 2 + 2) w (w.heap.size + 1) w.heap.size (.slice A5 gs.length cap5) gs ((w5.setCell ⟨w3.heap.size + 1, 0, none⟩ (.slice A5 gs.length cap5)).setCell ⟨w.heap.size + 1, 0, none⟩ (.slice A5 gs.length cap5))) := fun ht => HSa.out.put (HN5.out.setBlk hbx (by decide) (by decide)) ht (by omega) hpw (by omega)
                  have hne : w3.heap.size + 1 ≠ w.heap.size + 1 := by omega
                  have kk := (HSa.out.box.cell 0).trans (show _ = some (Value.slice A fs.length cap) from rfl)
                  have bx0 := hbx.cell 0
                  have bf0 := hbx.frozen 0
                  have bz0 := hbx.lt
                  simp at bx0
                  clear hbx)
               | (refine (show Blk w5 (w4.heap.size) 26 #[.slice none 0 0] → _ from fun hbx => ?_) ?_
                  rotate_left
                  (focus (refine HCB5.out _ ?_; (repeat (first | ((with_reducible refine blk_at ?_); simp; done) | with_reducible refine blk_al ?_ | with_reducible refine blk_drew ?_ | with_reducible refine HCB4.out _ ?_ | with_reducible refine HCB3.out _ ?_)); done))
                  have HSa := Lib.hid (HQ5.out.side (u := (.slice A5 gs.length cap5)) hbx (by omega) (by omega) hpw (by omega))
                  have HSb : Hid (treeB gs = true ∧ fineT gs ∧ gs.length ≤ 7 - (k - 1) → TrN p (7 - (k - 1)) ((KK + 2 + 2 * m) + 2 + 2) w (w.heap.size + 1) w.heap.size (.slice A5 gs.length cap5) gs ((w5.setCell ⟨w4.heap.size, 0, none⟩ (.slice A5 gs.length cap5)).setCell ⟨w.heap.size + 1, 0, none⟩ (.slice A5 gs.length cap5))) := fun ht => HSa.out.put (HN5.out.setBlk hbx (by decide) (by decide)) ht (by omega) hpw (by omega)
                  have hne : w4.heap.size ≠ w.heap.size + 1 := by omega
                  have kk := (HSa.out.box.cell 0).trans (show _ = some (Value.slice A fs.length cap) from rfl)
                  have bx0 := hbx.cell 0
                  have bf0 := hbx.frozen 0
                  have bz0 := hbx.lt
                  simp at bx0
                  clear hbx)
               | (have HSa := Lib.hid (HQ5.out.later (Below.new w5 (.cells #[(.slice A5 gs.length cap5)] 26)))
                  have HSb : Hid (treeB gs = true ∧ fineT gs ∧ gs.length ≤ 7 - (k - 1) → TrN p (7 - (k - 1)) ((KK + 2 + 2 * m) + 2 + 2) w (w.heap.size + 1) w.heap.size (.slice A5 gs.length cap5) gs ((w5.setCell ⟨w.heap.size + 1, 0, none⟩ (.slice A5 gs.length cap5)).alloc (.cells #[(.slice A5 gs.length cap5)] 26))) := fun ht => (HQ5.out.put HN5.out ht (by omega) hpw (by omega)).later (Below.new _ _))))
       all_goals
        clear q0
        by_cases hc : code = 0
        · have HOK := Lib.hid (HSb.out (HCD.out hc))
          subst hc
          clear HSa HSb HCD
          go_wp2_with fail
          go_roundw
          case rel => exact ⟨k - 1, _, gs, by go_num, by omega, (HOK.out.monoN (by omega)).mono (by omega)⟩
          case measure => simp [intOf]; omega
        · have hc2 : (code == 0) = false := beq_eq_false_iff_ne.2 hc
          have HOK := Lib.hid HSa.out
          clear HSa HSb HCD
          go_wp2_with fail
          go_roundw
          case rel => exact ⟨k - 1, _, fs, by go_num, by omega, (HOK.out.monoN (by omega)).mono (by omega)⟩
          case measure => simp [intOf]; omega
  · obtain rfl : k = 0 := by omega
    have p0 := HS.out.box.cell 0
    have r0 := HS.out.res.cell 0
    have rf := HS.out.res.frozen 0
    have rz := HS.out.res.lt
    simp at p0 r0
    go_wp2_with fail
    refine bodyPost_ret (v := .agg #[.slice A fs.length cap]) (by simp [results, Tryz.results34, go_sem, r0]) rfl ?_
    exact ⟨_, fs, rfl, HS.out.own.setBlk HS.out.res (by decide) (by decide), HS.out.tree, HS.out.cln.1, Nat.le_trans HS.out.cln.2 (by omega), (HS.out.draw.set (Nat.le_refl _) hpw 0 _).mono (by omega)⟩
end Go.Proofs.YtlicffeicmoifaaGreatDoor
