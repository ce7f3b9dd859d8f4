/-
  What the program's grant grants: the first ask that may, again and again. What the reference's Expire answers. (Printed by gen_gs5.py.) What the program's dropAll and expire make of locks of the call's own. What the program's DropAll and Expire answer. (Printed by gen_gi3.py.)
-/
import Derived.Test.YtiebcdajoddkpaaGreatDoorSv
import Derived.Test.YtiebcdajoddkpaaGreatDoorDlt
import Derived.Test.YtiebcdajoddkpaaGreatDoorLkTL
import Derived.Test.YtiebcdajoddkpaaGreatDoorGs6
namespace Go.Proofs.YtiebcdajoddkpaaGreatDoor
open Go.RowKit
set_option linter.unusedVariables false

theorem tab_lt {w : World} (h : tabT w) : 1 < w.heap.size := by
  unfold tabT Lib.TabIs World.var? at h
  rw [show Tryz.prog.globalNamed "internal/strconv.uint64pow10" = some 1 from by kernel_rfl] at h
  simp only [Option.bind_some] at h
  rcases Nat.lt_or_ge 1 w.heap.size with h' | h'
  · exact h'
  · rw [Array.getElem?_eq_none h'] at h; cases h
theorem tab_at {B : Nat} {w w' : World} (h : tabT w) (hb : Below B w w') (hB : 1 < B) : tabT w' := by
  unfold tabT Lib.TabIs World.var? at h ⊢
  rw [show Tryz.prog.globalNamed "internal/strconv.uint64pow10" = some 1 from by kernel_rfl] at h ⊢
  simp only [Option.bind_some] at h ⊢
  rw [hb.block _ hB]
  exact h

set_option maxHeartbeats 400000 in
theorem grant1_any (g p : Nat) (held asks : List ItD) (c0 c1 c2 c3 : Value) (f : ItD) (w : World) (h : ItR w w.heap.size c0 c1 c2 c3 f) (hf : f.small) (hg : g < w.heap.size) (hB : w.cell? ⟨g, 0, none⟩ = some (.pointer (some ⟨p, 0, none⟩))) (hL : LkV w p held asks) (hs : smalls held) (hsa : smalls asks) :
    Calls Tryz.prog 87 #[.agg #[c0, c1, c2, c3], .pointer (some ⟨g, 0, none⟩)] w fun e w' => e = .returned (.bool (mayP held asks f)) ∧ Below w.heap.size w w' := by
  obtain ⟨rfl, rfl, rfl, A, n, cap, rfl, h3, hcap⟩ := h
  have HE : Hid (mayP held asks f = !frontI held asks f.a f.name f.subs) := by unfold Hid mayP; rw [frontI_eq]
  have hm : n ≤ 1048576 := by rw [← h3.1]; exact hf.2.1
  have HK := Lib.hid (fun W (hW : Below w.heap.size w W) => may_any p held asks f.a f.name A n cap f.subs W (hL.later hW) hs hsa (h3.later hW) hm hcap)
  clear h3 hL
  generalize mayP held asks f = R at *
  generalize frontI held asks f.a f.name f.subs = F at *
  generalize f.a = fa at *
  generalize f.b = fb at *
  generalize f.name = fn at *
  go_enter Tryz.func87, Tryz.ntmps87
  go_wp2_with fail
  refine (HK.out _ (Below.new _ _)).mono ?_
  rintro e w1 ⟨rfl, hb1⟩
  have HB := Lib.hid ((Below.new _ _).later hb1)
  clear hb1
  go_wp2_with fail
  go_ret
  exact ⟨ret_bool HE.out.symm, HB.out⟩

/-- Locks granted in place, and the told jobs. -/
def GrantPost (B base p : Nat) (r : List ItD × List ItD × List Int) (w : World) (e : Ending) (w' : World) : Prop :=
  ∃ vo v0 v1 vs us, e = .returned vo ∧ LkO w' base p v0 v1 r.1 r.2.1 vs us ∧ w'.ownsRow w.heap.size 2 1 vo r.2.2.length (r.2.2.map (Value.int .i64)) ∧ Below B w w' ∧ Keeps w w'
/-- The state of grant in its loop. -/
structure GrJ (B base p : Nat) (w : World) (h a : List ItD) (hv av : List Value) (v0 v1 vo : Value) (os : List Value) (X : World) : Prop where
  lk : LkO X base p v0 v1 h a hv av
  row : X.ownsRow w.heap.size 2 1 vo os.length os
  box : Blk X w.heap.size 68 #[.pointer (some ⟨p, 0, none⟩)]
  low : Below B w X
  keep : Keeps w X
section
variable {B base p : Nat} {w : World} {h a : List ItD} {hv av : List Value} {v0 v1 vo : Value} {os : List Value} {X : World}
theorem GrJ.later (s : GrJ B base p w h a hv av v0 v1 vo os X) {Y : World} (hb : Below X.heap.size X Y) (hB : B ≤ w.heap.size) : GrJ B base p w h a hv av v0 v1 vo os Y :=
  ⟨s.lk.later hb, own_later s.row hb, s.box.later hb s.box.lt, s.low.trans (hb.mono (by have := s.low.size; omega)), s.keep.trans (Keeps.of_below hb)⟩
theorem GrJ.app (s : GrJ B base p w h a hv av v0 v1 vo os X) (hB : B ≤ w.heap.size) {o : Obj} {Y : World} {vo' : Value} {os' : List Value} (hrow : Y.ownsRow w.heap.size 2 1 vo' os'.length os') (hg : (X.alloc o).grownBy Y vo.ownBlock) : GrJ B base p w h a hv av v0 v1 vo' os' Y := by
  have s2 := s.later (Below.new X o) hB
  refine ⟨⟨s2.lk.blk.grown hg (fun e => own_blk_ne s2.row s2.lk.blk (by decide) e.symm), s2.lk.above, s2.lk.h.keptRow s2.row (by decide) (by decide) hg, s2.lk.a.keptRow s2.row (by decide) (by decide) hg, s2.lk.cross⟩, hrow, s2.box.grown hg (fun e => own_blk_ne s2.row s2.box (by decide) e.symm), s2.low.grown hg (by have := s2.low.size; omega) (fun g hg' => Nat.le_trans hB (s2.row.lt g hg').1), fun g t cs h1 h2 h3 hb => (s2.keep g t cs h1 h2 h3 hb).grown hg (fun e => ?_)⟩
  have := (s2.row.lt g e.symm).1
  have := hb.lt
  omega
end

theorem SubO.strs2 {w : World} {base q : Nat} {S : Option Addr} {ss : List ByteArray} (h : SubO w base (.slice S ss.length q) ss) : Strs w w.heap.size S ss.length ss := by
  obtain ⟨S', q', e, _, _, h⟩ := h.strs
  injection e with e1 _ e3
  subst e1 e3
  exact h
theorem LkO.del {w y : World} {base p : Nat} {v0 v1 v3 : Value} {h a : List ItD} {hv av : List Value} (hl : LkO w base p v0 v1 h a hv av) {k : Nat} (hk : k < a.length) (hrow : y.ownsRow base 42 4 v3 (a.length - 1) ((flat a av).take (k * 4) ++ (flat a av).drop ((k + 1) * 4))) (hg : w.grownBy y v1.ownBlock) :
    LkO (y.setCell ⟨p, 1, none⟩ v3) base p v0 v3 h (a.eraseIdx k) hv (av.eraseIdx k) := by
  have hb2 := hl.blk.grown hg (fun e => own_blk_ne hl.a.row hl.blk (by decide) e.symm)
  refine ⟨?_, hl.above, (hl.h.keptRow hl.a.row (by decide) (by decide) hg).grownOther hb2 (by decide) (by decide) (grown_set _ _ _ _), ?_, fun x hx u hu => hl.cross x hx u ((List.eraseIdx_sublist av k).subset hu)⟩
  · have := hb2.set_ 1 v3
    simpa using this
  · refine OwnIts.grownOther ?_ hb2 (by decide) (by decide) (grown_set _ _ _ _)
    exact OwnIts.erase hl.a hk hrow (fun u _ ss hs => kept_apart hs hg (apart_types hs hl.a.row (by decide)))
theorem GrJ.del {B base p : Nat} {w : World} {h a : List ItD} {hv av : List Value} {v0 v1 vo : Value} {os : List Value} {X : World} (s : GrJ B base p w h a hv av v0 v1 vo os X) (hB : B ≤ base) {Y : World} {v3 : Value} {k : Nat} (hk : k < a.length) (hrow : Y.ownsRow base 42 4 v3 (a.length - 1) ((flat a av).take (k * 4) ++ (flat a av).drop ((k + 1) * 4))) (hg : X.grownBy Y v1.ownBlock) (hBX : B ≤ X.heap.size) :
    GrJ B base p w h (a.eraseIdx k) hv (av.eraseIdx k) v0 v3 vo os (Y.setCell ⟨p, 1, none⟩ v3) := by
  have hl := s.lk
  have hb2 := hl.blk.grown hg (fun e => own_blk_ne hl.a.row hl.blk (by decide) e.symm)
  have hkp : Keeps X (Y.setCell ⟨p, 1, none⟩ v3) := (Keeps.grown hl.a.row hg (.inr rfl)).trans (Keeps.setCell hb2 (.inr (.inr rfl)))
  exact ⟨hl.del hk hrow hg, hkp.row s.row (by decide) (by decide) (by decide), hkp _ _ _ (by decide) (by decide) (by decide) s.box, (s.low.grown hg hBX (fun g hg' => Nat.le_trans hB (hl.a.row.lt g hg').1)).setCell (Nat.le_trans hB hl.above) _, s.keep.trans hkp⟩
theorem grantN_idle {n : Nat} {h a : List ItD} {o : List Int} (hi : idxF (mayP h a) a 0 < 0) : grantN n h a o = (h, a, o) := by
  cases n with
  | zero => rfl
  | succ n => unfold grantN; rw [if_pos hi]
theorem grantN_next {h a : List ItD} {o : List Int} {k : Nat} (hk : k < a.length) (e : idxF (mayP h a) a 0 = (k : Int)) :
    grantN a.length h a o = grantN (a.eraseIdx k).length (if roomB h (a.getD k default).a (a.getD k default).name (a.getD k default).subs = true then acqI h (tgt (a.getD k default).a (a.getD k default).name (a.getD k default).subs) else h) (a.eraseIdx k) (o ++ [(a.getD k default).a]) := by
  obtain ⟨n, hn⟩ : ∃ n, a.length = n + 1 := ⟨a.length - 1, by omega⟩
  rw [List.length_eraseIdx_of_lt hk, hn, Nat.add_sub_cancel]
  conv => lhs; unfold grantN
  rw [e, if_neg (by omega), Int.toNat_natCast]

set_option maxRecDepth 100000 in
set_option maxHeartbeats 4000000 in
theorem grant_any (B base p : Nat) (v0 v1 : Value) (held asks : List ItD) (vs us : List Value) (w : World) (htab : tabT w) (htB : 1 < B) (h : LkO w base p v0 v1 held asks vs us) (hB : B ≤ base) (hBw : base ≤ w.heap.size) (hok : OkP held asks) :
    Calls Tryz.prog 41 #[.pointer (some ⟨p, 0, none⟩)] w (GrantPost B base p (grantB held asks) w) := by
  obtain ⟨i0, hi, hz0, hz1, hz2⟩ := info_parts infoI64
  have eg : ∀ args w, (callFunc 87 args).run Tryz.prog w = .ok (.enter 87 args) w := enters_of Tryz.func87 (by kernel_rfl) rfl
  have HO := Lib.hid h
  have HOK := Lib.hid hok
  have HTB := Lib.hid htab
  have hpw := h.blk.lt
  have HEG := Lib.hid eg
  clear h hok htab eg
  generalize hG : grantB held asks = G at *
  have HG : Hid (G = grantN asks.length held asks []) := hG.symm
  clear hG
  have HS0 : Hid (GrJ B base p w held asks vs us v0 v1 (.slice (some ⟨w.heap.size + 1, 0, none⟩) 0 0) [] ((w.alloc (.cells #[.pointer (some ⟨p, 0, none⟩)] 68)).alloc (.cells #[] 2))) := by
    have hb := (Below.new w (.cells #[.pointer (some ⟨p, 0, none⟩)] 68)).later (Below.new _ (.cells #[] 2))
    refine ⟨HO.out.later hb, ?_, heap_two0 _ _ _, hb.mono (by omega), Keeps.of_below hb⟩
    have h := World.ownsRow_lit (base := w.heap.size) (e := 2) (size := 1) (w.alloc (.cells #[.pointer (some ⟨p, 0, none⟩)] 68)) #[] 0 (by simp) (by omega) rfl
    have e : (w.alloc (.cells #[.pointer (some ⟨p, 0, none⟩)] 68)).heap.size = w.heap.size + 1 := by simp
    rw [e] at h
    exact h
  go_enter Tryz.func41, Tryz.ntmps41
  go_wp2_with fail
  go_loopw [3] (fun vo wr => ∃ (h a : List ItD) (hv av : List Value) (v0 v1 : Value) (o : List Int), Hid (OkP h a) ∧ Hid (GrJ B base p w h a hv av v0 v1 vo (o.map (Value.int .i64)) wr) ∧ Hid (G = grantN a.length h a o) ∧ Hid (o.length + a.length ≤ 4)) (fun _ wr => lenAt p wr)
  case atStart => exact ⟨held, asks, vs, us, v0, v1, [], HOK.out, HS0.out, HG.out, by unfold Hid; have h := HOK.out.alen; rw [List.length_nil, Nat.zero_add]; exact h⟩
  case round =>
    obtain ⟨h, a, hv, av, v0', v1', o, HOKr, HSr, HGr, HLr⟩ := hrel
    obtain ⟨A0, c0, rfl, hc0, _, _⟩ := own_slice HSr.out.lk.h.row
    obtain ⟨A1, c1, rfl, hc1, hc1m, hA1⟩ := own_slice HSr.out.lk.a.row
    have p0 := HSr.out.lk.blk.cell 0
    have p1 := HSr.out.lk.blk.cell 1
    have pz := HSr.out.lk.blk.lt
    have bx := HSr.out.box.cell 0
    have bz := HSr.out.box.lt
    simp at p0 p1 bx
    have hal4 := HOKr.out.alen
    have hsm := HOKr.out.small
    obtain ⟨Aq, cq, eq1, _, _, hIa⟩ := HSr.out.lk.a.its
    injection eq1 with eq2 _ eq3
    subst eq2 eq3
    have HK1 := Lib.hid (IndexFuncA_any 87 #[.pointer (some ⟨w.heap.size, 0, none⟩)] (mayP h a) A1 a.length c1 a wr hIa (by omega) HEG.out
      (fun f hf b0 b1 b2 b3 V hV hrf => grant1_any w.heap.size p h a b0 b1 b2 b3 f V hrf (hsm.2.2 f hf) (Nat.lt_of_lt_of_le bz hV.size) (cell_later hV bx) (HSr.out.lk.view.later hV) hsm.1 hsm.2))
    have HIN := Lib.hid (@idxF_in (mayP h a) a)
    have HTR := Lib.hid (tab_at HTB.out HSr.out.low htB)
    have hBw2 : B ≤ w.heap.size := by omega
    have hwr := HSr.out.low.size
    clear HO HOK HS0 HG hIa
    go_wp2_with fail
    refine HK1.out.mono ?_
    rintro e w1 ⟨rfl, hb1⟩
    have HB1 := Lib.hid hb1
    have HS1 := Lib.hid (HSr.out.later hb1 hBw2)
    clear hb1 HK1
    generalize hkk : idxF (mayP h a) a 0 = kk at *
    have HKK := Lib.hid hkk
    clear hkk
    have q0 := cell_later HB1.out p0
    have q1 := cell_later HB1.out p1
    have qx := cell_later HB1.out bx
    have qz := Nat.lt_of_lt_of_le pz HB1.out.size
    have qb := Nat.lt_of_lt_of_le bz HB1.out.size
    by_cases hk : kk < 0
    · have HE : Hid (G = (h, a, o)) := HGr.out.trans (grantN_idle (by rw [HKK.out]; exact hk))
      clear HIN
      go_wp2_with fail
      go_ret
      rw [HE.out]
      exact ⟨_, _, _, hv, av, rfl, HS1.out.lk, by have h := HS1.out.row; rw [List.length_map] at h; exact h, HS1.out.low, HS1.out.keep⟩
    · obtain ⟨i, rfl, hlt, hm⟩ := HIN.out (by omega)
      obtain ⟨g, rfl, hgl, hgb⟩ := hA1 (by omega)
      have hvl := HS1.out.lk.a.len
      obtain ⟨S, q, hsv, hsq, _⟩ := HS1.out.lk.a.sub_at hlt
      have hr := HS1.out.lk.a.row
      have x0 := own_cell hr (i * 4) _ (by omega) ((flat_at a av i 0 hvl hlt (by decide)).trans rfl)
      have x1 := own_cell hr (i * 4 + 1) _ (by omega) ((flat_at a av i 1 hvl hlt (by decide)).trans rfl)
      have x2 := own_cell hr (i * 4 + 2) _ (by omega) ((flat_at a av i 2 hvl hlt (by decide)).trans rfl)
      have x3 : w1.cell? ⟨g, i * 4 + 3, none⟩ = some (.slice S (a.getD i default).subs.length q) := by rw [← hsv]; exact own_cell hr (i * 4 + 3) _ (by omega) ((flat_at a av i 3 hvl hlt (by decide)).trans rfl)
      have hsd := hsm.2.2 _ (getD_mem a i hlt)
      have HSUB : Hid (SubO w1 base (.slice S (a.getD i default).subs.length q) (a.getD i default).subs) := by rw [← hsv]; exact HS1.out.lk.a.subs i hlt
      have HOK2 := Lib.hid (HOKr.out.step hlt hm)
      have HG2 := Lib.hid (HGr.out.trans (grantN_next (o := o) hlt HKK.out))
      have HONE := Lib.hid HS1.out.lk.a.one
      have HSO := Lib.hid HOKr.out.sorted
      have HMO := Lib.hid (fun t i j => okB_mono HOKr.out.okB t i j)
      have HPO := Lib.hid (okB_pos HOKr.out.okB)
      have hgl1 := Nat.lt_of_lt_of_le hgl HB1.out.size
      have HLT := Lib.hid hlt
      clear hsv hvl hm hr HIN HKK HOKr
      generalize hdd : a.getD i default = dd at *
      have HDD := Lib.hid hdd
      clear hdd
      have HKD := Lib.hid (fun W (hW : Below w1.heap.size w1 W) => DeleteAsk_any base (.slice (some ⟨g, 0, none⟩) a.length c1) a.length i (flat a av) W (own_later HS1.out.lk.a.row hW) (by omega) hlt HONE.out)
      have HKR := Lib.hid (fun W (hv' : LkV W p h (a.eraseIdx i)) (hS : Strs W W.heap.size S dd.subs.length dd.subs) (ht : tabT W) => room_any p h (a.eraseIdx i) dd.a dd.name S dd.subs.length q dd.subs W ht hv' hsm.1 hS hsq hsd (fun i j h1 h2 h3 => HMO.out _ i j h1 h2 h3))
      have HKA := Lib.hid (fun W v3 (hl : LkO W base p (.slice A0 h.length c0) v3 h (a.eraseIdx i) hv (av.eraseIdx i)) (hbW : base ≤ W.heap.size) (hS : Strs W W.heap.size S dd.subs.length dd.subs) (ht : tabT W) (hro : roomI h (tgt dd.a dd.name dd.subs) = true) => acquire_frm B base p (.slice A0 h.length c0) v3 h (a.eraseIdx i) hv (av.eraseIdx i) dd.a dd.name S dd.subs.length q dd.subs W ht hl hB hbW hsm.1 hS hsq hsd (fun i j h1 h2 h3 => HMO.out _ i j h1 h2 h3) hro HPO.out)
      rw [roomI_eq h dd.a dd.name dd.subs HSO.out] at HKA
      have HRI : Hid (roomI h (tgt dd.a dd.name dd.subs) = roomB h dd.a dd.name dd.subs) := roomI_eq h dd.a dd.name dd.subs HSO.out
      generalize hna : a.length = na at *
      have HNA := Lib.hid hna
      clear hna HSO HMO HPO HONE
      have HBA := Lib.hid (Below.new w1 (.cells #[.int .i64 dd.a, .int .i64 dd.b, .string dd.name, .slice S dd.subs.length q] 42))
      have HDB : Hid (Blk (w1.alloc (.cells #[.int .i64 dd.a, .int .i64 dd.b, .string dd.name, .slice S dd.subs.length q] 42)) w1.heap.size 42 #[.int .i64 dd.a, .int .i64 dd.b, .string dd.name, .slice S dd.subs.length q]) := heap_last rfl
      have HS2 := Lib.hid (HS1.out.later HBA.out hBw2)
      go_wp2_with fail
      have hi1 : ((i + 1 : Nat) : Int) = (i : Int) + 1 := by omega
      have hiw : IntKind.i64.wrap ((i : Int) + 1) = (i : Int) + 1 := by rw [IntKind.wrap_i64]; omega
      rw [hi1] at HKD
      go_region_with (first
        | (go_at_call 89
           refine (HKD.out _ (by exact HBA.out.drew)).mono ?_
           rintro e w2 ⟨v3, rfl, hown, hgrow⟩
           have hgrow' : (w1.alloc (.cells #[.int .i64 dd.a, .int .i64 dd.b, .string dd.name, .slice S dd.subs.length q] 42)).grownBy w2 (Value.slice (some ⟨g, 0, none⟩) na c1).ownBlock := ⟨hgrow.os, hgrow.tape, hgrow.output, hgrow.size, hgrow.block⟩
           have hbg := HS2.out.lk.blk.grown hgrow' (fun e => own_blk_ne HS2.out.lk.a.row HS2.out.lk.blk (by decide) e.symm)
           have p5 := hbg.cell
           have f5 := hbg.frozen
           have z5 := hbg.lt
           have hbx := HS2.out.box.grown hgrow' (fun e => own_blk_ne HS2.out.lk.a.row HS2.out.box (by decide) e.symm)
           have p6 := hbx.cell 0
           simp at p6
           have HBG := Lib.hid hbg
           have HOW := Lib.hid hown
           have HGR := Lib.hid hgrow'
           obtain ⟨A3, c3, rfl, hc3, _, _⟩ := own_slice hown
           clear hbg hown hgrow hgrow'))
      all_goals
        have hrow : w2.ownsRow base 42 4 (.slice A3 (na - 1) c3) (a.length - 1) ((flat a av).take (i * 4) ++ (flat a av).drop ((i + 1) * 4)) := by rw [HNA.out]; exact HOW.out
        have HS3 := Lib.hid (HS2.out.del hB (by rw [HNA.out]; exact hlt) hrow HGR.out (by have := HBA.out.size; omega))
        have hkp : Keeps w1 (w2.setCell ⟨p, 1, none⟩ (.slice A3 (na - 1) c3)) := ((Keeps.of_below HBA.out).trans (Keeps.grown HS2.out.lk.a.row HGR.out (.inr rfl))).trans (Keeps.setCell HBG.out (.inr (.inr rfl)))
        have HSU3 : Hid (SubO (w2.setCell ⟨p, 1, none⟩ (.slice A3 (na - 1) c3)) base (.slice S dd.subs.length q) dd.subs) := hkp.row HSUB.out (by decide) (by decide) (by decide)
        have hdb2 := HDB.out.grown HGR.out (by simp [Value.ownBlock]; omega)
        have HDB3 := Lib.hid (hdb2.far (p := ⟨p, 1, none⟩) (show w1.heap.size ≠ p by omega) (.slice A3 (na - 1) c3))
        have hol := HLr.out
        have HLE : Hid ((a.eraseIdx i).length = na - 1) := by unfold Hid; rw [List.length_eraseIdx_of_lt (by rw [HNA.out]; exact hlt), HNA.out]
        have d0 := hdb2.cell 0
        have d2 := hdb2.cell 2
        have d3 := hdb2.cell 3
        have dz := hdb2.lt
        simp at d0 d2 d3
        have HK9 := Lib.hid (HKR.out _ HS3.out.lk.view HSU3.out.strs2 (tab_at HTB.out HS3.out.low htB))
        clear hrow hkp hdb2 p0 p1 bx q0 q1 qx x0 x1 x2 x3 HKR HKD
        go_wp2_with fail
        refine HK9.out.mono ?_
        rintro e w4 ⟨rfl, hb4⟩
        have HS4 := Lib.hid (HS3.out.later hb4 hBw2)
        have HDB4 := Lib.hid (HDB3.out.later hb4 HDB3.out.lt)
        have HSU4 : Hid (SubO w4 base (.slice S dd.subs.length q) dd.subs) := own_later HSU3.out hb4
        rw [HRI.out]
        clear HK9 HRI hb4 d0 d2 d3 dz p5 f5 z5 p6
        generalize roomB h dd.a dd.name dd.subs = ro at *
        have d0 := HDB4.out.cell 0
        have d2 := HDB4.out.cell 2
        have d3 := HDB4.out.cell 3
        have dz := HDB4.out.lt
        have bx := HS4.out.box.cell 0
        have bxz := HS4.out.box.lt
        have hw4 := HS4.out.low.size
        simp at d0 d2 d3 bx
        cases ro
        · clear HKA
          have HRW := Lib.hid (HS4.out.row.alloc (.cells #[.int .i64 dd.a] 2))
          rw [List.length_map] at HRW
          have bq := HS4.out.box.cell 0
          have bqz := HS4.out.box.lt
          simp at bq
          have hw5 := HS4.out.low.size
          have hwl5 : w.heap.size ≤ w4.heap.size := by omega
          go_wp2_with (at_builtin; refine wpList_append_own _ rfl (.tmp 50) (.tmp 53) 30 rfl w.heap.size 2 i0 (.int .i64 0) 1 8 Tryz.underlying30 hi hz0 hz1 hz2 rfl (by decide) _ o.length _ rfl (HRW.out) ⟨_, 0, none⟩ 1 1 [.int .i64 dd.a] rfl rfl ?c1a ?c2a ?c3a ?c4a ?c5a ?_)
          case c1a => exact cells_at _ #[.int .i64 dd.a] _ _ (by simp)
          case c2a => simp [Value.oneCell']
          case c3a => unfold maxLen; omega
          case c4a => omega
          case c5a => simp; omega
          intro v6 w6 hown6 hg6 _
          have HS6 : Hid (GrJ B base p w h (a.eraseIdx i) hv (av.eraseIdx i) (.slice A0 h.length c0) (.slice A3 (na - 1) c3) v6 ((o ++ [dd.a]).map (Value.int .i64)) w6) := by
            refine HS4.out.app hBw2 ?_ hg6
            rw [List.map_append, List.length_append, List.length_map]
            exact hown6
          clear hown6 hg6 HRW
          go_wp2_with fail
          go_roundw
          case rel => exact ⟨h, a.eraseIdx i, hv, av.eraseIdx i, _, _, o ++ [dd.a], HOK2.out, HS6.out, HG2.out.trans (by simp), by unfold Hid; rw [HLE.out, List.length_append]; simp; omega⟩
          case measure =>
            rw [lenAt_of HSr.out.lk.blk, lenAt_of HS6.out.lk.blk]
            omega
        · have HK9 := Lib.hid (HKA.out w4 _ HS4.out.lk (by have := HS4.out.box.lt; omega) HSU4.out.strs2 (tab_at HTB.out HS4.out.low htB) (by trivial))
          clear HKA
          go_wp2_with fail
          refine HK9.out.mono ?_
          rintro e w5 ⟨⟨rfl, v0', hv', hL, hb5⟩, hkp5, hka5⟩
          have HS5 : Hid (GrJ B base p w (acqI h (tgt dd.a dd.name dd.subs)) (a.eraseIdx i) hv' (av.eraseIdx i) v0' (.slice A3 (na - 1) c3) u3 (o.map (Value.int .i64)) w5) := ⟨hL, hkp5.row HS4.out.row (by decide) (by decide) (by decide), hkp5 _ _ _ (by decide) (by decide) (by decide) HS4.out.box, HS4.out.low.trans hb5, HS4.out.keep.trans hkp5⟩
          have HDB5 := Lib.hid (hka5 _ _ HDB4.out)
          clear HK9 hL hb5 hkp5 hka5 d0 d2 d3 dz bx bxz hw4
          have d0 := HDB5.out.cell 0
          have dz := HDB5.out.lt
          simp at d0
          have HRW := Lib.hid (HS5.out.row.alloc (.cells #[.int .i64 dd.a] 2))
          rw [List.length_map] at HRW
          have bq := HS5.out.box.cell 0
          have bqz := HS5.out.box.lt
          simp at bq
          have hw5 := HS5.out.low.size
          have hwl5 : w.heap.size ≤ w5.heap.size := by omega
          go_wp2_with (at_builtin; refine wpList_append_own _ rfl (.tmp 50) (.tmp 53) 30 rfl w.heap.size 2 i0 (.int .i64 0) 1 8 Tryz.underlying30 hi hz0 hz1 hz2 rfl (by decide) _ o.length _ rfl (HRW.out) ⟨_, 0, none⟩ 1 1 [.int .i64 dd.a] rfl rfl ?c1b ?c2b ?c3b ?c4b ?c5b ?_)
          case c1b => exact cells_at _ #[.int .i64 dd.a] _ _ (by simp)
          case c2b => simp [Value.oneCell']
          case c3b => unfold maxLen; omega
          case c4b => omega
          case c5b => simp; omega
          intro v6 w6 hown6 hg6 _
          have HS6 : Hid (GrJ B base p w (acqI h (tgt dd.a dd.name dd.subs)) (a.eraseIdx i) hv' (av.eraseIdx i) v0' (.slice A3 (na - 1) c3) v6 ((o ++ [dd.a]).map (Value.int .i64)) w6) := by
            refine HS5.out.app hBw2 ?_ hg6
            rw [List.map_append, List.length_append, List.length_map]
            exact hown6
          clear hown6 hg6 HRW
          go_wp2_with fail
          go_roundw
          case rel => exact ⟨(acqI h (tgt dd.a dd.name dd.subs)), a.eraseIdx i, hv', av.eraseIdx i, _, _, o ++ [dd.a], HOK2.out, HS6.out, HG2.out.trans (by simp), by unfold Hid; rw [HLE.out, List.length_append]; simp; omega⟩
          case measure =>
            rw [lenAt_of HSr.out.lk.blk, lenAt_of HS6.out.lk.blk]
            omega
end Go.Proofs.YtiebcdajoddkpaaGreatDoor

namespace Go.Proofs.YtiebcdajoddkpaaGreatDoor
open Go.RowKit
set_option linter.unusedVariables false

/-- An answer: locks of the call's own, the jobs whose time is over, told jobs, a code. -/
def ExPost (r : Int × List ItD × List ItD × List Int) (gone : List Int) (w : World) (e : Ending) (w' : World) : Prop :=
  ∃ v0 v1 vs us vg vo, e = .returned (.tuple #[.agg #[v0, v1], vg, vo, .int .i64 r.1]) ∧ OwnIts w' w.heap.size 37 v0 r.2.1 vs ∧ OwnIts w' w.heap.size 42 v1 r.2.2.1 us ∧ (∀ x ∈ vs, ∀ y ∈ us, apart x y) ∧ w'.ownsRow w.heap.size 2 1 vg gone.length (gone.map (Value.int .i64)) ∧ w'.ownsRow w.heap.size 2 1 vo r.2.2.2.length (r.2.2.2.map (Value.int .i64)) ∧ Below w.heap.size w w'
def goneK (tick : Int) (asks : List ItD) (k : Nat) : List Int := ((asks.take k).filter (overB tick)).map (·.a)
theorem goneK_next (tick : Int) (asks : List ItD) (k : Nat) (hk : k < asks.length) : goneK tick asks (k + 1) = if overB tick (asks.getD k default) = true then goneK tick asks k ++ [(asks.getD k default).a] else goneK tick asks k := by
  unfold goneK
  rw [filter_snoc (overB tick) asks k hk]
  split
  · rw [List.map_append]; rfl
  · rfl
theorem goneK_le (tick : Int) (asks : List ItD) (k : Nat) : (goneK tick asks k).length ≤ k := by
  unfold goneK
  rw [List.length_map]
  have h1 := List.length_filter_le (overB tick) (asks.take k)
  rw [List.length_take] at h1
  omega
/-- The state of Expire in its loop. -/
structure ExS (w : World) (q : Nat) (held asks : List ItD) (vs us : List Value) (tick : Int) (k : Nat) (v0 v1 wo vg : Value) (X : World) : Prop where
  h : OwnIts X w.heap.size 37 v0 held vs
  a : Sv w.heap.size 42 asks us (fun d => !overB tick d) k v1 wo X
  g : X.ownsRow w.heap.size 2 1 vg (goneK tick asks k).length ((goneK tick asks k).map (Value.int .i64))
  bo : Blk X (q + 1) 27 #[v0, wo]
  bq : Blk X q 27 #[v0, v1]
  br : Blk X (w.heap.size + 1) 27 #[.slice none 0 0, .slice none 0 0]
  low : Below w.heap.size w X
section
variable {w : World} {q : Nat} {held asks : List ItD} {vs us : List Value} {tick : Int} {k : Nat} {v0 v1 wo vg : Value} {X Y : World}
theorem ExS.later (s : ExS w q held asks vs us tick k v0 v1 wo vg X) (hb : Below X.heap.size X Y) : ExS w q held asks vs us tick k v0 v1 wo vg Y :=
  ⟨s.h.later hb, s.a.later hb, own_later s.g hb, s.bo.later hb s.bo.lt, s.bq.later hb s.bq.lt, s.br.later hb s.br.lt, s.low.later hb⟩
theorem ExS.put (s : ExS w q held asks vs us tick k v0 v1 wo vg X) (hq : w.heap.size + 1 < q) (hk : k < asks.length) (hp : overB tick (asks.getD k default) = false) {o : Obj} {g cap : Nat} (hown : Y.ownsRow w.heap.size 42 4 (.slice (some ⟨g, 0, none⟩) ((sel (fun d => !overB tick d) asks us k).length + 1) cap) ((sel (fun d => !overB tick d) asks us k).length + 1) (flat ((sel (fun d => !overB tick d) asks us k).map (·.1)) ((sel (fun d => !overB tick d) asks us k).map (·.2)) ++ cellsIt (asks.getD k default) (us.getD k (.slice none 0 0))))
    (hg : (X.alloc o).grownBy Y wo.ownBlock) (hat : wo.ownBlock = some g ∨ g = X.heap.size + 1) :
    ExS w q held asks vs us tick (k + 1) v0 v1 (.slice (some ⟨g, 0, none⟩) ((sel (fun d => !overB tick d) asks us k).length + 1) cap) vg (Y.setCell ⟨q + 1, 1, none⟩ (.slice (some ⟨g, 0, none⟩) ((sel (fun d => !overB tick d) asks us k).length + 1) cap)) := by
  have s2 := s.later (Below.new X o)
  have hbo := s2.bo.grown hg (fun e => own_blk_ne s2.a.row s2.bo (by decide) e.symm)
  have hbq := s2.bq.grown hg (fun e => own_blk_ne s2.a.row s2.bq (by decide) e.symm)
  have hbr := s2.br.grown hg (fun e => own_blk_ne s2.a.row s2.br (by decide) e.symm)
  have hgn : goneK tick asks (k + 1) = goneK tick asks k := by rw [goneK_next tick asks k hk, hp, if_neg (by decide)]
  have hgr := kept_apart s2.g hg (apart_types s2.g s2.a.row (by decide))
  refine ⟨(s2.h.keptRow s2.a.row (by decide) (by decide) hg).grownOther hbo (by decide) (by decide) (grown_set _ _ _ _), (s.a.keep hk (by rw [hp]; rfl) hown hg hat (by decide)).other hbo (by decide) (by decide) (grown_set _ _ _ _), ?_, ?_, hbq.far (p := ⟨q + 1, 1, none⟩) (by simp) _, hbr.far (p := ⟨q + 1, 1, none⟩) (by simp; omega) _, (s2.low.grown hg s2.low.size (fun g' hg' => (s2.a.row.lt g' hg').1)).setCell (p := ⟨q + 1, 1, none⟩) (by simp; omega) _⟩
  · rw [hgn]
    exact hgr.kept (grown_set _ _ _ _) (.inr (own_blk_ne hgr hbo (by decide)))
  · have := hbo.set_ 1 (.slice (some ⟨g, 0, none⟩) ((sel (fun d => !overB tick d) asks us k).length + 1) cap)
    simpa using this
theorem ExS.gone (s : ExS w q held asks vs us tick k v0 v1 wo vg X) (hk : k < asks.length) (hp : overB tick (asks.getD k default) = true) {o : Obj} {vg2 : Value} (hown : Y.ownsRow w.heap.size 2 1 vg2 ((goneK tick asks k).length + 1) ((goneK tick asks k).map (Value.int .i64) ++ [.int .i64 (asks.getD k default).a]))
    (hg : (X.alloc o).grownBy Y vg.ownBlock) : ExS w q held asks vs us tick (k + 1) v0 v1 wo vg2 Y := by
  have s2 := s.later (Below.new X o)
  have hgn : goneK tick asks (k + 1) = goneK tick asks k ++ [(asks.getD k default).a] := by rw [goneK_next tick asks k hk, hp, if_pos rfl]
  refine ⟨s2.h.keptRow s2.g (by decide) (by decide) hg, (s2.a.skip hk (by rw [hp]; rfl)).aside s2.g (by decide) (by decide) hg, ?_, s2.bo.grown hg (fun e => own_blk_ne s2.g s2.bo (by decide) e.symm), s2.bq.grown hg (fun e => own_blk_ne s2.g s2.bq (by decide) e.symm), s2.br.grown hg (fun e => own_blk_ne s2.g s2.br (by decide) e.symm), s2.low.grown hg s2.low.size (fun g' hg' => (s2.g.lt g' hg').1)⟩
  rw [hgn, List.length_append, List.map_append]
  exact hown
end

theorem ExPost.bad {w w' : World} {c : Int} {v u : Value} (hr : w'.ownsRow w.heap.size 2 1 v 0 []) (hu : w'.ownsRow w.heap.size 2 1 u 0 []) (hb : Below w.heap.size w w') : ExPost (grBad c) [] w (.returned (.tuple #[.agg #[.slice none 0 0, .slice none 0 0], v, u, .int .i64 c])) w' :=
  ⟨_, _, [], [], _, _, rfl, own_none _ _ _, own_none _ _ _, by simp, hr, hu, hb⟩
theorem ExPost.good {base : Nat} {w w' : World} {r : List ItD × List ItD × List Int} {gone : List Int} {v0 v1 vo vg : Value} {vs us : List Value} (h0 : OwnIts w' base 37 v0 r.1 vs) (h1 : OwnIts w' base 42 v1 r.2.1 us) (hx : ∀ x ∈ vs, ∀ y ∈ us, apart x y) (hg : w'.ownsRow base 2 1 vg gone.length (gone.map (Value.int .i64))) (hr : w'.ownsRow base 2 1 vo r.2.2.length (r.2.2.map (Value.int .i64))) (hB : w.heap.size ≤ base) (hb : Below w.heap.size w w') : ExPost (grOk r) gone w (.returned (.tuple #[.agg #[v0, v1], vg, vo, .int .i64 0])) w' :=
  ⟨_, _, vs, us, _, _, rfl, h0.base hB, h1.base hB, hx, own_base hg hB, own_base hr hB, hb⟩
theorem bad_row2 {B g : Nat} {w1 : World} {a b : Value} (hB : B ≤ w1.heap.size) (o : Obj) : ((((w1.setCell ⟨g, 0, none⟩ a).setCell ⟨g, 1, none⟩ b).alloc o).alloc (.cells #[] 2)).ownsRow B 2 1 (.slice (some ⟨w1.heap.size + 1, 0, none⟩) 0 0) 0 [] := by
  have h := World.ownsRow_lit (base := B) (e := 2) (size := 1) (((w1.setCell ⟨g, 0, none⟩ a).setCell ⟨g, 1, none⟩ b).alloc o) #[] 0 (by simp; omega) (by omega) rfl
  have e : (((w1.setCell ⟨g, 0, none⟩ a).setCell ⟨g, 1, none⟩ b).alloc o).heap.size = w1.heap.size + 1 := by simp
  rw [e] at h
  exact h

set_option maxRecDepth 100000 in
set_option maxHeartbeats 4000000 in
theorem specExpire_any (A A' : Option Addr) (n c n' c' : Nat) (held asks : List ItD) (tick : Int) (w : World) (h : Its w w.heap.size A n held) (ha : Its w w.heap.size A' n' asks) (hs : smalls held) (hsa : smalls asks) :
    Calls Tryz.prog 15 #[.agg #[.slice A n c, .slice A' n' c'], .int .i64 tick] w (ExPost (expireB held asks tick) (goneB held asks tick) w) := by
  obtain ⟨j0, gi, gz0, gz1, gz2⟩ := info_parts infoAsk
  obtain ⟨i0, hi, hz0, hz1, hz2⟩ := info_parts infoI64
  have HK1 := Lib.hid (fun W (hW : Below w.heap.size w W) => l24Ok_any A A' n c n' c' held asks W (h.later hW) (ha.later hW) hs hsa)
  have HK2 := Lib.hid (fun n a b W => l00In_any n a b W)
  have HK3 := Lib.hid (fun W (hW : Below w.heap.size w W) => l24Own_any A A' n c n' c' held asks W (h.later hW) (ha.later hW) hs hsa)
  have HOK := Lib.hid (fun (hok : okB held asks = true) => (okP_of hok).sub (List.Sublist.refl held) (List.filter_sublist (p := fun d => !overB tick d) (l := asks)))
  have hn := hs.1
  have hn' := hsa.1
  have HT : Hid (expireB held asks tick = if (okB held asks && inB tick 0 999999) = true then grOk (grantB held (asks.filter fun d => !overB tick d)) else grBad 1) := rfl
  have HU : Hid (goneB held asks tick = if (okB held asks && inB tick 0 999999) = true then goneK tick asks asks.length else []) := by unfold Hid goneB goneK; rw [List.take_length]
  clear h ha hs hsa
  generalize expireB held asks tick = T at *
  generalize goneB held asks tick = U at *
  generalize okB held asks = x at *
  generalize hy : inB tick 0 999999 = y at *
  go_enter Tryz.func15, Tryz.ntmps15
  go_wp2_with fail
  refine (HK1.out _ (by exact (Below.new _ _).later (Below.new _ _))).mono ?_
  rintro e w1 ⟨rfl, hb1⟩
  have HB := Lib.hid (((Below.new _ _).later (Below.new _ _)).later hb1)
  have HBX := Lib.hid (Blk.later (heap_two0 w _ _) hb1 (by simp; omega))
  have HBY := Lib.hid (Blk.later (heap_two1 w _ _) hb1 (by simp))
  have p1 := HBX.out.cell
  have p2 := HBY.out.cell
  have f2 := HBY.out.frozen
  have z1 := HBX.out.lt
  have z2 := HBY.out.lt
  clear hb1
  cases x
  · have HE : Hid (T = grBad 1) := by unfold Hid; rw [HT.out]; rfl
    have HF : Hid (U = []) := by unfold Hid; rw [HU.out]; rfl
    go_wp2_with fail
    have hbf := ((box_two HBY.out (.slice none 0 0) (.slice none 0 0)).alloc (.cells #[] 2)).alloc (.cells #[] 2)
    have t0 := (hbf.cell 0).trans rfl
    have t1 := (hbf.cell 1).trans rfl
    refine bodyPost_ret (v := .tuple #[.agg #[.slice none 0 0, .slice none 0 0], .slice (some ⟨w1.heap.size, 0, none⟩) 0 0, .slice (some ⟨w1.heap.size + 1, 0, none⟩) 0 0, .int .i64 1]) (by simp [results, Tryz.results15, go_sem, t0, t1]) rfl ?_
    rw [HE.out, HF.out]
    exact ExPost.bad (own_later (bad_row HB.out.size) (Below.new _ _)) (bad_row2 HB.out.size _) (((below_two HB.out (Nat.le_succ _) _ _).later (Below.new _ _)).later (Below.new _ _))
  · go_wp2_with fail
    refine (HK2.out _ _ _ _).mono ?_
    rintro e w2 ⟨rfl, rfl⟩
    rw [hy]
    cases y
    · have HE : Hid (T = grBad 1) := by unfold Hid; rw [HT.out]; rfl
      have HF : Hid (U = []) := by unfold Hid; rw [HU.out]; rfl
      go_wp2_with fail
      have hbf := ((box_two HBY.out (.slice none 0 0) (.slice none 0 0)).alloc (.cells #[] 2)).alloc (.cells #[] 2)
      have t0 := (hbf.cell 0).trans rfl
      have t1 := (hbf.cell 1).trans rfl
      refine bodyPost_ret (v := .tuple #[.agg #[.slice none 0 0, .slice none 0 0], .slice (some ⟨w1.heap.size, 0, none⟩) 0 0, .slice (some ⟨w1.heap.size + 1, 0, none⟩) 0 0, .int .i64 1]) (by simp [results, Tryz.results15, go_sem, t0, t1]) rfl ?_
      rw [HE.out, HF.out]
      exact ExPost.bad (own_later (bad_row HB.out.size) (Below.new _ _)) (bad_row2 HB.out.size _) (((below_two HB.out (Nat.le_succ _) _ _).later (Below.new _ _)).later (Below.new _ _))
    · have HE : Hid (T = grOk (grantB held (asks.filter fun d => !overB tick d))) := by unfold Hid; rw [HT.out]; rfl
      have HF : Hid (U = goneK tick asks asks.length) := by unfold Hid; rw [HU.out]; rfl
      clear HT HU
      go_wp2_with fail
      refine (HK3.out _ HB.out).mono ?_
      rintro e w2 ⟨v0, v1, vs, us, rfl, hoh, hoa, hxx, hb2⟩
      obtain ⟨A0, c0, rfl, hc0, hcm0, hA0⟩ := own_slice hoh.row
      obtain ⟨A1, c1, rfl, hc1, hcm1, hA1⟩ := own_slice hoa.row
      have hwb := HB.out.size
      have hwb2 := hb2.size
      have hq : w.heap.size + 1 < w2.heap.size := by omega
      have HS0 : Hid (ExS w w2.heap.size held asks vs us tick 0 (.slice A0 held.length c0) (.slice A1 asks.length c1) (.slice none 0 0) (.slice (some ⟨w2.heap.size + 1 + 1, 0, none⟩) 0 0) (((w2.alloc (.cells #[.slice A0 held.length c0, .slice A1 asks.length c1] 27)).alloc (.cells #[.slice A0 held.length c0, .slice none 0 0] 27)).alloc (.cells #[] 2))) := by
        have hbn := ((Below.new w2 (.cells #[.slice A0 held.length c0, .slice A1 asks.length c1] 27)).later (Below.new _ (.cells #[.slice A0 held.length c0, .slice none 0 0] 27))).later (Below.new _ (.cells #[] 2))
        refine ⟨(hoh.base hwb).later hbn, Sv.start ((hoa.base hwb).later hbn), ?_, heap_new1 _ _ _ _, heap_new0 _ _ _ _, (HBY.out.later hb2 z2).later hbn (by omega), (HB.out.later hb2).later hbn⟩
        have h := World.ownsRow_lit (base := w.heap.size) (e := 2) (size := 1) ((w2.alloc (.cells #[.slice A0 held.length c0, .slice A1 asks.length c1] 27)).alloc (.cells #[.slice A0 held.length c0, .slice none 0 0] 27)) #[] 0 (by simp; omega) (by omega) rfl
        have e : ((w2.alloc (.cells #[.slice A0 held.length c0, .slice A1 asks.length c1] 27)).alloc (.cells #[.slice A0 held.length c0, .slice none 0 0] 27)).heap.size = w2.heap.size + 1 + 1 := by simp
        rw [e] at h
        exact h
      have HXX := Lib.hid hxx
      have HOV : Hid (∀ d : ItD, overB tick d = inB d.b 1 tick) := fun _ => rfl
      clear p1 p2 f2 z1 z2 hb2 hoh hoa hxx HK1 HK3 HB HBX HBY
      go_wp2_with fail
      go_loopw [10, 11] (fun vg i wr => ∃ (k : Nat) (wo : Value), k ≤ asks.length ∧ i = .int .i64 k ∧ Hid (ExS w w2.heap.size held asks vs us tick k (.slice A0 held.length c0) (.slice A1 asks.length c1) wo vg wr)) (fun _ i _ => asks.length - (intOf i).toNat)
      case atStart => exact ⟨0, _, Nat.zero_le _, rfl, HS0.out⟩
      case round =>
        obtain ⟨k, wo, hk, rfl, HSr⟩ := hrel
        clear HS0
        have p0 := HSr.out.bo.cell 0
        have p1 := HSr.out.bo.cell 1
        have f0 := HSr.out.bo.frozen 1
        have z0 := HSr.out.bo.lt
        have r0 := HSr.out.bq.cell 0
        have r1 := HSr.out.bq.cell 1
        have z1 := HSr.out.bq.lt
        simp at p0 p1 r0 r1
        by_cases hlt : k < asks.length
        · have hvl := HSr.out.a.its.len
          obtain ⟨S2, q2, hsv, hsq, _⟩ := HSr.out.a.its.sub_at hlt
          have hr := HSr.out.a.its.row
          obtain ⟨g, rfl, _, _⟩ := hA1 (by omega)
          have hgl := (hr.lt g rfl).2
          have x0 := own_cell hr (k * 4) _ (by omega) ((flat_at asks us k 0 hvl hlt (by decide)).trans rfl)
          have x1 := own_cell hr (k * 4 + 1) _ (by omega) ((flat_at asks us k 1 hvl hlt (by decide)).trans rfl)
          have x2 := own_cell hr (k * 4 + 2) _ (by omega) ((flat_at asks us k 2 hvl hlt (by decide)).trans rfl)
          have x3 : wr.cell? ⟨g, k * 4 + 3, none⟩ = some (.slice S2 (asks.getD k default).subs.length q2) := by rw [← hsv]; exact own_cell hr (k * 4 + 3) _ (by omega) ((flat_at asks us k 3 hvl hlt (by decide)).trans rfl)
          have HKeep := Lib.hid (fun (hp : overB tick (asks.getD k default) = false) Y o g cap => HSr.out.put (Y := Y) (o := o) (g := g) (cap := cap) hq hlt hp)
          have HGone := Lib.hid (fun (hp : overB tick (asks.getD k default) = true) Y o v => HSr.out.gone (Y := Y) (o := o) (vg2 := v) hlt hp)
          have hsl := sel_le (fun d => !overB tick d) asks us k
          have hgk := goneK_le tick asks k
          have HV : Hid (∀ o, (wr.alloc o).ownsRow w.heap.size 42 4 wo (sel (fun d => !overB tick d) asks us k).length (flat ((sel (fun d => !overB tick d) asks us k).map (·.1)) ((sel (fun d => !overB tick d) asks us k).map (·.2)))) := fun o => own_later HSr.out.a.row (Below.new _ o)
          have HGV : Hid (∀ o, (wr.alloc o).ownsRow w.heap.size 2 1 u10 (goneK tick asks k).length ((goneK tick asks k).map (Value.int .i64))) := fun o => own_later HSr.out.g (Below.new _ o)
          have HBO := Lib.hid (fun o => HSr.out.bo.alloc o)
          have hlow := HSr.out.low.size
          rw [hsv] at HKeep
          clear hvl hr hsv HSr
          generalize asks.getD k default = d at *
          generalize (sel (fun d => !overB tick d) asks us k).length = m at *
          generalize flat ((sel (fun d => !overB tick d) asks us k).map (·.1)) ((sel (fun d => !overB tick d) asks us k).map (·.2)) = xs at *
          generalize (goneK tick asks k).length = gm at *
          generalize (goneK tick asks k).map (Value.int .i64) = gs at *
          obtain ⟨da, db, nm, dss⟩ := d
          dsimp only at x0 x1 x2 x3 HKeep HGone hsq
          go_wp2_with fail
          refine (HK2.out _ _ _ _).mono ?_
          rintro e w5 ⟨rfl, rfl⟩
          generalize hov : inB db 1 tick = ov at *
          cases ov
          · have HS2 := Lib.hid (HKeep.out (by rw [HOV.out]; exact hov))
            clear HKeep HGone HGV hov
            go_wp2_with fail
            go_region_law (first
              | (refine step_append_lies _ (by rfl) _ _ _ (by rfl) w.heap.size 42 j0 _ 4 56 Tryz.underlying25 gi gz0 gz1 gz2 rfl (by omega) wo m xs (by rfl) (by exact HV.out _)
                  ⟨wr.heap.size, 0, none⟩ 1 1 (cellsIt ⟨da, db, nm, dss⟩ (.slice S2 dss.length q2)) (by rfl) (by rfl) (by exact cells_new wr #[.int .i64 da, .int .i64 db, .string nm, .slice S2 dss.length q2] _) (by simp [cellsIt, Value.oneCell'])
                  (by omega) (by unfold maxLen; omega) (by omega) (by simp; omega) (wr.heap.size + 1) (by simp) ?_
                 intro gg cap w3 hown3 hgrow hat hlt2
                 have hgrow' : (wr.alloc (.cells #[.int .i64 da, .int .i64 db, .string nm, .slice S2 dss.length q2] 42)).grownBy w3 (Value.ownBlock wo) := ⟨hgrow.os, hgrow.tape, hgrow.output, hgrow.size, hgrow.block⟩
                 have hbg := (HBO.out (.cells #[.int .i64 da, .int .i64 db, .string nm, .slice S2 dss.length q2] 42)).grown hgrow' (fun e => own_blk_ne (HV.out (.cells #[.int .i64 da, .int .i64 db, .string nm, .slice S2 dss.length q2] 42)) (HBO.out _) (by decide) e.symm)
                 have p5 := hbg.cell 1
                 have f5 := hbg.frozen 1
                 have z5 := hbg.lt
                 have HS3 := Lib.hid (HS2.out w3 _ gg cap hown3 hgrow' hat)
                 clear hbg hown3 hgrow hgrow'))
            all_goals
              clear x0 x1 x2 x3 r0 r1 p0 p1 f0
              go_wp2_with fail
              go_roundw
              case rel => exact ⟨k + 1, _, by omega, by go_num, HS3.out⟩
              case measure => simp [intOf]; omega
          · have HS2 := Lib.hid (HGone.out (by rw [HOV.out]; exact hov))
            clear HKeep HGone HV hov
            go_wp2_with (at_builtin; refine wpList_append_own _ rfl (.tmp 46) (.tmp 53) 30 rfl w.heap.size 2 i0 (.int .i64 0) 1 8 Tryz.underlying30 hi hz0 hz1 hz2 rfl (by decide) _ gm _ rfl (HGV.out _) ⟨_, 0, none⟩ 1 1 [.int .i64 da] rfl rfl ?c1 ?c2 ?c3 ?c4 ?c5 ?_)
            case c1 => exact cells_at _ #[.int .i64 da] _ _ (by simp)
            case c2 => simp [Value.oneCell']
            case c3 => unfold maxLen; omega
            case c4 => omega
            case c5 => simp; omega
            intro v6 w6 hown6 hg6 _
            have HS3 := Lib.hid (HS2.out w6 _ v6 hown6 hg6)
            clear hown6 hg6 x0 x1 x2 x3 r0 r1 p0 p1 f0
            go_wp2_with fail
            go_roundw
            case rel => exact ⟨k + 1, wo, by omega, by go_num, HS3.out⟩
            case measure => simp [intOf]; omega
        · obtain rfl : k = asks.length := by omega
          obtain ⟨hoa, hs2⟩ := HSr.out.a.done
          obtain ⟨A7, c7, rfl, _, _, _⟩ := own_slice hoa.row
          have HG := Lib.hid (l24Grant_any w.heap.size A0 A7 c0 c7 _ _ _ _ wr HSr.out.h hoa (fun x hx y hy => HXX.out x hx y (hs2 y hy)) HSr.out.low.size (HOK.out trivial))
          have HBR := Lib.hid HSr.out.br
          have HLO := Lib.hid HSr.out.low
          have HGO := Lib.hid HSr.out.g
          clear hs2 hoa HSr f0
          generalize grantB held (asks.filter fun d => !overB tick d) = R at *
          generalize (asks.filter fun d => !overB tick d).length = l2 at *
          go_wp2_with fail
          refine HG.out.mono ?_
          rintro e w6 ⟨x0, x1, vs2, us2, vo2, rfl, g0, g1, gx, gr, hb6⟩
          obtain ⟨A8, c8, rfl, _, _, _⟩ := own_slice g0.row
          obtain ⟨A9, c9, rfl, _, _, _⟩ := own_slice g1.row
          have HBR2 := Lib.hid (HBR.out.later hb6 HBR.out.lt)
          have HLO2 := Lib.hid (HLO.out.later hb6)
          have HGO2 := Lib.hid (own_later HGO.out hb6)
          have G0 := Lib.hid g0
          have G1 := Lib.hid g1
          have GX := Lib.hid gx
          have GR := Lib.hid gr
          have t0 := HBR2.out.cell 0
          have t1 := HBR2.out.cell 1
          have e0 := HBR2.out.frozen 0
          have e1 := HBR2.out.frozen 1
          have ez := HBR2.out.lt
          simp at t0 t1
          clear g0 g1 gx gr hb6 p0 p1 z0 r0 r1 z1
          go_wp2_with fail
          have hbf := (box_two HBR2.out (.slice A8 R.1.length c8) (.slice A9 R.2.1.length c9)).alloc (.cells #[.slice A8 R.1.length c8, .slice A9 R.2.1.length c9] 27)
          have t0 := (hbf.cell 0).trans rfl
          have t1 := (hbf.cell 1).trans rfl
          refine bodyPost_ret (v := .tuple #[.agg #[.slice A8 R.1.length c8, .slice A9 R.2.1.length c9], u10, vo2, .int .i64 0]) (by simp [results, Tryz.results15, go_sem, t0, t1]) rfl ?_
          rw [HE.out, HF.out]
          exact ExPost.good ((G0.out.two HBR2.out (by decide)).later (Below.new _ _)) ((G1.out.two HBR2.out (by decide)).later (Below.new _ _)) GX.out (own_later (row_two HGO2.out HBR2.out (by decide)) (Below.new _ _)) (own_later (row_two GR.out HBR2.out (by decide)) (Below.new _ _)) (Nat.le_refl _) ((below_two HLO2.out (Nat.le_succ _) _ _).later (Below.new _ _))
end Go.Proofs.YtiebcdajoddkpaaGreatDoor

namespace Go.Proofs.YtiebcdajoddkpaaGreatDoor
open Go.RowKit
set_option linter.unusedVariables false

/-- While the held are looked at: what stays. -/
structure JdH (B base p : Nat) (w : World) (held asks : List ItD) (vs us : List Value) (v0 v1 : Value) (X : World) : Prop where
  blk : Blk X p 27 #[v0, v1]
  a : OwnIts X base 42 v1 asks us
  subs : ∀ x ∈ held.zip vs, SubO X base x.2 x.1.subs
  low : Below B w X
  keep : Keeps w X
/-- While the asks are looked at: what stays. -/
structure JdA (B base p : Nat) (w : World) (held asks : List ItD) (vs us : List Value) (v0 v1 : Value) (X : World) : Prop where
  blk : Blk X p 27 #[v0, v1]
  h : OwnIts X base 37 v0 held vs
  subs : ∀ x ∈ asks.zip us, SubO X base x.2 x.1.subs
  low : Below B w X
  keep : Keeps w X
section
variable {B base p : Nat} {w : World} {held asks : List ItD} {vs us : List Value} {v0 v1 : Value} {X Y : World}
theorem JdH.of (h : LkO X base p v0 v1 held asks vs us) (hl : Below B w X) (hk : Keeps w X) : JdH B base p w held asks vs us v0 v1 X := ⟨h.blk, h.a, h.h.pair, hl, hk⟩
theorem JdA.of (h : LkO X base p v0 v1 held asks vs us) (hl : Below B w X) (hk : Keeps w X) : JdA B base p w held asks vs us v0 v1 X := ⟨h.blk, h.h, h.a.pair, hl, hk⟩
theorem JdH.later (s : JdH B base p w held asks vs us v0 v1 X) (hb : Below X.heap.size X Y) (hB : B ≤ w.heap.size) : JdH B base p w held asks vs us v0 v1 Y :=
  ⟨s.blk.later hb s.blk.lt, s.a.later hb, fun x hx => own_later (s.subs x hx) hb, s.low.trans (hb.mono (by have := s.low.size; omega)), s.keep.trans (Keeps.of_below hb)⟩
theorem JdA.later (s : JdA B base p w held asks vs us v0 v1 X) (hb : Below X.heap.size X Y) (hB : B ≤ w.heap.size) : JdA B base p w held asks vs us v0 v1 Y :=
  ⟨s.blk.later hb s.blk.lt, s.h.later hb, fun x hx => own_later (s.subs x hx) hb, s.low.trans (hb.mono (by have := s.low.size; omega)), s.keep.trans (Keeps.of_below hb)⟩
theorem JdH.store (s : JdH B base p w held asks vs us v0 v1 X) {n : Nat} {ys : List Value} (hr : X.ownsRow base 37 4 v0 n ys) (hg : X.grownBy Y v0.ownBlock) (hB : B ≤ base) (hBw : B ≤ w.heap.size) : JdH B base p w held asks vs us v0 v1 Y :=
  ⟨s.blk.grown hg (fun e => own_blk_ne hr s.blk (by decide) e.symm), s.a.keptRow hr (by decide) (by decide) hg, fun x hx => kept_apart (s.subs x hx) hg (apart_types (s.subs x hx) hr (by decide)), s.low.grown hg (by have := s.low.size; omega) (fun g hg' => Nat.le_trans hB (hr.lt g hg').1), s.keep.trans (Keeps.grown hr hg (.inl rfl))⟩
theorem JdA.store (s : JdA B base p w held asks vs us v0 v1 X) {n : Nat} {ys : List Value} (hr : X.ownsRow base 42 4 v1 n ys) (hg : X.grownBy Y v1.ownBlock) (hB : B ≤ base) (hBw : B ≤ w.heap.size) : JdA B base p w held asks vs us v0 v1 Y :=
  ⟨s.blk.grown hg (fun e => own_blk_ne hr s.blk (by decide) e.symm), s.h.keptRow hr (by decide) (by decide) hg, fun x hx => kept_apart (s.subs x hx) hg (apart_types (s.subs x hx) hr (by decide)), s.low.grown hg (by have := s.low.size; omega) (fun g hg' => Nat.le_trans hB (hr.lt g hg').1), s.keep.trans (Keeps.grown hr hg (.inr rfl))⟩
/-- What is left when the items of a row are sifted, and the row is laid back. -/
theorem JdH.done (s : JdH B base p w held asks vs us v0 v1 X) (hO : LkO Y base p v0 v1 held asks vs us) (q : ItD → Bool) {v : Value} (hr : X.ownsRow base 37 4 v ((held.zip vs).filter fun x => !q x.1).length (flat (((held.zip vs).filter fun x => !q x.1).map (·.1)) (((held.zip vs).filter fun x => !q x.1).map (·.2)))) (hB : B ≤ base) :
    LkO (X.setCell ⟨p, 0, none⟩ v) base p v v1 (held.filter fun d => !q d) asks (((held.zip vs).filter fun x => !q x.1).map (·.2)) us ∧ Below B w (X.setCell ⟨p, 0, none⟩ v) ∧ Keeps w (X.setCell ⟨p, 0, none⟩ v) := by
  refine ⟨⟨?_, hO.above, ?_, s.a.grownOther s.blk (by decide) (by decide) (grown_set _ _ _ _), fun x hx y hy => ?_⟩, s.low.setCell (p := ⟨p, 0, none⟩) (Nat.le_trans hB hO.above) _, s.keep.trans (Keeps.setCell s.blk (.inr (.inr rfl)))⟩
  · have := s.blk.set_ 0 v
    simpa using this
  · refine OwnIts.grownOther ?_ s.blk (by decide) (by decide) (grown_set _ _ _ _)
    have h := OwnIts.sub_pairs (w' := X) (v' := v) hO.h (xs := (held.zip vs).filter fun x => !q x.1) List.filter_sublist hr (fun x hx _ => s.subs x hx)
    rw [zip_filter (fun d => !q d) held vs hO.h.len] at h
    exact h
  · obtain ⟨⟨a, b⟩, hx2, rfl⟩ := List.mem_map.1 hx
    exact hO.cross _ (List.of_mem_zip (List.mem_filter.1 hx2).1).2 y hy
theorem JdA.done (s : JdA B base p w held asks vs us v0 v1 X) (hO : LkO Y base p v0 v1 held asks vs us) (q : ItD → Bool) {v : Value} (hr : X.ownsRow base 42 4 v ((asks.zip us).filter fun x => !q x.1).length (flat (((asks.zip us).filter fun x => !q x.1).map (·.1)) (((asks.zip us).filter fun x => !q x.1).map (·.2)))) (hB : B ≤ base) :
    LkO (X.setCell ⟨p, 1, none⟩ v) base p v0 v held (asks.filter fun d => !q d) vs (((asks.zip us).filter fun x => !q x.1).map (·.2)) ∧ Below B w (X.setCell ⟨p, 1, none⟩ v) ∧ Keeps w (X.setCell ⟨p, 1, none⟩ v) := by
  refine ⟨⟨?_, hO.above, s.h.grownOther s.blk (by decide) (by decide) (grown_set _ _ _ _), ?_, fun x hx y hy => ?_⟩, s.low.setCell (p := ⟨p, 1, none⟩) (Nat.le_trans hB hO.above) _, s.keep.trans (Keeps.setCell s.blk (.inr (.inr rfl)))⟩
  · have := s.blk.set_ 1 v
    simpa using this
  · refine OwnIts.grownOther ?_ s.blk (by decide) (by decide) (grown_set _ _ _ _)
    have h := OwnIts.sub_pairs (w' := X) (v' := v) hO.a (xs := (asks.zip us).filter fun x => !q x.1) List.filter_sublist hr (fun x hx _ => s.subs x hx)
    rw [zip_filter (fun d => !q d) asks us hO.a.len] at h
    exact h
  · obtain ⟨⟨a, b⟩, hy2, rfl⟩ := List.mem_map.1 hy
    exact hO.cross x hx _ (List.of_mem_zip (List.mem_filter.1 hy2).1).2
end

theorem dropAll1_any (g : Nat) (job : Int) (d : ItD) (c3 : Value) (w : World) (hg : g < w.heap.size) (hB : w.cell? ⟨g, 0, none⟩ = some (.int .i64 job)) :
    Calls Tryz.prog 83 #[.agg #[.int .i64 d.a, .int .i64 d.b, .string d.name, c3], .pointer (some ⟨g, 0, none⟩)] w fun e w' => e = .returned (.bool (jobP job d)) ∧ Below w.heap.size w w' := by
  have HP : Hid (jobP job d = decide (d.a = job)) := rfl
  generalize jobP job d = R at *
  generalize d.a = fa at *
  generalize d.b = fb at *
  generalize d.name = fn at *
  by_cases hj : fa = job
  · subst hj
    have HE : Hid (R = true) := by unfold Hid; rw [HP.out]; simp
    go_enter Tryz.func83, Tryz.ntmps83
    go_wp2_with fail
    go_ret
    exact ⟨ret_bool HE.out.symm, Below.new _ _⟩
  · have hb : (fa == job) = false := by rw [beq_eq_false_iff_ne]; exact hj
    have HE : Hid (R = false) := by unfold Hid; rw [HP.out]; simp [hj]
    clear hj
    go_enter Tryz.func83, Tryz.ntmps83
    go_wp2_with fail
    go_ret
    exact ⟨ret_bool HE.out.symm, Below.new _ _⟩
theorem dropAll2_any (g : Nat) (job : Int) (d : ItD) (c3 : Value) (w : World) (hg : g < w.heap.size) (hB : w.cell? ⟨g, 0, none⟩ = some (.int .i64 job)) :
    Calls Tryz.prog 85 #[.agg #[.int .i64 d.a, .int .i64 d.b, .string d.name, c3], .pointer (some ⟨g, 0, none⟩)] w fun e w' => e = .returned (.bool (jobP job d)) ∧ Below w.heap.size w w' := by
  have HP : Hid (jobP job d = decide (d.a = job)) := rfl
  generalize jobP job d = R at *
  generalize d.a = fa at *
  generalize d.b = fb at *
  generalize d.name = fn at *
  by_cases hj : fa = job
  · subst hj
    have HE : Hid (R = true) := by unfold Hid; rw [HP.out]; simp
    go_enter Tryz.func85, Tryz.ntmps85
    go_wp2_with fail
    go_ret
    exact ⟨ret_bool HE.out.symm, Below.new _ _⟩
  · have hb : (fa == job) = false := by rw [beq_eq_false_iff_ne]; exact hj
    have HE : Hid (R = false) := by unfold Hid; rw [HP.out]; simp [hj]
    clear hj
    go_enter Tryz.func85, Tryz.ntmps85
    go_wp2_with fail
    go_ret
    exact ⟨ret_bool HE.out.symm, Below.new _ _⟩

def DaPost (B base p : Nat) (held asks : List ItD) (w : World) (e : Ending) (w' : World) : Prop :=
  e = .returned (.tuple #[]) ∧ ∃ v0 v1 vs us, LkO w' base p v0 v1 held asks vs us ∧ Below B w w' ∧ Keeps w w'
set_option maxRecDepth 100000 in
set_option maxHeartbeats 2000000 in
theorem dropAll_any (B base p : Nat) (v0 v1 : Value) (held asks : List ItD) (vs us : List Value) (job : Int) (w : World) (h : LkO w base p v0 v1 held asks vs us) (hB : B ≤ base) (hBw : base ≤ w.heap.size) (hn : held.length ≤ 1048576) (hn' : asks.length ≤ 1048576) :
    Calls Tryz.prog 40 #[.pointer (some ⟨p, 0, none⟩), .int .i64 job] w (DaPost B base p (held.filter fun d => !jobP job d) (asks.filter fun d => !jobP job d) w) := by
  have eg1 : ∀ args w, (callFunc 83 args).run Tryz.prog w = .ok (.enter 83 args) w := enters_of Tryz.func83 (by kernel_rfl) rfl
  have eg2 : ∀ args w, (callFunc 85 args).run Tryz.prog w = .ok (.enter 85 args) w := enters_of Tryz.func85 (by kernel_rfl) rfl
  have hBw2 : B ≤ w.heap.size := by omega
  have hbn := Below.new w (.cells #[.int .i64 job] 2)
  have HO := Lib.hid (h.later hbn)
  have hjb : Blk (w.alloc (.cells #[.int .i64 job] 2)) w.heap.size 2 #[.int .i64 job] := heap_last rfl
  have hlow : Below B w (w.alloc (.cells #[.int .i64 job] 2)) := hbn.mono (by omega)
  have hPH : PredJ 37 83 #[.pointer (some ⟨w.heap.size, 0, none⟩)] (jobP job) base v0 held vs (fun _ W => JdH B base p w held asks vs us v0 v1 W ∧ Blk W w.heap.size 2 #[.int .i64 job]) := by
    refine ⟨fun j hj W ys hJ hr => ?_, fun j W o hJ => ⟨hJ.1.later (Below.new _ _) hBw2, hJ.2.alloc o⟩, fun j W W' ys hJ hr hg => ⟨hJ.1.store hr hg hB hBw2, hJ.2.grown hg (fun e => own_blk_ne hr hJ.2 (by decide) e.symm)⟩⟩
    refine (dropAll1_any w.heap.size job (held.getD j default) (vs.getD j (.slice none 0 0)) W hJ.2.lt (by have := hJ.2.cell 0; simpa using this)).mono ?_
    rintro e W' ⟨rfl, hb⟩
    exact ⟨rfl, ⟨hJ.1.later hb hBw2, hJ.2.later hb hJ.2.lt⟩, own_later hr hb, fun h0 cs t hbk _ _ => hbk.later hb hbk.lt⟩
  have HKH := Lib.hid (DeleteFuncSLock_any 83 #[.pointer (some ⟨w.heap.size, 0, none⟩)] (jobP job) base v0 held vs _ (w.alloc (.cells #[.int .i64 job] 2)) HO.out.h.row HO.out.h.len
    (fun j hj => by obtain ⟨S, q, e, _⟩ := HO.out.h.sub_at hj; exact ⟨_, _, _, e⟩) hn (by simp; omega) eg1 ⟨JdH.of HO.out hlow (Keeps.of_below hbn), hjb⟩ hPH)
  have HKA := Lib.hid (fun (vs2 : List Value) (held2 : List ItD) (v2 : Value) (W : World) (hO : LkO W base p v2 v1 held2 asks vs2 us) (hl : Below B w W) (hk : Keeps w W) (hj : Blk W w.heap.size 2 #[.int .i64 job]) =>
    DeleteFuncSAsk_any 85 #[.pointer (some ⟨w.heap.size, 0, none⟩)] (jobP job) base v1 asks us (fun _ W => JdA B base p w held2 asks vs2 us v2 v1 W ∧ Blk W w.heap.size 2 #[.int .i64 job]) W hO.a.row hO.a.len
      (fun j hj => by obtain ⟨S, q, e, _⟩ := hO.a.sub_at hj; exact ⟨_, _, _, e⟩) hn' (by have := hl.size; have := hO.blk.lt; have := hO.above; omega) eg2 ⟨JdA.of hO hl hk, hj⟩ (by
        refine ⟨fun j hj W ys hJ hr => ?_, fun j W o hJ => ⟨hJ.1.later (Below.new _ _) hBw2, hJ.2.alloc o⟩, fun j W W' ys hJ hr hg => ⟨hJ.1.store hr hg hB hBw2, hJ.2.grown hg (fun e => own_blk_ne hr hJ.2 (by decide) e.symm)⟩⟩
        refine (dropAll2_any w.heap.size job (asks.getD j default) (us.getD j (.slice none 0 0)) W hJ.2.lt (by have := hJ.2.cell 0; simpa using this)).mono ?_
        rintro e W' ⟨rfl, hb⟩
        exact ⟨rfl, ⟨hJ.1.later hb hBw2, hJ.2.later hb hJ.2.lt⟩, own_later hr hb, fun h0 cs t hbk _ _ => hbk.later hb hbk.lt⟩))
  have hpw := h.blk.lt
  obtain ⟨A0, c0, rfl, _, _, _⟩ := own_slice h.h.row
  obtain ⟨A1, c1, rfl, _, _, _⟩ := own_slice h.a.row
  have p0 := h.blk.cell 0
  have p1 := h.blk.cell 1
  have f0 := h.blk.frozen 0
  simp at p0 p1
  clear h eg1 eg2 hPH hbn hjb hlow
  go_enter Tryz.func40, Tryz.ntmps40
  go_wp2_with fail
  refine HKH.out.mono ?_
  rintro e w1 ⟨v, rfl, hr, hJ, hjb⟩
  obtain ⟨hl1, hb1, hk1⟩ := hJ.done HO.out (jobP job) hr hB
  obtain ⟨A2, c2, rfl, _, _, _⟩ := own_slice hr
  have HJB := Lib.hid (hjb.far (p := ⟨p, 0, none⟩) (show w.heap.size ≠ p by omega) (.slice A2 ((held.zip vs).filter fun x => !jobP job x.1).length c2))
  have HL1 := Lib.hid hl1
  have HB1 := Lib.hid hb1
  have HK1 := Lib.hid hk1
  have p5 := hJ.blk.cell 0
  have p6 := hJ.blk.cell 1
  have f5 := hJ.blk.frozen 0
  have z5 := hJ.blk.lt
  simp at p5 p6
  clear p0 p1 f0 hr hJ hjb hl1 hb1 hk1 HKH
  generalize ((held.zip vs).filter fun x => !jobP job x.1).length = l2 at *
  go_wp2_with fail
  refine (HKA.out _ _ _ _ HL1.out HB1.out HK1.out HJB.out).mono ?_
  rintro e w2 ⟨v, rfl, hr, hJ, hjb⟩
  obtain ⟨hl1, hb1, hk1⟩ := hJ.done HL1.out (jobP job) hr hB
  obtain ⟨A3, c3, rfl, _, _, _⟩ := own_slice hr
  have HL2 := Lib.hid hl1
  have HB2 := Lib.hid hb1
  have HK2 := Lib.hid hk1
  clear p5 p6 f5 z5
  have p5 := hJ.blk.cell 0
  have p6 := hJ.blk.cell 1
  have f5 := hJ.blk.frozen 1
  have z5 := hJ.blk.lt
  simp at p5 p6
  clear hr hJ hjb hl1 hb1 hk1 HKA
  generalize ((asks.zip us).filter fun x => !jobP job x.1).length = l3 at *
  go_wp2_with fail
  refine bodyPost_ret (v := .tuple #[]) (results_none rfl _ _ _) rfl ?_
  exact ⟨rfl, _, _, _, _, HL2.out, HB2.out, HK2.out⟩

/-- What a call leaves that has only a row of numbers and its box of its own. -/
def Typed (w w' : World) : Prop := ∀ g t cs, t ≠ 2 → t ≠ 30 → Blk w g t cs → Blk w' g t cs
theorem Typed.row {a b : World} (h : Typed a b) {base e size n : Nat} {v : Value} {xs : List Value} (hr : a.ownsRow base e size v n xs) (h1 : e ≠ 2) (h2 : e ≠ 30) : b.ownsRow base e size v n xs := by
  obtain ⟨hl, h4⟩ := hr
  refine ⟨hl, ?_⟩
  rcases h4 with h4 | ⟨g, cap, cur, e1, e2, e3, e4⟩
  · exact .inl h4
  · exact .inr ⟨g, cap, cur, e1, e2, h g e cur h1 h2 e3, e4⟩
theorem OwnIts.typed {w w' : World} {base t : Nat} {v : Value} {fs : List ItD} {vs : List Value} (h : OwnIts w base t v fs vs) (k : Typed w w') (h1 : t ≠ 2) (h2 : t ≠ 30) : OwnIts w' base t v fs vs :=
  ⟨h.len, k.row h.row h1 h2, fun j hj => k.row (h.subs j hj) (by decide) (by decide), h.aprt⟩
theorem JdA.typed {B base p R : Nat} {w : World} {held asks : List ItD} {vs us : List Value} {v0 v1 : Value} {X Y : World} (s : JdA B base p w held asks vs us v0 v1 X) (k : Typed X Y) (hb : Below R X Y) (hR : w.heap.size ≤ R) (hB : B ≤ w.heap.size) : JdA B base p w held asks vs us v0 v1 Y :=
  ⟨k _ _ _ (by decide) (by decide) s.blk, s.h.typed k (by decide) (by decide), fun x hx => k.row (s.subs x hx) (by decide) (by decide), s.low.trans (hb.mono (by omega)), fun g t cs h1 h2 h3 hbk => (s.keep g t cs h1 h2 h3 hbk).later hb (by have := hbk.lt; omega)⟩
def ExpPost (R g2 : Nat) (tick : Int) (d : ItD) (gs : List Int) (w : World) (e : Ending) (w' : World) : Prop :=
  e = .returned (.bool (overB tick d)) ∧ (∃ vo, Blk w' g2 30 #[vo] ∧ w'.ownsRow R 2 1 vo (if overB tick d = true then gs ++ [d.a] else gs).length ((if overB tick d = true then gs ++ [d.a] else gs).map (Value.int .i64))) ∧ Typed w w' ∧ Below R w w'
set_option maxRecDepth 100000 in
set_option maxHeartbeats 2000000 in
theorem expire1_any (R g1 g2 : Nat) (tick : Int) (d : ItD) (c3 vo : Value) (gs : List Int) (w : World) (h1 : Blk w g1 2 #[.int .i64 tick]) (h2 : Blk w g2 30 #[vo]) (hr : w.ownsRow R 2 1 vo gs.length (gs.map (Value.int .i64))) (hR : R ≤ g2) (hg1 : g1 < R) (hgs : gs.length ≤ 1048576) (hRw : R ≤ w.heap.size) (hc3 : ∃ A1 n1 p1, c3 = .slice A1 n1 p1) :
    Calls Tryz.prog 95 #[.agg #[.int .i64 d.a, .int .i64 d.b, .string d.name, c3], .pointer (some ⟨g1, 0, none⟩), .pointer (some ⟨g2, 0, none⟩)] w (ExpPost R g2 tick d gs w) := by
  obtain ⟨i0, hi, hz0, hz1, hz2⟩ := info_parts infoI64
  obtain ⟨A1, n1, cp1, rfl⟩ := hc3
  have HK := Lib.hid (fun W => within_any d.b 1 tick W)
  have HO : Hid (overB tick d = (decide (1 ≤ d.b) && decide (d.b ≤ tick))) := rfl
  have q1 := h1.cell 0
  have q2 := h2.cell 0
  have f2 := h2.frozen 0
  have y1 := h1.lt
  have y2 := h2.lt
  simp at q1 q2
  have H2 := Lib.hid h2
  have HR := Lib.hid hr
  have hne : g1 ≠ g2 := by omega
  clear h1 h2 hr
  unfold ExpPost
  generalize overB tick d = ov at *
  generalize (decide (1 ≤ d.b) && decide (d.b ≤ tick)) = ow at *
  obtain ⟨da, db, nm, dss⟩ := d
  dsimp only at *
  have HBN := Lib.hid (Below.new w (.cells #[.int .i64 da, .int .i64 db, .string nm, .slice A1 n1 cp1] 42))
  obtain rfl : ov = ow := HO.out
  obtain ⟨Av, cv, rfl, _, _, _⟩ := own_slice HR.out
  go_enter Tryz.func95, Tryz.ntmps95
  go_wp2_with fail
  refine (HK.out _).mono ?_
  rintro e w1 ⟨rfl, rfl⟩
  cases ov
  · go_wp2_with fail
    go_ret
    exact ⟨rfl, ⟨_, H2.out.alloc _, own_later HR.out HBN.out⟩, fun g t cs _ _ hb => hb.alloc _, HBN.out.mono hRw⟩
  · have HRW : Hid (∀ o, ((w.alloc (.cells #[.int .i64 da, .int .i64 db, .string nm, .slice A1 n1 cp1] 42)).alloc o).ownsRow R 2 1 (.slice Av gs.length cv) gs.length (gs.map (Value.int .i64))) := fun o => own_later (own_later HR.out HBN.out) (Below.new _ o)
    generalize hgl : gs.length = gl at *
    go_wp2_with (at_builtin; refine wpList_append_own _ rfl (.tmp 11) (.tmp 14) 30 rfl R 2 i0 (.int .i64 0) 1 8 Tryz.underlying30 hi hz0 hz1 hz2 rfl (by decide) _ gl _ rfl (HRW.out _) ⟨_, 0, none⟩ 1 1 [.int .i64 da] rfl rfl ?c1 ?c2 ?c3 ?c4 ?c5 ?_)
    case c1 => exact cells_at _ #[.int .i64 da] _ _ (by simp)
    case c2 => simp [Value.oneCell']
    case c3 => unfold maxLen; omega
    case c4 => omega
    case c5 => simp; omega
    intro v6 w6 hown6 hg6 _
    have hrow0 := HRW.out (.cells #[.int .i64 da] 2)
    obtain ⟨A6, c6, rfl, _, _, _⟩ := own_slice hown6
    have hty : Typed w w6 := fun g t cs h1 h2 hb => ((hb.alloc _).alloc _).grown hg6 (fun e => own_blk_ne hrow0 ((hb.alloc _).alloc _) (fun e' => h1 e'.symm) e.symm)
    have hbx := ((H2.out.alloc (.cells #[.int .i64 da, .int .i64 db, .string nm, .slice A1 n1 cp1] 42)).alloc (.cells #[.int .i64 da] 2)).grown hg6 (fun e => own_blk_ne hrow0 ((H2.out.alloc _).alloc _) (by decide) e.symm)
    have hlow : Below R w w6 := ((HBN.out.later (Below.new _ _)).mono hRw).grown hg6 (by simp; omega) (fun g hg => (hrow0.lt g hg).1)
    have p5 := hbx.cell 0
    have f5 := hbx.frozen 0
    have z5 := hbx.lt
    simp at p5
    have HBX := Lib.hid hbx
    have HTY : Hid (Typed w (w6.setCell ⟨g2, 0, none⟩ (.slice A6 (gl + 1) c6))) := fun g t cs h1 h2 hb => (hty g t cs h1 h2 hb).far (p := ⟨g2, 0, none⟩) ((hty g t cs h1 h2 hb).ne_ hbx h2) _
    have HLO := Lib.hid (hlow.setCell (p := ⟨g2, 0, none⟩) hR (.slice A6 (gl + 1) c6))
    have HRO : Hid ((w6.setCell ⟨g2, 0, none⟩ (.slice A6 (gl + 1) c6)).ownsRow R 2 1 (.slice A6 (gl + 1) c6) (gl + 1) (gs.map (Value.int .i64) ++ [.int .i64 da])) := hown6.kept (grown_set _ _ _ _) (.inr (own_blk_ne hown6 hbx (by decide)))
    clear hown6 hg6 hrow0 hty hbx hlow
    go_wp2_with fail
    go_ret
    refine ⟨rfl, ⟨.slice A6 (gl + 1) c6, ?_, ?_⟩, HTY.out, HLO.out⟩
    · have := HBX.out.set_ 0 (.slice A6 (gl + 1) c6)
      simpa using this
    · exact HRO.out

def ExpirePost (B base p : Nat) (v0 : Value) (held asks : List ItD) (vs : List Value) (gone : List Int) (w : World) (e : Ending) (w' : World) : Prop :=
  ∃ vo v1 us, e = .returned vo ∧ LkO w' base p v0 v1 held asks vs us ∧ w'.ownsRow w.heap.size 2 1 vo gone.length (gone.map (Value.int .i64)) ∧ Below B w w' ∧ Keeps w w'
set_option maxRecDepth 100000 in
set_option maxHeartbeats 2000000 in
theorem expire_any (B base p : Nat) (v0 v1 : Value) (held asks : List ItD) (vs us : List Value) (tick : Int) (w : World) (h : LkO w base p v0 v1 held asks vs us) (hB : B ≤ base) (hBw : base ≤ w.heap.size) (hn' : asks.length ≤ 1048576) :
    Calls Tryz.prog 48 #[.pointer (some ⟨p, 0, none⟩), .int .i64 tick] w (ExpirePost B base p v0 held (asks.filter fun d => !overB tick d) vs (goneK tick asks asks.length) w) := by
  have eg : ∀ args w, (callFunc 95 args).run Tryz.prog w = .ok (.enter 95 args) w := enters_of Tryz.func95 (by kernel_rfl) rfl
  have hBw2 : B ≤ w.heap.size := by omega
  obtain ⟨X, hX⟩ : ∃ X, X = ((w.alloc (.cells #[.int .i64 tick] 2)).alloc (.cells #[] 2)).alloc (.cells #[.slice (some ⟨w.heap.size + 1, 0, none⟩) 0 0] 30) := ⟨_, rfl⟩
  have hbn : Below w.heap.size w X := by rw [hX]; exact ((Below.new w _).later (Below.new _ _)).later (Below.new _ _)
  have HO := Lib.hid (h.later hbn)
  have hx0 : Blk X w.heap.size 2 #[.int .i64 tick] := by rw [hX]; exact heap_new0 _ _ _ _
  have hx2 : Blk X (w.heap.size + 1 + 1) 30 #[.slice (some ⟨w.heap.size + 1, 0, none⟩) 0 0] := by rw [hX]; exact heap_new2 _ _ _ _
  have hxr : X.ownsRow (w.heap.size + 1) 2 1 (.slice (some ⟨w.heap.size + 1, 0, none⟩) 0 0) (goneK tick asks 0).length ((goneK tick asks 0).map (Value.int .i64)) := by
    have hh := World.ownsRow_lit (base := w.heap.size + 1) (e := 2) (size := 1) (w.alloc (.cells #[.int .i64 tick] 2)) #[] 0 (by simp) (by omega) rfl
    have e : (w.alloc (.cells #[.int .i64 tick] 2)).heap.size = w.heap.size + 1 := by simp
    rw [e] at hh
    rw [hX]
    exact own_later hh (Below.new _ _)
  have hP : PredJ 42 95 #[.pointer (some ⟨w.heap.size, 0, none⟩), .pointer (some ⟨w.heap.size + 1 + 1, 0, none⟩)] (overB tick) base v1 asks us
      (fun j W => JdA B base p w held asks vs us v0 v1 W ∧ Blk W w.heap.size 2 #[.int .i64 tick] ∧ ∃ vo, Blk W (w.heap.size + 1 + 1) 30 #[vo] ∧ W.ownsRow (w.heap.size + 1) 2 1 vo (goneK tick asks j).length ((goneK tick asks j).map (Value.int .i64))) := by
    refine ⟨fun j hj W ys hJ hr => ?_, fun j W o hJ => ⟨hJ.1.later (Below.new _ _) hBw2, hJ.2.1.alloc o, ?_⟩, fun j W W' ys hJ hr hg => ⟨hJ.1.store hr hg hB hBw2, hJ.2.1.grown hg (fun e => own_blk_ne hr hJ.2.1 (by decide) e.symm), ?_⟩⟩
    · obtain ⟨h1, h2, vo, h3, h4⟩ := hJ
      have hle := goneK_le tick asks j
      have hsl : ∃ A1 n1 p1, us.getD j (.slice none 0 0) = .slice A1 n1 p1 := by obtain ⟨S, q, e, _⟩ := h.a.sub_at hj; exact ⟨_, _, _, e⟩
      refine (expire1_any (w.heap.size + 1) w.heap.size (w.heap.size + 1 + 1) tick (asks.getD j default) (us.getD j (.slice none 0 0)) vo (goneK tick asks j) W h2 h3 h4 (by omega) (by omega) (by omega) (by have := h2.lt; omega) hsl).mono ?_
      rintro e W' ⟨rfl, ⟨vo', k3, k4⟩, hty, hlo⟩
      refine ⟨rfl, ⟨h1.typed hty hlo (by omega) hBw2, h2.later hlo (by omega), vo', k3, ?_⟩, hty.row hr (by decide) (by decide), fun h0 cs t hb he _ => hty h0 t cs (by rw [he]; decide) (by rw [he]; decide) hb⟩
      rw [goneK_next tick asks j hj]
      exact k4
    · obtain ⟨vo, h3, h4⟩ := hJ.2.2
      exact ⟨vo, h3.alloc o, own_later h4 (Below.new _ _)⟩
    · obtain ⟨vo, h3, h4⟩ := hJ.2.2
      exact ⟨vo, h3.grown hg (fun e => own_blk_ne hr h3 (by decide) e.symm), kept_apart h4 hg (apart_types h4 hr (by decide))⟩
  have HKA := Lib.hid (DeleteFuncSAsk_any 95 #[.pointer (some ⟨w.heap.size, 0, none⟩), .pointer (some ⟨w.heap.size + 1 + 1, 0, none⟩)] (overB tick) base v1 asks us _ X HO.out.a.row HO.out.a.len
    (fun j hj => by obtain ⟨S, q, e, _⟩ := h.a.sub_at hj; exact ⟨_, _, _, e⟩) hn' (by have := hbn.size; omega) eg ⟨JdA.of HO.out (hbn.mono (by omega)) (Keeps.of_below hbn), hx0, _, hx2, hxr⟩ hP)
  have hpw := h.blk.lt
  obtain ⟨A0, c0, rfl, _, _, _⟩ := own_slice h.h.row
  obtain ⟨A1, c1, rfl, _, _, _⟩ := own_slice h.a.row
  have p0 := h.blk.cell 0
  have p1 := h.blk.cell 1
  have f1 := h.blk.frozen 1
  simp at p0 p1
  clear h eg hP hbn hx0 hx2 hxr
  subst hX
  go_enter Tryz.func48, Tryz.ntmps48
  have hp1 : p < w.heap.size + 1 := by omega
  have hp2 : p < w.heap.size + 1 + 1 := by omega
  go_wp2_with fail
  refine HKA.out.mono ?_
  rintro e w1 ⟨v, rfl, hr, hJ, hj0, vo, hj2, hjr⟩
  obtain ⟨hl1, hb1, hk1⟩ := hJ.done HO.out (overB tick) hr hB
  obtain ⟨A2, c2, rfl, _, _, _⟩ := own_slice hr
  obtain ⟨A3, c3, rfl, _, _, _⟩ := own_slice hjr
  have HL1 := Lib.hid hl1
  have HB1 := Lib.hid hb1
  have HK1 := Lib.hid hk1
  have HJR : Hid ((w1.setCell ⟨p, 1, none⟩ (.slice A2 ((asks.zip us).filter fun x => !overB tick x.1).length c2)).ownsRow w.heap.size 2 1 (.slice A3 (goneK tick asks asks.length).length c3) (goneK tick asks asks.length).length ((goneK tick asks asks.length).map (Value.int .i64))) := own_base (hjr.kept (grown_set _ _ _ _) (.inr (own_blk_ne hjr hJ.blk (by decide)))) (by omega)
  have p5 := hJ.blk.cell 0
  have p6 := hJ.blk.cell 1
  have f5 := hJ.blk.frozen 1
  have z5 := hJ.blk.lt
  have j2 := hj2.cell 0
  have jz := hj2.lt
  simp at p5 p6 j2
  clear p0 p1 f1 hr hJ hj0 hj2 hjr hl1 hb1 hk1 HKA HO
  generalize ((asks.zip us).filter fun x => !overB tick x.1).length = l2 at *
  go_wp2_with fail
  go_ret
  exact ⟨_, _, _, rfl, HL1.out, HJR.out, HB1.out, HK1.out⟩
end Go.Proofs.YtiebcdajoddkpaaGreatDoor

namespace Go.Proofs.YtiebcdajoddkpaaGreatDoor
open Go.RowKit
set_option linter.unusedVariables false

set_option maxRecDepth 100000 in
set_option maxHeartbeats 2000000 in
theorem implDropAll_any (A A' : Option Addr) (n c n' c' : Nat) (held asks : List ItD) (job : Int) (w : World) (htab : tabT w) (h : Its w w.heap.size A n held) (ha : Its w w.heap.size A' n' asks) (hs : smalls held) (hsa : smalls asks) (hnc : n ≤ c) :
    Calls Tryz.prog 9 #[.agg #[.slice A n c, .slice A' n' c'], .int .i64 job] w (DAPost (dropAllB held asks job) w) := by
  have HK1 := Lib.hid (fun W (hW : Below w.heap.size w W) => LocksOk_any A A' n c n' c' held asks W (tab_later htab hW) (h.later hW) (ha.later hW) hs hsa hnc)
  rw [locksI_eq] at HK1
  have HK2 := Lib.hid (fun W => jobOk_any job W)
  have HK3 := Lib.hid (fun W (hW : Below w.heap.size w W) => copyLocks_any A A' n c n' c' held asks W (h.later hW) (ha.later hW) hs hsa)
  have HTB := Lib.hid htab
  have hgl := tab_lt htab
  have HT : Hid (dropAllB held asks job = if (okB held asks && inB job 1 4) = true then grOk (grantB (held.filter fun d => !jobP job d) (asks.filter fun d => !jobP job d)) else grBad 1) := rfl
  have HOK := Lib.hid (fun (hok : okB held asks = true) => okP_of hok)
  have hn := hs.1
  have hn' := hsa.1
  clear htab h ha hs hsa
  generalize hT : dropAllB held asks job = T at *
  clear hT
  generalize okB held asks = x at *
  generalize inB job 1 4 = y at *
  go_enter Tryz.func9, Tryz.ntmps9
  go_wp2_with fail
  refine (HK1.out _ (by exact (Below.new _ _).later (Below.new _ _))).mono ?_
  rintro e w1 ⟨rfl, hb1⟩
  have HB := Lib.hid (((Below.new _ _).later (Below.new _ _)).later hb1)
  have HBX := Lib.hid (Blk.later (heap_two0 w _ _) hb1 (by simp; omega))
  have HBY := Lib.hid (Blk.later (heap_two1 w _ _) hb1 (by simp))
  have p1 := HBX.out.cell
  have p2 := HBY.out.cell
  have f2 := HBY.out.frozen
  have z1 := HBX.out.lt
  have z2 := HBY.out.lt
  clear hb1
  cases x
  · have HE : Hid (T = grBad 1) := by unfold Hid; rw [HT.out]; rfl
    skip
    go_wp2_with fail
    have hbf := box_two HBY.out (.slice none 0 0) (.slice none 0 0)
    have t0 := (hbf.cell 0).trans rfl
    have t1 := (hbf.cell 1).trans rfl
    refine bodyPost_ret (v := .tuple #[.agg #[.slice none 0 0, .slice none 0 0], .slice none 0 0, .int .i64 1]) (by simp [results, Tryz.results9, go_sem, t0, t1]) rfl ?_
    rw [HE.out]
    exact DAPost.bad (World.ownsRow_nil _ _ _ _) (below_two HB.out (Nat.le_succ _) _ _)
  · go_wp2_with fail
    refine (HK2.out _).mono ?_
    rintro e w2 ⟨rfl, rfl⟩
    cases y
    · have HE : Hid (T = grBad 1) := by unfold Hid; rw [HT.out]; rfl
      skip
      go_wp2_with fail
      have hbf := box_two HBY.out (.slice none 0 0) (.slice none 0 0)
      have t0 := (hbf.cell 0).trans rfl
      have t1 := (hbf.cell 1).trans rfl
      refine bodyPost_ret (v := .tuple #[.agg #[.slice none 0 0, .slice none 0 0], .slice none 0 0, .int .i64 1]) (by simp [results, Tryz.results9, go_sem, t0, t1]) rfl ?_
      rw [HE.out]
      exact DAPost.bad (World.ownsRow_nil _ _ _ _) (below_two HB.out (Nat.le_succ _) _ _)
    · have HE : Hid (T = grOk (grantB (held.filter fun d => !jobP job d) (asks.filter fun d => !jobP job d))) := by unfold Hid; rw [HT.out]; rfl
      clear HT
      go_wp2_with fail
      refine (HK3.out _ HB.out).mono ?_
      rintro e w2 ⟨p, v0, v1, vs, us, rfl, hL, hb2⟩
      have HB2 := Lib.hid (HB.out.later hb2)
      have HL := Lib.hid hL
      have HBY2 := Lib.hid (HBY.out.later hb2 z2)
      have hsz := HB2.out.size
      have hsz2 := hb2.size
      have hsz1 := HB.out.size
      have HK4 := Lib.hid (dropAll_any w1.heap.size w1.heap.size p v0 v1 held asks vs us job w2 hL (Nat.le_refl _) hsz2 hn hn')
      clear hL hb2 p1 p2 f2
      go_wp2_with fail
      refine HK4.out.mono ?_
      rintro e w3 ⟨rfl, v0', v1', vs', us', hL3, hb3, hk3⟩
      have HB3 := Lib.hid (HB2.out.trans (hb3.mono (by omega)))
      have HBY3 := Lib.hid (HBY2.out.later hb3 z2)
      have HK5 := Lib.hid (grant_any w1.heap.size w1.heap.size p v0' v1' _ _ vs' us' w3 (tab_at (tab_later HTB.out HB2.out) hb3 (by omega)) (by omega) hL3 (Nat.le_refl _) (by have := hL3.blk.lt; have := hL3.above; omega) ((HOK.out trivial).sub (List.filter_sublist (p := fun d => !jobP job d) (l := held)) (List.filter_sublist (p := fun d => !jobP job d) (l := asks))))
      have hw3 : w1.heap.size ≤ w3.heap.size := by have := hL3.blk.lt; have := hL3.above; omega
      clear hL3 hb3 hk3 HK4
      generalize grantB (held.filter fun d => !jobP job d) (asks.filter fun d => !jobP job d) = R at *
      go_wp2_with fail
      refine HK5.out.mono ?_
      rintro e w4 ⟨vo, y0, y1, vs4, us4, rfl, hL4, hr4, hb4, hk4⟩
      have HB4 := Lib.hid (HB3.out.trans (hb4.mono (by omega)))
      have HBY4 := Lib.hid (HBY3.out.later hb4 z2)
      obtain ⟨A7, c7, rfl, _, _, _⟩ := own_slice hL4.h.row
      obtain ⟨A8, c8, rfl, _, _, _⟩ := own_slice hL4.a.row
      obtain ⟨A9, c9, rfl, _, _, _⟩ := own_slice hr4
      have HL4 := Lib.hid hL4
      have HR4 := Lib.hid (own_base hr4 hw3)
      have q0 := hL4.blk.cell 0
      have q1 := hL4.blk.cell 1
      have qz := hL4.blk.lt
      have p2 := HBY4.out.cell
      have f2 := HBY4.out.frozen
      have z4 := HBY4.out.lt
      simp at q0 q1
      clear hL4 hr4 hb4 hk4 HK5
      go_wp2_with fail
      have hbf := box_two HBY4.out (.slice A7 R.1.length c7) (.slice A8 R.2.1.length c8)
      have t0 := (hbf.cell 0).trans rfl
      have t1 := (hbf.cell 1).trans rfl
      refine bodyPost_ret (v := .tuple #[.agg #[.slice A7 R.1.length c7, .slice A8 R.2.1.length c8], .slice A9 R.2.2.length c9, .int .i64 0]) (by simp [results, Tryz.results9, go_sem, t0, t1]) rfl ?_
      rw [HE.out]
      exact DAPost.good (HL4.out.h.two HBY4.out (by decide)) (HL4.out.a.two HBY4.out (by decide)) HL4.out.cross (row_two HR4.out HBY4.out (by decide)) hsz1 (below_two HB4.out (Nat.le_succ _) _ _)

set_option maxRecDepth 100000 in
set_option maxHeartbeats 2000000 in
theorem implExpire_any (A A' : Option Addr) (n c n' c' : Nat) (held asks : List ItD) (tick : Int) (w : World) (htab : tabT w) (h : Its w w.heap.size A n held) (ha : Its w w.heap.size A' n' asks) (hs : smalls held) (hsa : smalls asks) (hnc : n ≤ c) :
    Calls Tryz.prog 14 #[.agg #[.slice A n c, .slice A' n' c'], .int .i64 tick] w (ExPost (expireB held asks tick) (goneB held asks tick) w) := by
  have HK1 := Lib.hid (fun W (hW : Below w.heap.size w W) => LocksOk_any A A' n c n' c' held asks W (tab_later htab hW) (h.later hW) (ha.later hW) hs hsa hnc)
  rw [locksI_eq] at HK1
  have HK2 := Lib.hid (fun W => within_any tick 0 999999 W)
  have hin : (decide (0 ≤ tick) && decide (tick ≤ 999999)) = inB tick 0 999999 := rfl
  rw [hin] at HK2
  have HK3 := Lib.hid (fun W (hW : Below w.heap.size w W) => copyLocks_any A A' n c n' c' held asks W (h.later hW) (ha.later hW) hs hsa)
  have HTB := Lib.hid htab
  have hgl := tab_lt htab
  have HT : Hid (expireB held asks tick = if (okB held asks && inB tick 0 999999) = true then grOk (grantB held (asks.filter fun d => !overB tick d)) else grBad 1) := rfl
  have HU : Hid (goneB held asks tick = if (okB held asks && inB tick 0 999999) = true then goneK tick asks asks.length else []) := by unfold Hid goneB goneK; rw [List.take_length]
  have HOK := Lib.hid (fun (hok : okB held asks = true) => okP_of hok)
  have hn := hs.1
  have hn' := hsa.1
  clear htab h ha hs hsa
  generalize hT : expireB held asks tick = T at *
  clear hT
  generalize hU : goneB held asks tick = U at *
  clear hU
  generalize okB held asks = x at *
  generalize inB tick 0 999999 = y at *
  go_enter Tryz.func14, Tryz.ntmps14
  go_wp2_with fail
  refine (HK1.out _ (by exact (Below.new _ _).later (Below.new _ _))).mono ?_
  rintro e w1 ⟨rfl, hb1⟩
  have HB := Lib.hid (((Below.new _ _).later (Below.new _ _)).later hb1)
  have HBX := Lib.hid (Blk.later (heap_two0 w _ _) hb1 (by simp; omega))
  have HBY := Lib.hid (Blk.later (heap_two1 w _ _) hb1 (by simp))
  have p1 := HBX.out.cell
  have p2 := HBY.out.cell
  have f2 := HBY.out.frozen
  have z1 := HBX.out.lt
  have z2 := HBY.out.lt
  clear hb1
  cases x
  · have HE : Hid (T = grBad 1) := by unfold Hid; rw [HT.out]; rfl
    have HF : Hid (U = []) := by unfold Hid; rw [HU.out]; rfl
    go_wp2_with fail
    have hbf := box_two HBY.out (.slice none 0 0) (.slice none 0 0)
    have t0 := (hbf.cell 0).trans rfl
    have t1 := (hbf.cell 1).trans rfl
    refine bodyPost_ret (v := .tuple #[.agg #[.slice none 0 0, .slice none 0 0], .slice none 0 0, .slice none 0 0, .int .i64 1]) (by simp [results, Tryz.results14, go_sem, t0, t1]) rfl ?_
    rw [HE.out, HF.out]
    exact ExPost.bad (World.ownsRow_nil _ _ _ _) (World.ownsRow_nil _ _ _ _) (below_two HB.out (Nat.le_succ _) _ _)
  · go_wp2_with fail
    refine (HK2.out _).mono ?_
    rintro e w2 ⟨rfl, rfl⟩
    cases y
    · have HE : Hid (T = grBad 1) := by unfold Hid; rw [HT.out]; rfl
      have HF : Hid (U = []) := by unfold Hid; rw [HU.out]; rfl
      go_wp2_with fail
      have hbf := box_two HBY.out (.slice none 0 0) (.slice none 0 0)
      have t0 := (hbf.cell 0).trans rfl
      have t1 := (hbf.cell 1).trans rfl
      refine bodyPost_ret (v := .tuple #[.agg #[.slice none 0 0, .slice none 0 0], .slice none 0 0, .slice none 0 0, .int .i64 1]) (by simp [results, Tryz.results14, go_sem, t0, t1]) rfl ?_
      rw [HE.out, HF.out]
      exact ExPost.bad (World.ownsRow_nil _ _ _ _) (World.ownsRow_nil _ _ _ _) (below_two HB.out (Nat.le_succ _) _ _)
    · have HE : Hid (T = grOk (grantB held (asks.filter fun d => !overB tick d))) := by unfold Hid; rw [HT.out]; rfl
      have HF : Hid (U = goneK tick asks asks.length) := by unfold Hid; rw [HU.out]; rfl
      clear HU
      clear HT
      go_wp2_with fail
      refine (HK3.out _ HB.out).mono ?_
      rintro e w2 ⟨p, v0, v1, vs, us, rfl, hL, hb2⟩
      have HB2 := Lib.hid (HB.out.later hb2)
      have HL := Lib.hid hL
      have HBY2 := Lib.hid (HBY.out.later hb2 z2)
      have hsz := HB2.out.size
      have hsz2 := hb2.size
      have hsz1 := HB.out.size
      have HK4 := Lib.hid (expire_any w1.heap.size w1.heap.size p v0 v1 held asks vs us tick w2 hL (Nat.le_refl _) hsz2 hn')
      clear hL hb2 p1 p2 f2
      go_wp2_with fail
      refine HK4.out.mono ?_
      rintro e w3 ⟨vg, v1', us', rfl, hL3, hgr, hb3, hk3⟩
      have HB3 := Lib.hid (HB2.out.trans (hb3.mono (by omega)))
      have HBY3 := Lib.hid (HBY2.out.later hb3 z2)
      have HGR := Lib.hid (own_base hgr (show w1.heap.size ≤ w2.heap.size by omega))
      have HK5 := Lib.hid (grant_any w1.heap.size w1.heap.size p v0 v1' held _ vs us' w3 (tab_at (tab_later HTB.out HB2.out) hb3 (by omega)) (by omega) hL3 (Nat.le_refl _) (by have := hL3.blk.lt; have := hL3.above; omega) ((HOK.out trivial).sub (List.Sublist.refl held) (List.filter_sublist (p := fun d => !overB tick d) (l := asks))))
      have hw3 : w1.heap.size ≤ w3.heap.size := by have := hL3.blk.lt; have := hL3.above; omega
      clear hL3 hgr hb3 hk3 HK4
      generalize grantB held (asks.filter fun d => !overB tick d) = R at *
      go_wp2_with fail
      refine HK5.out.mono ?_
      rintro e w4 ⟨vo, y0, y1, vs4, us4, rfl, hL4, hr4, hb4, hk4⟩
      have HB4 := Lib.hid (HB3.out.trans (hb4.mono (by omega)))
      have HBY4 := Lib.hid (HBY3.out.later hb4 z2)
      obtain ⟨A7, c7, rfl, _, _, _⟩ := own_slice hL4.h.row
      obtain ⟨A8, c8, rfl, _, _, _⟩ := own_slice hL4.a.row
      obtain ⟨A9, c9, rfl, _, _, _⟩ := own_slice hr4
      have HL4 := Lib.hid hL4
      have HR4 := Lib.hid (own_base hr4 hw3)
      have HG4 := Lib.hid (hk4.row HGR.out (by decide) (by decide) (by decide))
      have q0 := hL4.blk.cell 0
      have q1 := hL4.blk.cell 1
      have qz := hL4.blk.lt
      have p2 := HBY4.out.cell
      have f2 := HBY4.out.frozen
      have z4 := HBY4.out.lt
      simp at q0 q1
      clear hL4 hr4 hb4 hk4 HK5
      go_wp2_with fail
      have hbf := box_two HBY4.out (.slice A7 R.1.length c7) (.slice A8 R.2.1.length c8)
      have t0 := (hbf.cell 0).trans rfl
      have t1 := (hbf.cell 1).trans rfl
      refine bodyPost_ret (v := .tuple #[.agg #[.slice A7 R.1.length c7, .slice A8 R.2.1.length c8], vg, .slice A9 R.2.2.length c9, .int .i64 0]) (by simp [results, Tryz.results14, go_sem, t0, t1]) rfl ?_
      rw [HE.out, HF.out]
      exact ExPost.good (HL4.out.h.two HBY4.out (by decide)) (HL4.out.a.two HBY4.out (by decide)) HL4.out.cross (row_two HG4.out HBY4.out (by decide)) (row_two HR4.out HBY4.out (by decide)) hsz1 (below_two HB4.out (Nat.le_succ _) _ _)
end Go.Proofs.YtiebcdajoddkpaaGreatDoor

