/-
  What the reference's l24Drop leaves: all of a job dropped, asks granted. (Printed by gen_gs3.py.) What the reference's DropAll answers. What the reference's DropLock answers.
-/
import Derived.Test.YtiebcdajoddkpaaGreatDoorSv
import Derived.Test.YtiebcdajoddkpaaGreatDoorDlt
namespace Go.Proofs.YtiebcdajoddkpaaGreatDoor
open Go.RowKit
set_option linter.unusedVariables false

/-- Two cells of a box of locks put: nothing of the call's own is touched. -/
theorem OwnIts.two {w : World} {base t : Nat} {v a b : Value} {fs : List ItD} {vs : List Value} {g : Nat} {cs : Array Value} (h : OwnIts w base t v fs vs) (hB : Blk w g 27 cs) (h1 : t ≠ 27) : OwnIts ((w.setCell ⟨g, 0, none⟩ a).setCell ⟨g, 1, none⟩ b) base t v fs vs :=
  (h.grownOther hB h1 (by decide) (grown_set _ _ _ _)).grownOther (hB.set_ 0 _) h1 (by decide) (grown_set _ _ _ _)
theorem row_two {w : World} {base e size n g : Nat} {v a b : Value} {xs : List Value} {cs : Array Value} (h : w.ownsRow base e size v n xs) (hB : Blk w g 27 cs) (h1 : e ≠ 27) : ((w.setCell ⟨g, 0, none⟩ a).setCell ⟨g, 1, none⟩ b).ownsRow base e size v n xs :=
  (h.kept (grown_set _ _ _ _) (.inr (own_blk_ne h hB h1))).kept (grown_set _ _ _ _) (.inr (own_blk_ne (h.kept (grown_set _ _ _ _) (.inr (own_blk_ne h hB h1))) (hB.set_ 0 a) h1))
theorem below_two {B : Nat} {a w : World} (h : Below B a w) {g : Nat} (hg : B ≤ g) (x y : Value) : Below B a ((w.setCell ⟨g, 0, none⟩ x).setCell ⟨g, 1, none⟩ y) := (h.setCell (p := ⟨g, 0, none⟩) hg x).setCell (p := ⟨g, 1, none⟩) hg y

/-- The state of l24Drop in its loops: the held of k1 items sifted into vo, the asks of k2 items into wo. -/
structure DrS (w : World) (q : Nat) (held asks : List ItD) (vs us : List Value) (ph pa : ItD → Bool) (k1 k2 : Nat) (v0 v1 vo wo : Value) (X : World) : Prop where
  h : Sv w.heap.size 37 held vs ph k1 v0 vo X
  a : Sv w.heap.size 42 asks us pa k2 v1 wo X
  bo : Blk X (w.heap.size + 1 + 1) 27 #[vo, wo]
  bq : Blk X q 27 #[v0, v1]
  br : Blk X (w.heap.size + 1) 27 #[.slice none 0 0, .slice none 0 0]
  low : Below w.heap.size w X
section
variable {w : World} {q : Nat} {held asks : List ItD} {vs us : List Value} {ph pa : ItD → Bool} {k1 k2 : Nat} {v0 v1 vo wo : Value} {X Y : World}
theorem DrS.later (s : DrS w q held asks vs us ph pa k1 k2 v0 v1 vo wo X) (hb : Below X.heap.size X Y) : DrS w q held asks vs us ph pa k1 k2 v0 v1 vo wo Y :=
  ⟨s.h.later hb, s.a.later hb, s.bo.later hb s.bo.lt, s.bq.later hb s.bq.lt, s.br.later hb s.br.lt, s.low.later hb⟩
theorem DrS.putH (s : DrS w q held asks vs us ph pa k1 k2 v0 v1 vo wo X) (hq : q ≠ w.heap.size + 1 + 1) (hk : k1 < held.length) (hp : ph (held.getD k1 default) = true) {o : Obj} {g cap : Nat} (hown : Y.ownsRow w.heap.size 37 4 (.slice (some ⟨g, 0, none⟩) ((sel ph held vs k1).length + 1) cap) ((sel ph held vs k1).length + 1) (flat ((sel ph held vs k1).map (·.1)) ((sel ph held vs k1).map (·.2)) ++ cellsIt (held.getD k1 default) (vs.getD k1 (.slice none 0 0))))
    (hg : (X.alloc o).grownBy Y vo.ownBlock) (hat : vo.ownBlock = some g ∨ g = X.heap.size + 1) :
    DrS w q held asks vs us ph pa (k1 + 1) k2 v0 v1 (.slice (some ⟨g, 0, none⟩) ((sel ph held vs k1).length + 1) cap) wo (Y.setCell ⟨w.heap.size + 1 + 1, 0, none⟩ (.slice (some ⟨g, 0, none⟩) ((sel ph held vs k1).length + 1) cap)) := by
  have s2 := s.later (Below.new X o)
  have hbo := s2.bo.grown hg (fun e => own_blk_ne s2.h.row s2.bo (by decide) e.symm)
  have hbq := s2.bq.grown hg (fun e => own_blk_ne s2.h.row s2.bq (by decide) e.symm)
  have hbr := s2.br.grown hg (fun e => own_blk_ne s2.h.row s2.br (by decide) e.symm)
  refine ⟨(s.h.keep hk hp hown hg hat (by decide)).other hbo (by decide) (by decide) (grown_set _ _ _ _), (s2.a.aside s2.h.row (by decide) (by decide) hg).other hbo (by decide) (by decide) (grown_set _ _ _ _), ?_, hbq.far (p := ⟨w.heap.size + 1 + 1, 0, none⟩) hq _, hbr.far (p := ⟨w.heap.size + 1 + 1, 0, none⟩) (by simp) _, (s2.low.grown hg s2.low.size (fun g' hg' => (s2.h.row.lt g' hg').1)).setCell (p := ⟨w.heap.size + 1 + 1, 0, none⟩) (by simp; omega) _⟩
  have := hbo.set_ 0 (.slice (some ⟨g, 0, none⟩) ((sel ph held vs k1).length + 1) cap)
  simpa using this
theorem DrS.putA (s : DrS w q held asks vs us ph pa k1 k2 v0 v1 vo wo X) (hq : q ≠ w.heap.size + 1 + 1) (hk : k2 < asks.length) (hp : pa (asks.getD k2 default) = true) {o : Obj} {g cap : Nat} (hown : Y.ownsRow w.heap.size 42 4 (.slice (some ⟨g, 0, none⟩) ((sel pa asks us k2).length + 1) cap) ((sel pa asks us k2).length + 1) (flat ((sel pa asks us k2).map (·.1)) ((sel pa asks us k2).map (·.2)) ++ cellsIt (asks.getD k2 default) (us.getD k2 (.slice none 0 0))))
    (hg : (X.alloc o).grownBy Y wo.ownBlock) (hat : wo.ownBlock = some g ∨ g = X.heap.size + 1) :
    DrS w q held asks vs us ph pa k1 (k2 + 1) v0 v1 vo (.slice (some ⟨g, 0, none⟩) ((sel pa asks us k2).length + 1) cap) (Y.setCell ⟨w.heap.size + 1 + 1, 1, none⟩ (.slice (some ⟨g, 0, none⟩) ((sel pa asks us k2).length + 1) cap)) := by
  have s2 := s.later (Below.new X o)
  have hbo := s2.bo.grown hg (fun e => own_blk_ne s2.a.row s2.bo (by decide) e.symm)
  have hbq := s2.bq.grown hg (fun e => own_blk_ne s2.a.row s2.bq (by decide) e.symm)
  have hbr := s2.br.grown hg (fun e => own_blk_ne s2.a.row s2.br (by decide) e.symm)
  refine ⟨(s2.h.aside s2.a.row (by decide) (by decide) hg).other hbo (by decide) (by decide) (grown_set _ _ _ _), (s.a.keep hk hp hown hg hat (by decide)).other hbo (by decide) (by decide) (grown_set _ _ _ _), ?_, hbq.far (p := ⟨w.heap.size + 1 + 1, 1, none⟩) hq _, hbr.far (p := ⟨w.heap.size + 1 + 1, 1, none⟩) (by simp) _, (s2.low.grown hg s2.low.size (fun g' hg' => (s2.a.row.lt g' hg').1)).setCell (p := ⟨w.heap.size + 1 + 1, 1, none⟩) (by simp; omega) _⟩
  have := hbo.set_ 1 (.slice (some ⟨g, 0, none⟩) ((sel pa asks us k2).length + 1) cap)
  simpa using this
end
set_option maxRecDepth 100000 in
set_option maxHeartbeats 4000000 in
theorem l24Drop_any (A A' : Option Addr) (n c n' c' : Nat) (held asks : List ItD) (job : Int) (w : World) (h : Its w w.heap.size A n held) (ha : Its w w.heap.size A' n' asks) (hs : smalls held) (hsa : smalls asks) (hok : OkP held asks) :
    Calls Tryz.prog 44 #[.agg #[.slice A n c, .slice A' n' c'], .int .i64 job] w (GrPost w.heap.size (grantB (held.filter (notJob job)) (asks.filter (notJob job))) w) := by
  obtain ⟨i0, hi, hz0, hz1, hz2⟩ := info_parts infoLock
  obtain ⟨j0, gi, gz0, gz1, gz2⟩ := info_parts infoAsk
  have HK1 := Lib.hid (fun W (hW : Below w.heap.size w W) => l24Own_any A A' n c n' c' held asks W (h.later hW) (ha.later hW) hs hsa)
  have HOK := Lib.hid (hok.sub (List.filter_sublist (p := notJob job) (l := held)) (List.filter_sublist (p := notJob job) (l := asks)))
  have hn := hs.1
  have hn' := hsa.1
  have HNJ : Hid (∀ d, notJob job d = !decide (d.a = job)) := fun _ => rfl
  clear h ha hs hsa hok
  go_enter Tryz.func44, Tryz.ntmps44
  go_wp2_with fail
  refine (HK1.out _ (((Below.new _ _).later (Below.new _ _)).later (Below.new _ _))).mono ?_
  rintro e w1 ⟨v0, v1, vs, us, rfl, hoh, hoa, hxx, hb1⟩
  obtain ⟨A0, c0, rfl, hc0, hcm0, hA0⟩ := own_slice hoh.row
  obtain ⟨A1, c1, rfl, hc1, hcm1, hA1⟩ := own_slice hoa.row
  have hwb : w.heap.size + 3 ≤ w1.heap.size := by have h := hb1.size; simp at h; omega
  have hwb2 : w.heap.size ≤ w1.heap.size := by omega
  have HS0 : Hid (DrS w w1.heap.size held asks vs us (notJob job) (notJob job) 0 0 (.slice A0 held.length c0) (.slice A1 asks.length c1) (.slice none 0 0) (.slice none 0 0) (w1.alloc (.cells #[.slice A0 held.length c0, .slice A1 asks.length c1] 27))) :=
    ⟨Sv.start ((hoh.base (by simp; omega)).later (Below.new _ _)), Sv.start ((hoa.base (by simp; omega)).later (Below.new _ _)), (Blk.later (heap_new2 w _ _ _) hb1 (by simp)).alloc _, heap_last rfl, (Blk.later (heap_new1 w _ _ _) hb1 (by simp)).alloc _, ((((Below.new w _).later (Below.new _ _)).later (Below.new _ _)).later hb1).later (Below.new _ _)⟩
  have HXX := Lib.hid hxx
  have hq : w1.heap.size ≠ w.heap.size + 1 + 1 := by omega
  clear hb1 hoh hoa hxx HK1
  go_wp2_with fail
  go_loopw [8] (fun i wr => ∃ (k : Nat) (vo : Value), k ≤ held.length ∧ i = .int .i64 k ∧ Hid (DrS w w1.heap.size held asks vs us (notJob job) (notJob job) k 0 (.slice A0 held.length c0) (.slice A1 asks.length c1) vo (.slice none 0 0) wr)) (fun i _ => held.length - (intOf i).toNat)
  case atStart => exact ⟨0, _, Nat.zero_le _, rfl, HS0.out⟩
  case round =>
    obtain ⟨k, vo, hk, rfl, HSr⟩ := hrel
    clear HS0
    have p0 := HSr.out.bo.cell 0
    have p1 := HSr.out.bo.cell 1
    have f0 := HSr.out.bo.frozen 0
    have z0 := HSr.out.bo.lt
    have r0 := HSr.out.bq.cell 0
    have r1 := HSr.out.bq.cell 1
    have z1 := HSr.out.bq.lt
    simp at p0 p1 r0 r1
    by_cases hlt : k < held.length
    · have hvl := HSr.out.h.its.len
      obtain ⟨S2, q2, hsv, hsq, _⟩ := HSr.out.h.its.sub_at hlt
      have hr := HSr.out.h.its.row
      obtain ⟨g, rfl, _, _⟩ := hA0 (by omega)
      have hgl := (hr.lt g rfl).2
      have x0 := own_cell hr (k * 4) _ (by omega) ((flat_at held vs k 0 hvl hlt (by decide)).trans rfl)
      have x1 := own_cell hr (k * 4 + 1) _ (by omega) ((flat_at held vs k 1 hvl hlt (by decide)).trans rfl)
      have x2 := own_cell hr (k * 4 + 2) _ (by omega) ((flat_at held vs k 2 hvl hlt (by decide)).trans rfl)
      have x3 : wr.cell? ⟨g, k * 4 + 3, none⟩ = some (.slice S2 (held.getD k default).subs.length q2) := by rw [← hsv]; exact own_cell hr (k * 4 + 3) _ (by omega) ((flat_at held vs k 3 hvl hlt (by decide)).trans rfl)
      have HKeep := Lib.hid (fun (hp : (notJob job) (held.getD k default) = true) Y o g cap => HSr.out.putH (Y := Y) (o := o) (g := g) (cap := cap) hq hlt hp)
      have HSkip := Lib.hid (fun hp => { HSr.out with h := HSr.out.h.skip hlt hp })
      have hsl := sel_le (notJob job) held vs k
      have HV : Hid (∀ o, (wr.alloc o).ownsRow w.heap.size 37 4 vo (sel (notJob job) held vs k).length (flat ((sel (notJob job) held vs k).map (·.1)) ((sel (notJob job) held vs k).map (·.2)))) := fun o => own_later HSr.out.h.row (Below.new _ o)
      have HBO := Lib.hid (fun o => HSr.out.bo.alloc o)
      have hlow := HSr.out.low.size
      rw [hsv] at HKeep
      clear hvl hr hsv HSr
      generalize held.getD k default = d at *
      generalize (sel (notJob job) held vs k).length = m at *
      generalize flat ((sel (notJob job) held vs k).map (·.1)) ((sel (notJob job) held vs k).map (·.2)) = xs at *
      obtain ⟨da, db, nm, dss⟩ := d
      dsimp only at x0 x1 x2 x3 HKeep hsq
      by_cases hj : da = job
      · have HS2 := Lib.hid (HSkip.out (by rw [HNJ.out, decide_eq_true hj]; rfl))
        subst hj
        clear HKeep HSkip
        go_wp2_with fail
        go_roundw
        case rel => exact ⟨k + 1, vo, by omega, by go_num, HS2.out⟩
        case measure => simp [intOf]; omega
      · have hj1 : (da == job) = false := beq_eq_false_iff_ne.2 hj
        have hj2 : (da != job) = true := by rw [bne, hj1]; rfl
        have HS2 := Lib.hid (HKeep.out (by rw [HNJ.out, decide_eq_false hj]; rfl))
        clear HKeep HSkip
        go_wp2_with fail
        go_region_law (first
          | (refine step_append_lies _ (by rfl) _ _ _ (by rfl) w.heap.size 37 i0 _ 4 56 Tryz.underlying24 hi hz0 hz1 hz2 rfl (by omega) vo m xs (by rfl) (by exact HV.out _)
              ⟨wr.heap.size, 0, none⟩ 1 1 (cellsIt ⟨da, db, nm, dss⟩ (.slice S2 dss.length q2)) (by rfl) (by rfl) (by exact cells_new wr #[.int .i64 da, .int .i64 db, .string nm, .slice S2 dss.length q2] _) (by simp [cellsIt, Value.oneCell'])
              (by omega) (by unfold maxLen; omega) (by omega) (by simp; omega) (wr.heap.size + 1) (by simp) ?_
             intro gg cap w3 hown3 hgrow hat hlt2
             have hgrow' : (wr.alloc (.cells #[.int .i64 da, .int .i64 db, .string nm, .slice S2 dss.length q2] 37)).grownBy w3 (Value.ownBlock vo) := ⟨hgrow.os, hgrow.tape, hgrow.output, hgrow.size, hgrow.block⟩
             have hbg := (HBO.out (.cells #[.int .i64 da, .int .i64 db, .string nm, .slice S2 dss.length q2] 37)).grown hgrow' (fun e => own_blk_ne (HV.out (.cells #[.int .i64 da, .int .i64 db, .string nm, .slice S2 dss.length q2] 37)) (HBO.out _) (by decide) e.symm)
             have p5 := hbg.cell 0
             have f5 := hbg.frozen 0
             have z5 := hbg.lt
             have HS3 := Lib.hid (HS2.out w3 _ gg cap hown3 hgrow' hat)
             clear hbg hown3 hgrow hgrow'))
        all_goals
          clear x0 x1 x2 x3 r0 r1 p0 p1 f0
          go_wp2_with fail
          go_roundw
          case rel => exact ⟨k + 1, _, by omega, by go_num, HS3.out⟩
          case measure => simp [intOf]; omega
    · obtain rfl : k = held.length := by omega
      have HS1 := Lib.hid HSr.out
      clear HSr
      go_wp2_with fail
      clear p0 p1 f0 z0 r0 r1 z1
      go_loopw [9] (fun i wr => ∃ (k : Nat) (wo : Value), k ≤ asks.length ∧ i = .int .i64 k ∧ Hid (DrS w w1.heap.size held asks vs us (notJob job) (notJob job) held.length k (.slice A0 held.length c0) (.slice A1 asks.length c1) vo wo wr)) (fun i _ => asks.length - (intOf i).toNat)
      case atStart => exact ⟨0, _, Nat.zero_le _, rfl, HS1.out⟩
      case round =>
        obtain ⟨k, wo, hk, rfl, HSr⟩ := hrel
        clear HS1
        have p0 := HSr.out.bo.cell 0
        have p1 := HSr.out.bo.cell 1
        have f0 := HSr.out.bo.frozen 1
        have z0 := HSr.out.bo.lt
        have r0 := HSr.out.bq.cell 0
        have r1 := HSr.out.bq.cell 1
        have z1 := HSr.out.bq.lt
        simp at p0 p1 r0 r1
        by_cases hlt : k < asks.length
        · have hvl := HSr.out.a.its.len
          obtain ⟨S2, q2, hsv, hsq, _⟩ := HSr.out.a.its.sub_at hlt
          have hr := HSr.out.a.its.row
          obtain ⟨g, rfl, _, _⟩ := hA1 (by omega)
          have hgl := (hr.lt g rfl).2
          have x0 := own_cell hr (k * 4) _ (by omega) ((flat_at asks us k 0 hvl hlt (by decide)).trans rfl)
          have x1 := own_cell hr (k * 4 + 1) _ (by omega) ((flat_at asks us k 1 hvl hlt (by decide)).trans rfl)
          have x2 := own_cell hr (k * 4 + 2) _ (by omega) ((flat_at asks us k 2 hvl hlt (by decide)).trans rfl)
          have x3 : wr.cell? ⟨g, k * 4 + 3, none⟩ = some (.slice S2 (asks.getD k default).subs.length q2) := by rw [← hsv]; exact own_cell hr (k * 4 + 3) _ (by omega) ((flat_at asks us k 3 hvl hlt (by decide)).trans rfl)
          have HKeep := Lib.hid (fun (hp : (notJob job) (asks.getD k default) = true) Y o g cap => HSr.out.putA (Y := Y) (o := o) (g := g) (cap := cap) hq hlt hp)
          have HSkip := Lib.hid (fun hp => { HSr.out with a := HSr.out.a.skip hlt hp })
          have hsl := sel_le (notJob job) asks us k
          have HV : Hid (∀ o, (wr.alloc o).ownsRow w.heap.size 42 4 wo (sel (notJob job) asks us k).length (flat ((sel (notJob job) asks us k).map (·.1)) ((sel (notJob job) asks us k).map (·.2)))) := fun o => own_later HSr.out.a.row (Below.new _ o)
          have HBO := Lib.hid (fun o => HSr.out.bo.alloc o)
          have hlow := HSr.out.low.size
          rw [hsv] at HKeep
          clear hvl hr hsv HSr
          generalize asks.getD k default = d at *
          generalize (sel (notJob job) asks us k).length = m at *
          generalize flat ((sel (notJob job) asks us k).map (·.1)) ((sel (notJob job) asks us k).map (·.2)) = xs at *
          obtain ⟨da, db, nm, dss⟩ := d
          dsimp only at x0 x1 x2 x3 HKeep hsq
          by_cases hj : da = job
          · have HS2 := Lib.hid (HSkip.out (by rw [HNJ.out, decide_eq_true hj]; rfl))
            subst hj
            clear HKeep HSkip
            go_wp2_with fail
            go_roundw
            case rel => exact ⟨k + 1, wo, by omega, by go_num, HS2.out⟩
            case measure => simp [intOf]; omega
          · have hj1 : (da == job) = false := beq_eq_false_iff_ne.2 hj
            have hj2 : (da != job) = true := by rw [bne, hj1]; rfl
            have HS2 := Lib.hid (HKeep.out (by rw [HNJ.out, decide_eq_false hj]; rfl))
            clear HKeep HSkip
            go_wp2_with fail
            go_region_law (first
              | (refine step_append_lies _ (by rfl) _ _ _ (by rfl) w.heap.size 42 j0 _ 4 56 Tryz.underlying25 gi gz0 gz1 gz2 rfl (by omega) wo m xs (by rfl) (by exact HV.out _)
                  ⟨wr.heap.size, 0, none⟩ 1 1 (cellsIt ⟨da, db, nm, dss⟩ (.slice S2 dss.length q2)) (by rfl) (by rfl) (by exact cells_new wr #[.int .i64 da, .int .i64 db, .string nm, .slice S2 dss.length q2] _) (by simp [cellsIt, Value.oneCell'])
                  (by omega) (by unfold maxLen; omega) (by omega) (by simp; omega) (wr.heap.size + 1) (by simp) ?_
                 intro gg cap w3 hown3 hgrow hat hlt2
                 have hgrow' : (wr.alloc (.cells #[.int .i64 da, .int .i64 db, .string nm, .slice S2 dss.length q2] 42)).grownBy w3 (Value.ownBlock wo) := ⟨hgrow.os, hgrow.tape, hgrow.output, hgrow.size, hgrow.block⟩
                 have hbg := (HBO.out (.cells #[.int .i64 da, .int .i64 db, .string nm, .slice S2 dss.length q2] 42)).grown hgrow' (fun e => own_blk_ne (HV.out (.cells #[.int .i64 da, .int .i64 db, .string nm, .slice S2 dss.length q2] 42)) (HBO.out _) (by decide) e.symm)
                 have p5 := hbg.cell 1
                 have f5 := hbg.frozen 1
                 have z5 := hbg.lt
                 have HS3 := Lib.hid (HS2.out w3 _ gg cap hown3 hgrow' hat)
                 clear hbg hown3 hgrow hgrow'))
            all_goals
              clear x0 x1 x2 x3 r0 r1 p0 p1 f0
              go_wp2_with fail
              go_roundw
              case rel => exact ⟨k + 1, _, by omega, by go_num, HS3.out⟩
              case measure => simp [intOf]; omega
        · obtain rfl : k = asks.length := by omega
          obtain ⟨hoh, hs1⟩ := HSr.out.h.done
          obtain ⟨hoa, hs2⟩ := HSr.out.a.done
          obtain ⟨A6, c6, rfl, _, _, _⟩ := own_slice hoh.row
          obtain ⟨A7, c7, rfl, _, _, _⟩ := own_slice hoa.row
          have HG := Lib.hid (l24Grant_any w.heap.size A6 A7 c6 c7 _ _ _ _ wr hoh hoa (fun x hx y hy => HXX.out x (hs1 x hx) y (hs2 y hy)) HSr.out.low.size HOK.out)
          have HBR := Lib.hid HSr.out.br
          have HLO := Lib.hid HSr.out.low
          clear hs1 hs2 hoh hoa HSr f0
          generalize grantB (held.filter (notJob job)) (asks.filter (notJob job)) = R at *
          generalize (held.filter (notJob job)).length = l1 at *
          generalize (asks.filter (notJob job)).length = l2 at *
          go_wp2_with fail
          refine HG.out.mono ?_
          rintro e w2 ⟨x0, x1, vs2, us2, vo2, rfl, g0, g1, gx, gr, hb2⟩
          obtain ⟨A8, c8, rfl, _, _, _⟩ := own_slice g0.row
          obtain ⟨A9, c9, rfl, _, _, _⟩ := own_slice g1.row
          have HBR2 := Lib.hid (HBR.out.later hb2 HBR.out.lt)
          have HLO2 := Lib.hid (HLO.out.later hb2)
          have G0 := Lib.hid g0
          have G1 := Lib.hid g1
          have GX := Lib.hid gx
          have GR := Lib.hid gr
          have t0 := HBR2.out.cell 0
          have t1 := HBR2.out.cell 1
          have e0 := HBR2.out.frozen 0
          have e1 := HBR2.out.frozen 1
          have ez := HBR2.out.lt
          simp at t0 t1
          clear g0 g1 gx gr hb2 p0 p1 z0 r0 r1 z1
          go_wp2_with fail
          refine bodyPost_ret (v := .tuple #[.agg #[.slice A8 R.1.length c8, .slice A9 R.2.1.length c9], vo2]) (by simp [results, Tryz.results44, go_sem, t0, t1]; try first | exact rfl | exact ⟨rfl, rfl⟩ | exact ⟨rfl, rfl, rfl⟩) rfl ?_
          exact ⟨_, _, vs2, us2, _, rfl, G0.out.two HBR2.out (by decide), G1.out.two HBR2.out (by decide), GX.out, row_two GR.out HBR2.out (by decide), below_two HLO2.out (Nat.le_succ _) _ _⟩
end Go.Proofs.YtiebcdajoddkpaaGreatDoor

namespace Go.Proofs.YtiebcdajoddkpaaGreatDoor
open Go.RowKit
set_option linter.unusedVariables false

/-- An answer: locks of the call's own, told jobs, a code. -/
def DAPost (r : Int × List ItD × List ItD × List Int) (w : World) (e : Ending) (w' : World) : Prop :=
  ∃ v0 v1 vs us vo, e = .returned (.tuple #[.agg #[v0, v1], vo, .int .i64 r.1]) ∧ OwnIts w' w.heap.size 37 v0 r.2.1 vs ∧ OwnIts w' w.heap.size 42 v1 r.2.2.1 us ∧ (∀ x ∈ vs, ∀ y ∈ us, apart x y) ∧ w'.ownsRow w.heap.size 2 1 vo r.2.2.2.length (r.2.2.2.map (Value.int .i64)) ∧ Below w.heap.size w w'
theorem DAPost.bad {w w' : World} {c : Int} {v : Value} (hr : w'.ownsRow w.heap.size 2 1 v 0 []) (hb : Below w.heap.size w w') : DAPost (grBad c) w (.returned (.tuple #[.agg #[.slice none 0 0, .slice none 0 0], v, .int .i64 c])) w' :=
  ⟨_, _, [], [], _, rfl, own_none _ _ _, own_none _ _ _, by simp, hr, hb⟩
theorem DAPost.good {base : Nat} {w w' : World} {r : List ItD × List ItD × List Int} {v0 v1 vo : Value} {vs us : List Value} (h0 : OwnIts w' base 37 v0 r.1 vs) (h1 : OwnIts w' base 42 v1 r.2.1 us) (hx : ∀ x ∈ vs, ∀ y ∈ us, apart x y) (hr : w'.ownsRow base 2 1 vo r.2.2.length (r.2.2.map (Value.int .i64))) (hB : w.heap.size ≤ base) (hb : Below w.heap.size w w') : DAPost (grOk r) w (.returned (.tuple #[.agg #[v0, v1], vo, .int .i64 0])) w' :=
  ⟨_, _, vs, us, _, rfl, h0.base hB, h1.base hB, hx, own_base hr hB, hb⟩
theorem box_two {w1 : World} {g : Nat} {x y : Value} (h : Blk w1 g 27 #[x, y]) (a b : Value) : Blk ((w1.setCell ⟨g, 0, none⟩ a).setCell ⟨g, 1, none⟩ b) g 27 #[a, b] := by
  have := (h.set_ 0 a).set_ 1 b
  simpa using this
theorem bad_row {B g : Nat} {w1 : World} {a b : Value} (hB : B ≤ w1.heap.size) : (((w1.setCell ⟨g, 0, none⟩ a).setCell ⟨g, 1, none⟩ b).alloc (.cells #[] 2)).ownsRow B 2 1 (.slice (some ⟨w1.heap.size, 0, none⟩) 0 0) 0 [] := by
  have h := World.ownsRow_lit (base := B) (e := 2) (size := 1) ((w1.setCell ⟨g, 0, none⟩ a).setCell ⟨g, 1, none⟩ b) #[] 0 (by simpa using hB) (by omega) rfl
  have e : ((w1.setCell ⟨g, 0, none⟩ a).setCell ⟨g, 1, none⟩ b).heap.size = w1.heap.size := by simp
  rw [e] at h
  exact h
set_option maxRecDepth 100000 in
set_option maxHeartbeats 2000000 in
theorem specDropAll_any (A A' : Option Addr) (n c n' c' : Nat) (held asks : List ItD) (job : Int) (w : World) (h : Its w w.heap.size A n held) (ha : Its w w.heap.size A' n' asks) (hs : smalls held) (hsa : smalls asks) :
    Calls Tryz.prog 10 #[.agg #[.slice A n c, .slice A' n' c'], .int .i64 job] w (DAPost (dropAllB held asks job) w) := by
  have HK1 := Lib.hid (fun W (hW : Below w.heap.size w W) => l24Ok_any A A' n c n' c' held asks W (h.later hW) (ha.later hW) hs hsa)
  have HK2 := Lib.hid (fun W => l24Job_any job W)
  have HK3 := Lib.hid (fun (hok : okB held asks = true) W (hW : Below w.heap.size w W) => l24Drop_any A A' n c n' c' held asks job W (h.later hW) (ha.later hW) hs hsa (okP_of hok))
  have HT : Hid (dropAllB held asks job = if (okB held asks && inB job 1 4) = true then grOk (grantB (held.filter (notJob job)) (asks.filter (notJob job))) else grBad 1) := rfl
  clear h ha hs hsa
  generalize dropAllB held asks job = T at *
  generalize grantB (held.filter (notJob job)) (asks.filter (notJob job)) = R at *
  generalize okB held asks = x at *
  generalize inB job 1 4 = y at *
  go_enter Tryz.func10, Tryz.ntmps10
  go_wp2_with fail
  refine (HK1.out _ (by exact (Below.new _ _).later (Below.new _ _))).mono ?_
  rintro e w1 ⟨rfl, hb1⟩
  have HB := Lib.hid (((Below.new _ _).later (Below.new _ _)).later hb1)
  have HBX := Lib.hid (Blk.later (heap_two0 w _ _) hb1 (by simp; omega))
  have HBY := Lib.hid (Blk.later (heap_two1 w _ _) hb1 (by simp))
  have p1 := HBX.out.cell
  have p2 := HBY.out.cell
  have f2 := HBY.out.frozen
  have z1 := HBX.out.lt
  have z2 := HBY.out.lt
  clear hb1
  have HBAD : Hid (w.heap.size ≤ w1.heap.size) := HB.out.size
  cases x
  · have HE : Hid (T = grBad 1) := by unfold Hid; rw [HT.out]; rfl
    go_wp2_with fail
    have hbf := (box_two HBY.out (.slice none 0 0) (.slice none 0 0)).alloc (.cells #[] 2)
    have t0 := (hbf.cell 0).trans rfl
    have t1 := (hbf.cell 1).trans rfl
    refine bodyPost_ret (v := .tuple #[.agg #[.slice none 0 0, .slice none 0 0], .slice (some ⟨w1.heap.size, 0, none⟩) 0 0, .int .i64 1]) (by simp [results, Tryz.results10, go_sem, t0, t1]) rfl ?_
    rw [HE.out]
    exact DAPost.bad (bad_row HB.out.size) ((below_two HB.out (Nat.le_succ _) _ _).later (Below.new _ _))
  · go_wp2_with fail
    refine (HK2.out _).mono ?_
    rintro e w2 ⟨rfl, rfl⟩
    cases y
    · have HE : Hid (T = grBad 1) := by unfold Hid; rw [HT.out]; rfl
      go_wp2_with fail
      have hbf := (box_two HBY.out (.slice none 0 0) (.slice none 0 0)).alloc (.cells #[] 2)
      have t0 := (hbf.cell 0).trans rfl
      have t1 := (hbf.cell 1).trans rfl
      refine bodyPost_ret (v := .tuple #[.agg #[.slice none 0 0, .slice none 0 0], .slice (some ⟨w1.heap.size, 0, none⟩) 0 0, .int .i64 1]) (by simp [results, Tryz.results10, go_sem, t0, t1]) rfl ?_
      rw [HE.out]
      exact DAPost.bad (bad_row HB.out.size) ((below_two HB.out (Nat.le_succ _) _ _).later (Below.new _ _))
    · have HE : Hid (T = grOk R) := by unfold Hid; rw [HT.out]; rfl
      go_wp2_with fail
      refine (HK3.out trivial _ HB.out).mono ?_
      rintro e w2 ⟨v0, v1, vs, us, vo, rfl, h0, h1, hx, hr, hb2⟩
      obtain ⟨A0, c0, rfl, _, _, _⟩ := own_slice h0.row
      obtain ⟨A1, c1, rfl, _, _, _⟩ := own_slice h1.row
      have HB2 := Lib.hid (HB.out.later hb2)
      have HBY2 := Lib.hid (HBY.out.later hb2 z2)
      have H0 := Lib.hid h0
      have H1 := Lib.hid h1
      have HX := Lib.hid hx
      have HR := Lib.hid hr
      clear p1 p2 f2 z1 z2 hb2 h0 h1 hx hr
      have p2 := HBY2.out.cell
      have f2 := HBY2.out.frozen
      have z2 := HBY2.out.lt
      have hwz := HB.out.size
      go_wp2_with fail
      have hbf := (box_two HBY2.out (.slice A0 R.1.length c0) (.slice A1 R.2.1.length c1)).alloc (.cells #[.slice A0 R.1.length c0, .slice A1 R.2.1.length c1] 27)
      have t0 := (hbf.cell 0).trans rfl
      have t1 := (hbf.cell 1).trans rfl
      refine bodyPost_ret (v := .tuple #[.agg #[.slice A0 R.1.length c0, .slice A1 R.2.1.length c1], vo, .int .i64 0]) (by simp [results, Tryz.results10, go_sem, t0, t1]) rfl ?_
      rw [HE.out]
      exact DAPost.good ((H0.out.two HBY2.out (by decide)).later (Below.new _ _)) ((H1.out.two HBY2.out (by decide)).later (Below.new _ _)) HX.out (own_later (row_two HR.out HBY2.out (by decide)) (Below.new _ _)) hwz ((below_two HB2.out (Nat.le_succ _) _ _).later (Below.new _ _))
end Go.Proofs.YtiebcdajoddkpaaGreatDoor

namespace Go.Proofs.YtiebcdajoddkpaaGreatDoor
open Go.RowKit
set_option linter.unusedVariables false

theorem eraseIdx_set_self {α : Type} (l : List α) (k : Nat) (x : α) : (l.set k x).eraseIdx k = l.eraseIdx k := by
  rw [List.eraseIdx_eq_take_drop_succ, List.eraseIdx_eq_take_drop_succ, List.take_set_of_le (Nat.le_refl k), List.drop_set_of_lt (by omega)]
/-- A lock given back once: right locks stay right. -/
theorem OkP.less {held asks : List ItD} (h : OkP held asks) {k : Nat} (hk : k < held.length) : OkP (lessOne held k) asks := by
  unfold lessOne
  split
  · exact h.sub (List.eraseIdx_sublist held k) (List.Sublist.refl asks)
  · next hne =>
    have hone := ok_one h _ (getD_mem held k hk)
    have key : ∀ j (hj : j < held.length), ((held.set k { held.getD k default with b := (held.getD k default).b - 1 })[j]'(by rw [List.length_set]; exact hj)).a = held[j].a ∧ ((held.set k { held.getD k default with b := (held.getD k default).b - 1 })[j]'(by rw [List.length_set]; exact hj)).name = held[j].name ∧ ((held.set k { held.getD k default with b := (held.getD k default).b - 1 })[j]'(by rw [List.length_set]; exact hj)).subs = held[j].subs := fun j hj => by
      rw [List.getElem_set]
      split
      · next e => subst e; rw [getD_eq _ _ hj]; exact ⟨rfl, rfl, rfl⟩
      · exact ⟨rfl, rfl, rfl⟩
    refine ⟨by rw [List.length_set]; exact h.hlen, h.alen, fun d hd => ?_, ?_, h.aok, h.apw⟩
    · rcases List.mem_or_eq_of_mem_set hd with h1 | h1
      · exact h.hok d h1
      · subst h1
        have h2 := h.hok _ (getD_mem held k hk)
        unfold hOk1 inB at h2 ⊢
        simp only [Bool.and_eq_true, decide_eq_true_eq] at h2 ⊢
        refine ⟨h2.1, ⟨?_, ?_⟩, h2.2.2⟩
        · omega
        · have := h2.2.1.2; omega
    · rw [List.pairwise_iff_getElem]
      intro i j hi hj hij
      rw [List.length_set] at hi hj
      have hp := List.pairwise_iff_getElem.1 h.hpw i j hi hj hij
      obtain ⟨i1, i2, i3⟩ := key i hi
      obtain ⟨j1, j2, j3⟩ := key j hj
      have e1 := hOrd_key (x := (held.set k { held.getD k default with b := (held.getD k default).b - 1 })[i]'(by rw [List.length_set]; exact hi)) j1 j2 j3
      have e2 := hOrd_key (x := held[j]) i1 i2 i3
      rw [e1.1, e1.2.2.2, e2.2.1, e2.2.2.1]
      exact hp
theorem lessOne_zero {held : List ItD} {k : Nat} (h : (held.getD k default).b - 1 = 0) : lessOne held k = held.eraseIdx k := by unfold lessOne; rw [if_pos h]
theorem lessOne_pos {held : List ItD} {k : Nat} (h : ¬ (held.getD k default).b - 1 = 0) : lessOne held k = held.set k { held.getD k default with b := (held.getD k default).b - 1 } := by unfold lessOne; rw [if_neg h]

/-- One item cut out of a row of the call's own, in place: what append(xs[:i], xs[i+1:]...) loads and stores. -/
theorem cutRun (base g cap n i : Nat) (xs : List Value) (w : World) (h : w.ownsRow base 37 4 (.slice (some ⟨g, 0, none⟩) n cap) n xs) (hin : i < n) (hx1 : ∀ u ∈ xs, u.oneCell' = true) :
    ∃ W1, (loadCellsFrom ⟨g, (i + 1) * 4, none⟩ 0 ((n - (i + 1)) * 4) #[]).run Tryz.prog w = .ok (xs.drop ((i + 1) * 4)).toArray w ∧ (storeCells ⟨g, i * 4, none⟩ (xs.drop ((i + 1) * 4)) 0).run Tryz.prog w = .ok () W1 ∧ W1.ownsRow base 37 4 (.slice (some ⟨g, 0, none⟩) (n - 1) cap) (n - 1) (xs.take (i * 4) ++ xs.drop ((i + 1) * 4)) ∧ w.grownBy W1 (some g) := by
  obtain ⟨hlen, hor⟩ := h
  rcases hor with ⟨h0, h00⟩ | ⟨g', cap', cur, he, hbase, hg, hcap, hcm, hcs, htk⟩
  · omega
  obtain ⟨rfl, rfl⟩ : g = g' ∧ cap = cap' := by simpa using he
  have hdl : (xs.drop ((i + 1) * 4)).length = (n - (i + 1)) * 4 := by rw [List.length_drop, hlen]; omega
  have hgB : Blk w g 37 cur := hg
  obtain ⟨R1, hR1⟩ : ∃ R1 : List Value, R1 = cur.toList.take (i * 4) ++ xs.drop ((i + 1) * 4) ++ cur.toList.drop (i * 4 + (xs.drop ((i + 1) * 4)).length) := ⟨_, rfl⟩
  have hR1l : R1.length = cap * 4 := by
    rw [hR1]; simp only [List.length_append, List.length_take, List.length_drop, Array.length_toList, hcs, hlen]; omega
  have HROW : (R1.take (n * 4)).take ((n - 1) * 4) = xs.take (i * 4) ++ xs.drop ((i + 1) * 4) := by rw [hR1]; exact dlt_row cur.toList xs n i cap htk hlen hin (by simpa using hcs) hcap
  have hsrc : ∀ j u, (xs.drop ((i + 1) * 4))[j]? = some u → w.cell? ((⟨g, (i + 1) * 4, none⟩ : Addr).add j) = some u := fun j u hj => by
    rw [add_offN]
    refine (hgB.cell _).trans ?_
    rw [List.getElem?_drop, ← htk, List.getElem?_take] at hj
    split at hj
    · simpa using hj
    · cases hj
  have hld0 := run_loadCells_list (P := Tryz.prog) w ⟨g, (i + 1) * 4, none⟩ (xs.drop ((i + 1) * 4)) hsrc
  have hst0 := run_storeCells_at Tryz.prog g (i * 4) 37 (xs.drop ((i + 1) * 4)) 0 cur w hg (by rw [hdl, Nat.add_zero, hcs]; omega) (fun v hv => hx1 v (List.mem_of_mem_drop hv))
  simp only [Nat.add_zero] at hst0
  rw [← hR1] at hst0
  rw [hdl] at hld0
  refine ⟨w.setRow g R1.toArray, hld0, hst0, ⟨?_, .inr ⟨g, cap, R1.toArray, rfl, hbase, setRow_heap _ _ _ _ _ _ hg, by omega, hcm, by simpa using hR1l, ?_⟩⟩, ⟨rfl, rfl, rfl, by simp, fun k _ hk => (setRow_other _ _ _ _ (fun e => hk (by rw [e])))⟩⟩
  · rw [List.length_append, List.length_take, List.length_drop, hlen]; omega
  · rw [← HROW, List.take_take, Nat.min_eq_left (by omega)]

theorem own_short {base g cap n i : Nat} {e size : Nat} {xs : List Value} {w : World} (h : w.ownsRow base e size (.slice (some ⟨g, 0, none⟩) n cap) n xs) (hi : i ≤ n) : w.ownsRow base e size (.slice (some ⟨g, 0, none⟩) i cap) i (xs.take (i * size)) := by
  obtain ⟨hlen, hor⟩ := h
  have hm : i * size ≤ n * size := Nat.mul_le_mul_right _ hi
  rcases hor with ⟨h0, h00⟩ | ⟨g', cap', cur, he, hbase, hg, hcap, hcm, hcs, htk⟩
  · cases h0
  · obtain ⟨rfl, rfl⟩ : g = g' ∧ cap = cap' := by simpa using he
    refine ⟨by rw [List.length_take, hlen]; omega, .inr ⟨g, cap, cur, rfl, hbase, hg, by omega, hcm, hcs, ?_⟩⟩
    rw [← htk, List.take_take, Nat.min_eq_left hm]

/-- What stands ahead of the grant when a lock is gone. -/
def GrPost0 (w : World) (R : List ItD × List ItD × List Int) (asks : List ItD) (us : List Value) (A1 : Option Addr) (c1 c0 g n q : Nat) (X : World) : Prop :=
  Calls Tryz.prog 51 #[.agg #[.slice (some ⟨g, 0, none⟩) n c0, .slice A1 asks.length c1]] X (GrPost w.heap.size R X) ∧ Blk X (w.heap.size + 1) 27 #[.slice none 0 0, .slice none 0 0] ∧ Below w.heap.size w X

set_option maxRecDepth 100000 in
set_option maxHeartbeats 4000000 in
theorem specDropLock_any (A A' : Option Addr) (n c n' c' : Nat) (held asks : List ItD) (job : Int) (nm : ByteArray) (S : Option Addr) (m q : Nat) (ss : List ByteArray) (w : World) (h : Its w w.heap.size A n held) (ha : Its w w.heap.size A' n' asks) (hs : smalls held) (hsa : smalls asks)
    (hS : Strs w w.heap.size S m ss) (hst : (tgt job nm ss).small) :
    Calls Tryz.prog 115 #[.agg #[.slice A n c, .slice A' n' c'], .int .i64 job, .string nm, .slice S m q] w (DAPost (dropB held asks job nm ss) w) := by
  have hm : m ≤ 1048576 := by rw [← hS.1]; exact hst.2.1
  have HK1 := Lib.hid (fun W (hW : Below w.heap.size w W) => l24Ok_any A A' n c n' c' held asks W (h.later hW) (ha.later hW) hs hsa)
  have HK2 := Lib.hid (fun W => l24Job_any job W)
  have HK3 := Lib.hid (fun W (hW : Below w.heap.size w W) => l24Thing_any nm S m q ss W hst.1 (hS.later hW) hm hst.2.2)
  have HK4 := Lib.hid (fun W (hW : Below w.heap.size w W) => l24At_any A A' S n c n' c' m q held job nm ss W (h.later hW) hs (hS.later hW) hm)
  have HK5 := Lib.hid (fun W (hW : Below w.heap.size w W) => l24Own_any A A' n c n' c' held asks W (h.later hW) (ha.later hW) hs hsa)
  have HT : Hid (dropB held asks job nm ss = if (okB held asks && inB job 1 4 && thingB nm ss) = true then (if lockAt held job nm ss < 0 then grBad 3 else grOk (grantB (lessOne held (lockAt held job nm ss).toNat) asks)) else grBad 1) := rfl
  have hn := hs.1
  have hn' := hsa.1
  have HAT : Hid (¬ lockAt held job nm ss < 0 → ∃ k : Nat, lockAt held job nm ss = k ∧ k < held.length) := fun hk => by
    obtain ⟨j, h1, h2, _⟩ := idxF_hit (atP job nm ss) held 0 (by unfold lockAt at hk; omega)
    exact ⟨j, by unfold lockAt; rw [h2]; omega, h1⟩
  have HOK := Lib.hid (fun (hok : okB held asks = true) => okP_of hok)
  clear h ha hs hsa hS
  generalize dropB held asks job nm ss = T at *
  generalize okB held asks = x at *
  generalize inB job 1 4 = y at *
  generalize thingB nm ss = z at *
  generalize lockAt held job nm ss = aw at *
  go_enter Tryz.func115, Tryz.ntmps115
  go_wp2_with fail
  refine (HK1.out _ (by exact (Below.new _ _).later (Below.new _ _))).mono ?_
  rintro e w1 ⟨rfl, hb1⟩
  have HB := Lib.hid (((Below.new _ _).later (Below.new _ _)).later hb1)
  have HBX := Lib.hid (Blk.later (heap_two0 w _ _) hb1 (by simp; omega))
  have HBY := Lib.hid (Blk.later (heap_two1 w _ _) hb1 (by simp))
  have p1 := HBX.out.cell
  have p2 := HBY.out.cell
  have f2 := HBY.out.frozen
  have z1 := HBX.out.lt
  have z2 := HBY.out.lt
  clear hb1
  cases x
  · have HE : Hid (T = grBad 1) := by unfold Hid; rw [HT.out]; rfl
    go_wp2_with fail
    have hbf := (box_two HBY.out (.slice none 0 0) (.slice none 0 0)).alloc (.cells #[] 2)
    have t0 := (hbf.cell 0).trans rfl
    have t1 := (hbf.cell 1).trans rfl
    refine bodyPost_ret (v := .tuple #[.agg #[.slice none 0 0, .slice none 0 0], .slice (some ⟨w1.heap.size, 0, none⟩) 0 0, .int .i64 1]) (by simp [results, Tryz.results115, go_sem, t0, t1]) rfl ?_
    rw [HE.out]
    exact DAPost.bad (bad_row HB.out.size) ((below_two HB.out (Nat.le_succ _) _ _).later (Below.new _ _))
  · go_wp2_with fail
    refine (HK2.out _).mono ?_
    rintro e w2 ⟨rfl, rfl⟩
    cases y
    · have HE : Hid (T = grBad 1) := by unfold Hid; rw [HT.out]; rfl
      go_wp2_with fail
      have hbf := (box_two HBY.out (.slice none 0 0) (.slice none 0 0)).alloc (.cells #[] 2)
      have t0 := (hbf.cell 0).trans rfl
      have t1 := (hbf.cell 1).trans rfl
      refine bodyPost_ret (v := .tuple #[.agg #[.slice none 0 0, .slice none 0 0], .slice (some ⟨w1.heap.size, 0, none⟩) 0 0, .int .i64 1]) (by simp [results, Tryz.results115, go_sem, t0, t1]) rfl ?_
      rw [HE.out]
      exact DAPost.bad (bad_row HB.out.size) ((below_two HB.out (Nat.le_succ _) _ _).later (Below.new _ _))
    · go_wp2_with fail
      refine (HK3.out _ HB.out).mono ?_
      rintro e w2 ⟨rfl, rfl⟩
      cases z
      · have HE : Hid (T = grBad 1) := by unfold Hid; rw [HT.out]; rfl
        go_wp2_with fail
        have hbf := (box_two HBY.out (.slice none 0 0) (.slice none 0 0)).alloc (.cells #[] 2)
        have t0 := (hbf.cell 0).trans rfl
        have t1 := (hbf.cell 1).trans rfl
        refine bodyPost_ret (v := .tuple #[.agg #[.slice none 0 0, .slice none 0 0], .slice (some ⟨w1.heap.size, 0, none⟩) 0 0, .int .i64 1]) (by simp [results, Tryz.results115, go_sem, t0, t1]) rfl ?_
        rw [HE.out]
        exact DAPost.bad (bad_row HB.out.size) ((below_two HB.out (Nat.le_succ _) _ _).later (Below.new _ _))
      · have HT2 : Hid (T = if aw < 0 then grBad 3 else grOk (grantB (lessOne held aw.toNat) asks)) := by unfold Hid; rw [HT.out]; rfl
        clear HT HK1 HK2 HK3
        have HO := Lib.hid (HOK.out trivial)
        go_wp2_with fail
        refine (HK4.out _ HB.out).mono ?_
        rintro e w2 ⟨rfl, hb2⟩
        have HB2 := Lib.hid (HB.out.later hb2)
        have HBX2 := Lib.hid (HBX.out.later hb2 z1)
        have HBY2 := Lib.hid (HBY.out.later hb2 z2)
        clear p1 p2 f2 z1 z2 hb2 HB HBX HBY
        have p1 := HBX2.out.cell
        have p2 := HBY2.out.cell
        have f2 := HBY2.out.frozen
        have z1 := HBX2.out.lt
        have z2 := HBY2.out.lt
        by_cases haw : aw < 0
        · have HE : Hid (T = grBad 3) := by unfold Hid; rw [HT2.out, if_pos haw]
          go_wp2_with fail
          have hbf := (box_two HBY2.out (.slice none 0 0) (.slice none 0 0)).alloc (.cells #[] 2)
          have t0 := (hbf.cell 0).trans rfl
          have t1 := (hbf.cell 1).trans rfl
          refine bodyPost_ret (v := .tuple #[.agg #[.slice none 0 0, .slice none 0 0], .slice (some ⟨w2.heap.size, 0, none⟩) 0 0, .int .i64 3]) (by simp [results, Tryz.results115, go_sem, t0, t1]) rfl ?_
          rw [HE.out]
          exact DAPost.bad (bad_row HB2.out.size) ((below_two HB2.out (Nat.le_succ _) _ _).later (Below.new _ _))
        · obtain ⟨k, rfl, hk⟩ := HAT.out (by omega)
          have HE : Hid (T = grOk (grantB (lessOne held k) asks)) := by unfold Hid; rw [HT2.out, if_neg haw, Int.toNat_natCast]
          go_wp2_with fail
          refine (HK5.out _ HB2.out).mono ?_
          rintro e w3 ⟨v0, v1, vs, us, rfl, hoh, hoa, hxx, hb3⟩
          obtain ⟨A0, c0, rfl, hc0, hcm0, hA0⟩ := own_slice hoh.row
          obtain ⟨A1, c1, rfl, hc1, hcm1, hA1⟩ := own_slice hoa.row
          obtain ⟨g, rfl, hgl, hgb⟩ := hA0 (by omega)
          have hwb := HB2.out.size
          have hwb3 := hb3.size
          unfold maxLen at hcm0
          have h9 := okB_nine HO.out.okB _ (getD_mem held k hk)
          have h1 := ok_one HO.out _ (getD_mem held k hk)
          obtain ⟨cur, hcur⟩ := own_blk hoh.row
          have x1 := own_cell hoh.row (k * 4 + 1) (.int .i64 (held.getD k default).b) (by omega) ((flat_at held vs k 1 hoh.len hk (by omega)).trans rfl)
          have f1 := hcur.frozen (k * 4 + 1)
          have HXX := Lib.hid hxx
          have HL3 := hb3.size
          have hz3 : w.heap.size + 1 < w3.heap.size := (HBY2.out.later hb3 z2).lt
          have hgr : w3.grownBy (w3.setCell ⟨g, k * 4 + 1, none⟩ (.int .i64 ((held.getD k default).b - 1))) (some g) := grown_set _ _ _ _
          have hbn := Below.new (w3.setCell ⟨g, k * 4 + 1, none⟩ (.int .i64 ((held.getD k default).b - 1))) (.cells #[.slice (some ⟨g, 0, none⟩) held.length c0, .slice A1 asks.length c1] 27)
          have hby3 := HBY2.out.later hb3 z2
          have HOH4 := Lib.hid (((hoh.base hwb).bump hk ((held.getD k default).b - 1) (by decide)).later hbn)
          have HOA4 := Lib.hid (((hoa.base hwb).keptRow hoh.row (by decide) (by decide) hgr).later hbn)
          have HBD4 : Hid (Blk ((w3.setCell ⟨g, k * 4 + 1, none⟩ (.int .i64 ((held.getD k default).b - 1))).alloc (.cells #[.slice (some ⟨g, 0, none⟩) held.length c0, .slice A1 asks.length c1] 27)) w3.heap.size 27 #[.slice (some ⟨g, 0, none⟩) held.length c0, .slice A1 asks.length c1]) := heap_last (by simp)
          have HBY4 := Lib.hid ((hby3.far (p := ⟨g, k * 4 + 1, none⟩) (show w.heap.size + 1 ≠ g from fun e => own_blk_ne hoh.row hby3 (by decide) (by rw [e]; rfl)) (.int .i64 ((held.getD k default).b - 1))).alloc (.cells #[.slice (some ⟨g, 0, none⟩) held.length c0, .slice A1 asks.length c1] 27))
          have HB4 := Lib.hid (((HB2.out.later hb3).setCell (p := ⟨g, k * 4 + 1, none⟩) (show w.heap.size ≤ g by omega) (.int .i64 ((held.getD k default).b - 1))).later hbn)
          have HLZ := Lib.hid (@lessOne_zero held k)
          have HLP := Lib.hid (@lessOne_pos held k)
          have HOKL := Lib.hid (HO.out.less hk)
          clear hoh hoa hxx hb3 hcur hgr hbn hby3 p1 p2 f2 z1 z2 hA0 hA1 HK4 HK5 HAT HOK HT2
          generalize hR : grantB (lessOne held k) asks = R at *
          have HR := Lib.hid hR
          clear hR
          generalize hD : (held.getD k default).b = D at *
          have HD := Lib.hid hD
          clear hD
          have hw1 : IntKind.i64.wrap (D - 1) = D - 1 := by rw [IntKind.wrap_i64]; omega
          generalize hN : held.length = n0 at *
          have HN := Lib.hid hN
          clear hN
          by_cases hz : D - 1 = 0
          · obtain rfl : D = 1 := by omega
            have hLE := HLZ.out rfl
            simp only [Int.sub_self] at HOH4 HOA4 HBD4 HBY4 HB4
            have hl : (held.set k { held.getD k default with b := (0 : Int) }).length = n0 := by rw [List.length_set, HN.out]
            have HFL : Hid ((flat (held.set k { held.getD k default with b := (0 : Int) }) vs).length = n0 * 4) := by unfold Hid; rw [← hl]; exact flat_len _ _ HOH4.out.len
            have hrow : ((w3.setCell ⟨g, k * 4 + 1, none⟩ (.int .i64 0)).alloc (.cells #[.slice (some ⟨g, 0, none⟩) n0 c0, .slice A1 asks.length c1] 27)).ownsRow w.heap.size 37 4 (.slice (some ⟨g, 0, none⟩) n0 c0) n0 (flat (held.set k { held.getD k default with b := (0 : Int) }) vs) := by
              have h := HOH4.out.row
              rw [hl] at h
              exact h
            have HROW := Lib.hid hrow
            have HER : Hid (∀ (W1 : World), W1.ownsRow w.heap.size 37 4 (.slice (some ⟨g, 0, none⟩) (n0 - 1) c0) (n0 - 1) ((flat (held.set k { held.getD k default with b := (0 : Int) }) vs).take (k * 4) ++ (flat (held.set k { held.getD k default with b := (0 : Int) }) vs).drop ((k + 1) * 4)) → ((w3.setCell ⟨g, k * 4 + 1, none⟩ (.int .i64 0)).alloc (.cells #[.slice (some ⟨g, 0, none⟩) n0 c0, .slice A1 asks.length c1] 27)).grownBy W1 (some g) →
                GrPost0 w R asks us A1 c1 c0 g (n0 - 1) w3.heap.size (W1.setCell ⟨w3.heap.size, 0, none⟩ (.slice (some ⟨g, 0, none⟩) (n0 - 1) c0))) := fun W1 ho hg => by
              have hbd := HBD4.out.grown hg (fun e => own_blk_ne hrow HBD4.out (by decide) e.symm)
              have hby := HBY4.out.grown hg (fun e => own_blk_ne hrow HBY4.out (by decide) e.symm)
              have h1 : OwnIts W1 w.heap.size 37 (.slice (some ⟨g, 0, none⟩) (n0 - 1) c0) (held.eraseIdx k) (vs.eraseIdx k) := by
                rw [← eraseIdx_set_self held k { held.getD k default with b := (0 : Int) }]
                exact OwnIts.erase HOH4.out (by rw [hl]; exact hk) (by rw [hl]; exact ho) (fun u _ ss hs => kept_apart (u := .slice (some ⟨g, 0, none⟩) n0 c0) hs hg (apart_types hs hrow (by decide)))
              have h2 : OwnIts W1 w.heap.size 42 (.slice A1 asks.length c1) asks us := HOA4.out.keptRow hrow (by decide) (by decide) hg
              have h3 := h1.grownOther hbd (by decide) (by decide) (grown_set _ _ 0 (.slice (some ⟨g, 0, none⟩) (n0 - 1) c0))
              have h4 := h2.grownOther hbd (by decide) (by decide) (grown_set _ _ 0 (.slice (some ⟨g, 0, none⟩) (n0 - 1) c0))
              have hlw := (HB4.out.grown hg HB4.out.size (fun g' e => by cases e; omega)).setCell (p := ⟨w3.heap.size, 0, none⟩) (show w.heap.size ≤ w3.heap.size by omega) (.slice (some ⟨g, 0, none⟩) (n0 - 1) c0)
              refine ⟨?_, hby.far (p := ⟨w3.heap.size, 0, none⟩) (show w.heap.size + 1 ≠ w3.heap.size by omega) _, hlw⟩
              have hh := HOKL.out
              have hR := HR.out
              rw [hLE] at hh hR
              have he : (held.eraseIdx k).length = n0 - 1 := by rw [List.length_eraseIdx_of_lt (by rw [HN.out]; exact hk), HN.out]
              have h5 := l24Grant_any w.heap.size (some ⟨g, 0, none⟩) A1 c0 c1 (held.eraseIdx k) asks (vs.eraseIdx k) us _ (by rw [he]; exact h3) h4 (fun x hx y hy => HXX.out x ((List.eraseIdx_sublist vs k).subset hx) y hy) hlw.size hh
              rw [he, hR] at h5
              exact h5
            clear hLE
            have hi1 : IntKind.i64.wrap ((k : Int) + 1) = (k : Int) + 1 := by rw [IntKind.wrap_i64]; omega
            have htn : ((k : Int) + 1).toNat = k + 1 := by omega
            have hic : k ≤ c0 := by omega
            have hf1 : (k : Int) ≤ (k : Int) + 1 := by omega
            have hf2 : (0 : Int) ≤ (k : Int) + 1 := by omega
            have hf3 : (k : Int) + 1 ≤ (n0 : Int) := by omega
            have hf4 : (k : Int) ≤ (c0 : Int) := by omega
            have HONE := Lib.hid HOH4.out.one
            clear hrow HOH4 HOA4 HLP HLZ HR HOKL
            generalize flat (held.set k { held.getD k default with b := (0 : Int) }) vs = xs at *
            by_cases hni : n0 = k + 1
            · subst hni
              have hxs : xs.take (k * 4) ++ xs.drop ((k + 1) * 4) = xs.take (k * 4) := by rw [List.drop_of_length_le (by rw [HFL.out]; omega), List.append_nil]
              rw [hxs] at HER
              have hs := own_short HROW.out (show k ≤ k + 1 by omega)
              have hg := HER.out ((w3.setCell ⟨g, k * 4 + 1, none⟩ (.int .i64 0)).alloc (.cells #[.slice (some ⟨g, 0, none⟩) (k + 1) c0, .slice A1 asks.length c1] 27)).drew hs ⟨rfl, rfl, rfl, Nat.le_refl _, fun _ _ _ => rfl⟩
              have e : ((w3.setCell ⟨g, k * 4 + 1, none⟩ (.int .i64 0)).alloc (.cells #[.slice (some ⟨g, 0, none⟩) (k + 1) c0, .slice A1 asks.length c1] 27)).drew.setCell ⟨w3.heap.size, 0, none⟩ (.slice (some ⟨g, 0, none⟩) (k + 1 - 1) c0) = ((w3.setCell ⟨g, k * 4 + 1, none⟩ (.int .i64 0)).alloc (.cells #[.slice (some ⟨g, 0, none⟩) k c0, .slice A1 asks.length c1] 27)).drew := by
                show (((w3.setCell ⟨g, k * 4 + 1, none⟩ (.int .i64 0)).alloc (.cells #[.slice (some ⟨g, 0, none⟩) (k + 1) c0, .slice A1 asks.length c1] 27)).setCell ⟨w3.heap.size, 0, none⟩ (.slice (some ⟨g, 0, none⟩) k c0)).drew = _
                rw [World.setCell_alloc_at _ _ _ _ _ (by simp)]
                rfl
              rw [e] at hg
              have HG := Lib.hid hg
              have zb := HBD4.out.lt
              clear HER hs hxs HONE e hg
              by_cases hcn : c0 = k + 1
              · subst hcn
                go_wp2_with fail
                go_region
                have HGc := Lib.hid HG.out.1
                have HBR := Lib.hid HG.out.2.1
                have HLO := Lib.hid HG.out.2.2
                clear HG
                go_wp2_with fail
                refine HGc.out.mono ?_
                rintro e w6 ⟨y0, y1, vs2, us2, vo2, rfl, g0, g1, gx, gr, hb6⟩
                obtain ⟨A8, c8, rfl, _, _, _⟩ := own_slice g0.row
                obtain ⟨A9, c9, rfl, _, _, _⟩ := own_slice g1.row
                have HBR2 := Lib.hid (HBR.out.later hb6 HBR.out.lt)
                have HLO2 := Lib.hid (HLO.out.later hb6)
                have G0 := Lib.hid g0
                have G1 := Lib.hid g1
                have GX := Lib.hid gx
                have GR := Lib.hid gr
                have t0 := HBR2.out.cell 0
                have t1 := HBR2.out.cell 1
                have e0 := HBR2.out.frozen 0
                have e1 := HBR2.out.frozen 1
                have ez := HBR2.out.lt
                simp at t0 t1
                clear g0 g1 gx gr hb6
                go_wp2_with fail
                have hbf := (box_two HBR2.out (.slice A8 R.1.length c8) (.slice A9 R.2.1.length c9)).alloc (.cells #[.slice A8 R.1.length c8, .slice A9 R.2.1.length c9] 27)
                have t0 := (hbf.cell 0).trans rfl
                have t1 := (hbf.cell 1).trans rfl
                refine bodyPost_ret (v := .tuple #[.agg #[.slice A8 R.1.length c8, .slice A9 R.2.1.length c9], vo2, .int .i64 0]) (by simp [results, Tryz.results115, go_sem, t0, t1]) rfl ?_
                rw [HE.out]
                exact DAPost.good ((G0.out.two HBR2.out (by decide)).later (Below.new _ _)) ((G1.out.two HBR2.out (by decide)).later (Below.new _ _)) GX.out (own_later (row_two GR.out HBR2.out (by decide)) (Below.new _ _)) (Nat.le_refl _) ((below_two HLO2.out (Nat.le_succ _) _ _).later (Below.new _ _))
              · go_wp2_with fail
                go_region
                have HGc := Lib.hid HG.out.1
                have HBR := Lib.hid HG.out.2.1
                have HLO := Lib.hid HG.out.2.2
                clear HG
                go_wp2_with fail
                refine HGc.out.mono ?_
                rintro e w6 ⟨y0, y1, vs2, us2, vo2, rfl, g0, g1, gx, gr, hb6⟩
                obtain ⟨A8, c8, rfl, _, _, _⟩ := own_slice g0.row
                obtain ⟨A9, c9, rfl, _, _, _⟩ := own_slice g1.row
                have HBR2 := Lib.hid (HBR.out.later hb6 HBR.out.lt)
                have HLO2 := Lib.hid (HLO.out.later hb6)
                have G0 := Lib.hid g0
                have G1 := Lib.hid g1
                have GX := Lib.hid gx
                have GR := Lib.hid gr
                have t0 := HBR2.out.cell 0
                have t1 := HBR2.out.cell 1
                have e0 := HBR2.out.frozen 0
                have e1 := HBR2.out.frozen 1
                have ez := HBR2.out.lt
                simp at t0 t1
                clear g0 g1 gx gr hb6
                go_wp2_with fail
                have hbf := (box_two HBR2.out (.slice A8 R.1.length c8) (.slice A9 R.2.1.length c9)).alloc (.cells #[.slice A8 R.1.length c8, .slice A9 R.2.1.length c9] 27)
                have t0 := (hbf.cell 0).trans rfl
                have t1 := (hbf.cell 1).trans rfl
                refine bodyPost_ret (v := .tuple #[.agg #[.slice A8 R.1.length c8, .slice A9 R.2.1.length c9], vo2, .int .i64 0]) (by simp [results, Tryz.results115, go_sem, t0, t1]) rfl ?_
                rw [HE.out]
                exact DAPost.good ((G0.out.two HBR2.out (by decide)).later (Below.new _ _)) ((G1.out.two HBR2.out (by decide)).later (Below.new _ _)) GX.out (own_later (row_two GR.out HBR2.out (by decide)) (Below.new _ _)) (Nat.le_refl _) ((below_two HLO2.out (Nat.le_succ _) _ _).later (Below.new _ _))
            · obtain ⟨W1, hld, hst, ho, hg⟩ := cutRun w.heap.size g c0 n0 k xs ((w3.setCell ⟨g, k * 4 + 1, none⟩ (.int .i64 0)).alloc (.cells #[.slice (some ⟨g, 0, none⟩) n0 c0, .slice A1 asks.length c1] 27)).drew HROW.out hk HONE.out
              have HG := Lib.hid (HER.out W1 ho ⟨hg.os, hg.tape, hg.output, hg.size, hg.block⟩)
              have hq2 : k + (n0 - (k + 1)) ≤ c0 := by omega
              have hq3 : k + (n0 - (k + 1)) = n0 - 1 := by omega
              have hcn : ¬ c0 = k + 1 := by omega
              have hbd1 := HBD4.out.grown (show (_ : World).grownBy W1 (some g) from ⟨hg.os, hg.tape, hg.output, hg.size, hg.block⟩) (fun e => own_blk_ne HROW.out HBD4.out (by decide) e.symm)
              have p5 := hbd1.cell 0
              have p6 := hbd1.cell 1
              have f5 := hbd1.frozen 0
              have z5 := hbd1.lt
              simp at p5 p6
              clear HER ho hg HONE hbd1
              go_wp2_with fail
              go_region
              have HGc := Lib.hid HG.out.1
              have HBR := Lib.hid HG.out.2.1
              have HLO := Lib.hid HG.out.2.2
              clear HG
              go_wp2_with fail
              refine HGc.out.mono ?_
              rintro e w6 ⟨y0, y1, vs2, us2, vo2, rfl, g0, g1, gx, gr, hb6⟩
              obtain ⟨A8, c8, rfl, _, _, _⟩ := own_slice g0.row
              obtain ⟨A9, c9, rfl, _, _, _⟩ := own_slice g1.row
              have HBR2 := Lib.hid (HBR.out.later hb6 HBR.out.lt)
              have HLO2 := Lib.hid (HLO.out.later hb6)
              have G0 := Lib.hid g0
              have G1 := Lib.hid g1
              have GX := Lib.hid gx
              have GR := Lib.hid gr
              have t0 := HBR2.out.cell 0
              have t1 := HBR2.out.cell 1
              have e0 := HBR2.out.frozen 0
              have e1 := HBR2.out.frozen 1
              have ez := HBR2.out.lt
              simp at t0 t1
              clear g0 g1 gx gr hb6
              go_wp2_with fail
              have hbf := (box_two HBR2.out (.slice A8 R.1.length c8) (.slice A9 R.2.1.length c9)).alloc (.cells #[.slice A8 R.1.length c8, .slice A9 R.2.1.length c9] 27)
              have t0 := (hbf.cell 0).trans rfl
              have t1 := (hbf.cell 1).trans rfl
              refine bodyPost_ret (v := .tuple #[.agg #[.slice A8 R.1.length c8, .slice A9 R.2.1.length c9], vo2, .int .i64 0]) (by simp [results, Tryz.results115, go_sem, t0, t1]) rfl ?_
              rw [HE.out]
              exact DAPost.good ((G0.out.two HBR2.out (by decide)).later (Below.new _ _)) ((G1.out.two HBR2.out (by decide)).later (Below.new _ _)) GX.out (own_later (row_two GR.out HBR2.out (by decide)) (Below.new _ _)) (Nat.le_refl _) ((below_two HLO2.out (Nat.le_succ _) _ _).later (Below.new _ _))
          · have hLE := HLP.out hz
            have hz2 : (D - 1 == 0) = false := beq_eq_false_iff_ne.2 hz
            have HG : Hid (Calls Tryz.prog 51 #[.agg #[.slice (some ⟨g, 0, none⟩) n0 c0, .slice A1 asks.length c1]] ((w3.setCell ⟨g, k * 4 + 1, none⟩ (.int .i64 (D - 1))).alloc (.cells #[.slice (some ⟨g, 0, none⟩) n0 c0, .slice A1 asks.length c1] 27)) (GrPost w.heap.size R ((w3.setCell ⟨g, k * 4 + 1, none⟩ (.int .i64 (D - 1))).alloc (.cells #[.slice (some ⟨g, 0, none⟩) n0 c0, .slice A1 asks.length c1] 27)))) := by
              have hh := HOKL.out
              unfold Hid
              rw [← HR.out]
              rw [hLE] at hh ⊢
              have hl : (held.set k { held.getD k default with b := D - 1 }).length = n0 := by rw [List.length_set, HN.out]
              have h1 := l24Grant_any w.heap.size (some ⟨g, 0, none⟩) A1 c0 c1 _ asks vs us ((w3.setCell ⟨g, k * 4 + 1, none⟩ (.int .i64 (D - 1))).alloc (.cells #[.slice (some ⟨g, 0, none⟩) n0 c0, .slice A1 asks.length c1] 27)) (by rw [hl]; exact HOH4.out) HOA4.out HXX.out HB4.out.size hh
              rw [hl] at h1
              exact h1
            have HBR := Lib.hid HBY4.out
            have HLO := Lib.hid HB4.out
            clear hLE
            go_wp2_with fail
            refine HG.out.mono ?_
            rintro e w6 ⟨y0, y1, vs2, us2, vo2, rfl, g0, g1, gx, gr, hb6⟩
            obtain ⟨A8, c8, rfl, _, _, _⟩ := own_slice g0.row
            obtain ⟨A9, c9, rfl, _, _, _⟩ := own_slice g1.row
            have HBR2 := Lib.hid (HBR.out.later hb6 HBR.out.lt)
            have HLO2 := Lib.hid (HLO.out.later hb6)
            have G0 := Lib.hid g0
            have G1 := Lib.hid g1
            have GX := Lib.hid gx
            have GR := Lib.hid gr
            have t0 := HBR2.out.cell 0
            have t1 := HBR2.out.cell 1
            have e0 := HBR2.out.frozen 0
            have e1 := HBR2.out.frozen 1
            have ez := HBR2.out.lt
            simp at t0 t1
            clear g0 g1 gx gr hb6
            go_wp2_with fail
            have hbf := (box_two HBR2.out (.slice A8 R.1.length c8) (.slice A9 R.2.1.length c9)).alloc (.cells #[.slice A8 R.1.length c8, .slice A9 R.2.1.length c9] 27)
            have t0 := (hbf.cell 0).trans rfl
            have t1 := (hbf.cell 1).trans rfl
            refine bodyPost_ret (v := .tuple #[.agg #[.slice A8 R.1.length c8, .slice A9 R.2.1.length c9], vo2, .int .i64 0]) (by simp [results, Tryz.results115, go_sem, t0, t1]) rfl ?_
            rw [HE.out]
            exact DAPost.good ((G0.out.two HBR2.out (by decide)).later (Below.new _ _)) ((G1.out.two HBR2.out (by decide)).later (Below.new _ _)) GX.out (own_later (row_two GR.out HBR2.out (by decide)) (Below.new _ _)) (Nat.le_refl _) ((below_two HLO2.out (Nat.le_succ _) _ _).later (Below.new _ _))
end Go.Proofs.YtiebcdajoddkpaaGreatDoor

