/-
  Locks of the program, behind a pointer: what take makes of locks of the call's own.
-/
import Derived.Test.YtiebcdajoddkpaaGreatDoorLkAcq
namespace Go.Proofs.YtiebcdajoddkpaaGreatDoor
open Go.RowKit

/-- Whether the lock is granted, the error's number, the locks held and the requests behind the call. -/
def takeI (held asks : List ItD) (job : Int) (nm : ByteArray) (ss : List ByteArray) (t : Int) : Bool × Int × List ItD × List ItD :=
  if 0 ≤ askAt asks job then (false, 5, held, asks) else if roomI held (tgt job nm ss) = false then (false, 4, held, asks)
  else if frontI held asks job nm ss = true then (false, 0, held, asks ++ [⟨job, t, nm, ss⟩]) else (true, 0, acqI held (tgt job nm ss), asks)
def TakePost (B base p : Nat) (r : Bool × Int × List ItD × List ItD) (w : World) (e : Ending) (w' : World) : Prop :=
  e = .returned (.tuple #[.bool r.1, .int .i64 r.2.1]) ∧ ∃ v0 v1 vs us, LkO w' base p v0 v1 r.2.2.1 r.2.2.2 vs us ∧ Below B w w'

set_option maxRecDepth 100000 in
set_option maxHeartbeats 2000000 in
theorem take_any (B base p : Nat) (v0 v1 : Value) (held asks : List ItD) (vs us : List Value) (job : Int) (nm : ByteArray) (S : Option Addr) (m q : Nat) (ss : List ByteArray) (t : Int) (w : World) (htab : tabT w) (h : LkO w base p v0 v1 held asks vs us) (hB : B ≤ base) (hBw : base ≤ w.heap.size)
    (hs : smalls held) (hsa : smalls asks) (hS : Strs w w.heap.size S m ss) (hmq : m ≤ q) (hst : (tgt job nm ss).small) (hmono : monoI held (tgt job nm ss)) (hb0 : ∀ d ∈ held, 0 ≤ d.b) (hla : asks.length < 1048576) :
    Calls Tryz.prog 54 #[.pointer (some ⟨p, 0, none⟩), .int .i64 job, .string nm, .slice S m q, .int .i64 t] w (TakePost B base p (takeI held asks job nm ss t) w) := by
  obtain ⟨i0, hi, hz0, hz1, hz2⟩ := info_parts infoAsk
  have hm : m ≤ 1048576 := by rw [← hS.1]; exact hst.2.1
  have HK1 := Lib.hid (waiting_any p held asks job w h.view hsa)
  have HK2 := Lib.hid (fun W (hW : Below w.heap.size w W) => room_any p held asks job nm S m q ss W (tab_later htab hW) (h.view.later hW) hs (hS.later hW) hmq hst hmono)
  have HK3 := Lib.hid (fun W (hW : Below w.heap.size w W) => may_any p held asks job nm S m q ss W (h.view.later hW) hs hsa (hS.later hW) hm hmq)
  have HK4 := Lib.hid (fun W (hW : Below w.heap.size w W) (hr : roomI held (tgt job nm ss) = true) => acquire_any B base p v0 v1 held asks vs us job nm S m q ss W (tab_later htab hW) (h.later hW) hB (Nat.le_trans hBw hW.size) hs (hS.later hW) hmq hst hmono hr hb0)
  have HKC := Lib.hid (fun W (hW : Below w.heap.size w W) => CloneS_any S m q ss W (hS.later hW) hm)
  have HO := Lib.hid h
  have HSL := Lib.hid hS.1
  have HT : Hid (takeI held asks job nm ss t = if 0 ≤ askAt asks job then (false, 5, held, asks) else if roomI held (tgt job nm ss) = false then (false, 4, held, asks)
    else if frontI held asks job nm ss = true then (false, 0, held, asks ++ [⟨job, t, nm, ss⟩]) else (true, 0, acqI held (tgt job nm ss), asks)) := rfl
  clear htab h hs hsa hS hst hmono hb0
  generalize takeI held asks job nm ss t = T at *
  generalize acqI held (tgt job nm ss) = R at *
  generalize roomI held (tgt job nm ss) = ro at *
  generalize frontI held asks job nm ss = fr at *
  generalize askAt asks job = aw at *
  go_enter Tryz.func54, Tryz.ntmps54
  go_wp2_with fail
  refine HK1.out.mono ?_
  rintro e w1 ⟨rfl, hb1⟩
  have HB1 := Lib.hid hb1
  clear hb1 HK1
  by_cases haw : 0 ≤ aw
  · have HE : Hid (T = (false, 5, held, asks)) := by unfold Hid; rw [HT.out, if_pos haw]
    go_wp2_with fail
    go_ret2
    refine ⟨by rw [HE.out]; rfl, v0, v1, vs, us, ?_, HB1.out.mono (by omega)⟩
    rw [HE.out]
    exact HO.out.later HB1.out
  · have haw2 : aw < 0 := by omega
    go_wp2_with fail
    refine (HK2.out _ HB1.out).mono ?_
    rintro e w2 ⟨rfl, hb2⟩
    have HB2 := Lib.hid (HB1.out.later hb2)
    clear hb2
    cases ro
    · have HE : Hid (T = (false, 4, held, asks)) := by unfold Hid; rw [HT.out, if_neg (by omega)]; rfl
      go_wp2_with fail
      go_ret2
      refine ⟨by rw [HE.out]; rfl, v0, v1, vs, us, ?_, HB2.out.mono (by omega)⟩
      rw [HE.out]
      exact HO.out.later HB2.out
    · go_wp2_with fail
      refine (HK3.out _ HB2.out).mono ?_
      rintro e w3 ⟨rfl, hb3⟩
      have HB3 := Lib.hid (HB2.out.later hb3)
      clear hb3
      cases fr
      · have HE : Hid (T = (true, 0, R, asks)) := by unfold Hid; rw [HT.out, if_neg (by omega)]; rfl
        go_wp2_with fail
        refine (HK4.out _ HB3.out (by trivial)).mono ?_
        rintro e w4 ⟨rfl, v0', vs', hL, hb4⟩
        have HL := Lib.hid hL
        have HB4 := Lib.hid ((HB3.out.mono (show B ≤ w.heap.size by omega)).trans hb4)
        clear hL hb4
        go_wp2_with fail
        go_ret2
        refine ⟨by rw [HE.out]; rfl, v0', v1, vs', us, ?_, HB4.out⟩
        rw [HE.out]
        exact HL.out
      · have HE : Hid (T = (false, 0, held, asks ++ [⟨job, t, nm, ss⟩])) := by unfold Hid; rw [HT.out, if_neg (by omega)]; rfl
        have HO1 := Lib.hid (HO.out.later HB3.out)
        have hsz1 := HB3.out.size
        have p0 := HO1.out.blk.cell 1
        have f0 := HO1.out.blk.frozen 1
        have zp := HO1.out.blk.lt
        simp at p0
        obtain ⟨A, cap, rfl, hcap, hcm, hA⟩ := own_slice HO1.out.a.row
        have HRW := Lib.hid HO1.out.a.row
        clear hA HT HK2 HK3 HK4
        unfold maxLen at hcm
        generalize hN : asks.length = n at *
        have HN := Lib.hid hN
        clear hN
        go_wp2_with fail
        go_region_law (first
          | (refine step_append_lies _ (by rfl) _ _ _ (by rfl) base 42 i0 _ 4 56 Tryz.underlying25 hi hz0 hz1 hz2 rfl (by omega) (.slice A n cap) n (flat asks us) (by rfl) (by exact HRA.out)
                ⟨w4.heap.size, 0, none⟩ 1 1 [.int .i64 job, .int .i64 t, .string nm, .slice A2 ss.length cap2] (by rfl) (by rfl) (by exact cells_new w4 #[.int .i64 job, .int .i64 t, .string nm, .slice A2 ss.length cap2] _) (by simp [Value.oneCell'])
                (by omega) (by unfold maxLen; omega) (by omega) (by simp; omega) (w4.heap.size + 1) (by simp) ?_
             intro gg cap' w5 hown5 hgrow5 hat hlt2
             have hbg := ((HO1.out.blk.later HB4.out zp).alloc (.cells #[.int .i64 job, .int .i64 t, .string nm, .slice A2 ss.length cap2] 42)).grown hgrow5 (fun e => own_blk_ne HRW.out HO1.out.blk (by decide) e.symm)
             have p5 := hbg.cell
             have f5 := hbg.frozen
             have z5 := hbg.lt
             have HBG := Lib.hid hbg
             have HOW := Lib.hid hown5
             have HGR := Lib.hid hgrow5
             clear hbg hown5 hgrow5)
          | (go_simp
             go_at_call 81
             refine (HKC.out _ (by exact HB3.out.drew)).mono ?_
             rintro e w4 ⟨v', rfl, hsub, hb4⟩
             have HSUB := Lib.hid hsub
             have HB4 := Lib.hid (undrew hb4)
             obtain ⟨A2, cap2, rfl, hcap2, _, _⟩ := own_slice hsub
             clear hsub hb4
             have p2 := (HO1.out.blk.later HB4.out zp).cell 1
             simp at p2
             have z2 := (HO1.out.blk.later HB4.out zp).lt
             have z3 := Nat.lt_succ_of_lt z2
             have hsz4 := HB4.out.size
             have HRA := Lib.hid (own_later (own_later HRW.out HB4.out) (Below.new w4 (.cells #[.int .i64 job, .int .i64 t, .string nm, .slice A2 ss.length cap2] 42)))))
        all_goals
          have HN2 := Lib.hid (Below.new w4 (.cells #[.int .i64 job, .int .i64 t, .string nm, .slice A2 ss.length cap2] 42))
          have HO2 := Lib.hid (HO1.out.later HB4.out)
          have HS2 : Hid (SubO (w4.alloc (.cells #[.int .i64 job, .int .i64 t, .string nm, .slice A2 ss.length cap2] 42)) base (.slice A2 ss.length cap2) ss) := own_later (own_base HSUB.out (by have := HB3.out.size; simp; omega)) HN2.out
          have HLN : Hid (LkO (w5.setCell ⟨p, 1, none⟩ (.slice (some ⟨gg, 0, none⟩) (n + 1) cap')) base p v0 (.slice (some ⟨gg, 0, none⟩) (n + 1) cap') held (asks ++ [⟨job, t, nm, ss⟩]) vs (us ++ [.slice A2 ss.length cap2])) := by
            refine ⟨HBG.out.set_ 1 _, HO1.out.above, ?_, ?_, ?_⟩
            · exact ((HO2.out.h.later HN2.out).keptRow (HO2.out.a.later HN2.out).row (by decide) (by decide) HGR.out).grownOther HBG.out (by decide) (by decide) (grown_set _ _ _ _)
            · refine OwnIts.grownOther ?_ HBG.out (by decide) (by decide) (grown_set _ _ _ _)
              refine OwnIts.snoc (HO2.out.a.later HN2.out) HS2.out (HO1.out.a.fresh HSUB.out (by simp)) ?_ HGR.out (by decide)
              rw [HN.out]
              exact HOW.out
            · intro x' hx y hy
              rcases List.mem_append.1 hy with hy | hy
              · exact HO1.out.cross x' hx y hy
              · rw [List.mem_singleton.1 hy]
                exact HO1.out.h.fresh HSUB.out (by simp) x' hx
          have HBN : Hid (Below B w (w5.setCell ⟨p, 1, none⟩ (.slice (some ⟨gg, 0, none⟩) (n + 1) cap'))) :=
            ((((HB3.out.later HB4.out).later HN2.out).mono (show B ≤ w.heap.size by omega)).grown HGR.out (by have := HB4.out.size; simp; omega) (fun g hg => Nat.le_trans hB (World.ownsRow.lt (own_later HRW.out HB4.out) g hg).1)).setCell (show B ≤ p from Nat.le_trans hB HO1.out.above) _
          clear p5 f5 z5 p0 f0 p2 z2 z3
          go_wp2_with fail
          go_ret2
          exact ⟨by rw [HE.out]; rfl, v0, _, vs, _, by rw [HE.out]; exact HLN.out, HBN.out⟩
end Go.Proofs.YtiebcdajoddkpaaGreatDoor
