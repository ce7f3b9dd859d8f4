/-
  Drawn locks, bent: l24Bent. (Printed by gen_dr3.py.)
-/
import Derived.Test.YtiebcdajoddkpaaGreatDoorDr2
namespace Go.Proofs.YtiebcdajoddkpaaGreatDoor
open Go.RowKit
set_option linter.unusedVariables false

theorem apart_nil (u : Value) : apart u (.slice none 0 0) := by
  cases h : u.ownBlock with
  | none => exact .inl h
  | some g => exact .inr (by rw [h]; simp [Value.ownBlock])
theorem apart_nil' (u : Value) : apart (.slice none 0 0) u := .inl rfl
theorem Drawn.undrew {p K : Nat} {a b : World} (h : Drawn p K a.drew b) : Drawn p K a b := ⟨h.src, ⟨h.chg.os, h.chg.tape, h.chg.output, h.chg.size, h.chg.block⟩⟩
theorem Ints.drawn {w w' : World} {p K b n : Nat} {zs : List Int} (h : Ints w w.heap.size (some ⟨b, 0, none⟩) n zs) (hd : Drawn p K w w') (hb : b ≠ p) : Ints w' w'.heap.size (some ⟨b, 0, none⟩) n zs := by
  refine ⟨h.1, fun hn => ?_⟩
  obtain ⟨b', o, e, hb', hc⟩ := h.2 hn
  cases e
  exact ⟨b, 0, rfl, Nat.lt_of_lt_of_le hb' hd.chg.size, fun j hj => (World.cell?_of_block (w := w) (hd.chg.block b hb' hb)).trans (hc j hj)⟩
section
variable {p K K' : Nat} {w : World} {base q r : Nat} {held asks : List ItD} {vs us : List Value} {v0 v1 : Value} {X Y : World}
theorem DrawS.addH (s : DrawS p K w base q r held asks vs us v0 v1 X) {o : Obj} {v2 : Value} {d : ItD} (hown : Y.ownsRow base 37 4 v2 (held.length + 1) (flat held vs ++ cellsIt d (.slice none 0 0))) (hg : (X.alloc o).grownBy Y v0.ownBlock) (hd : d.subs = []) (hqr : r ≠ q) (hpw : p < w.heap.size) (hq : w.heap.size ≤ q) (hbw : w.heap.size ≤ base) :
    DrawS p K w base q r (held ++ [d]) asks (vs ++ [.slice none 0 0]) us v2 v1 (Y.setCell ⟨q, 0, none⟩ v2) := by
  have s2 := s.later (Below.new X o)
  have hb1 := s2.box.grown hg (fun e => own_blk_ne s2.h.row s2.box (by decide) e.symm)
  have hr1 := s2.res.grown hg (fun e => own_blk_ne s2.h.row s2.res (by decide) e.symm)
  have hn : OwnIts Y base 37 v2 (held ++ [d]) (vs ++ [.slice none 0 0]) := OwnIts.snoc s2.h (by rw [hd]; exact World.ownsRow_nil _ _ _ _) (fun u _ => apart_nil u) hown hg (by decide)
  have ho : OwnIts Y base 42 v1 asks us := s2.a.keptRow s2.h.row (by decide) (by decide) hg
  have hd1 := (s2.draw.grown hg (fun g hg' => Nat.le_trans hbw (s2.h.row.lt g hg').1) hpw).grown (grown_set Y q 0 v2) (fun g e => by cases e; exact hq) hpw
  refine ⟨hn.grownOther hb1 (by decide) (by decide) (grown_set _ _ _ _), ho.grownOther hb1 (by decide) (by decide) (grown_set _ _ _ _), fun x hx y hy => ?_, ?_, hr1.far (p := ⟨q, 0, none⟩) hqr _, hd1⟩
  · rcases List.mem_append.1 hx with h | h
    · exact s.cross x h y hy
    · rw [List.mem_singleton.1 h]
      exact apart_nil' y
  · have := hb1.set_ 0 v2
    simpa using this
theorem DrawS.addA (s : DrawS p K w base q r held asks vs us v0 v1 X) {o : Obj} {v2 : Value} {d : ItD} (hown : Y.ownsRow base 42 4 v2 (asks.length + 1) (flat asks us ++ cellsIt d (.slice none 0 0))) (hg : (X.alloc o).grownBy Y v1.ownBlock) (hd : d.subs = []) (hqr : r ≠ q) (hpw : p < w.heap.size) (hq : w.heap.size ≤ q) (hbw : w.heap.size ≤ base) :
    DrawS p K w base q r held (asks ++ [d]) vs (us ++ [.slice none 0 0]) v0 v2 (Y.setCell ⟨q, 1, none⟩ v2) := by
  have s2 := s.later (Below.new X o)
  have hb1 := s2.box.grown hg (fun e => own_blk_ne s2.a.row s2.box (by decide) e.symm)
  have hr1 := s2.res.grown hg (fun e => own_blk_ne s2.a.row s2.res (by decide) e.symm)
  have hn : OwnIts Y base 42 v2 (asks ++ [d]) (us ++ [.slice none 0 0]) := OwnIts.snoc s2.a (by rw [hd]; exact World.ownsRow_nil _ _ _ _) (fun u _ => apart_nil u) hown hg (by decide)
  have ho : OwnIts Y base 37 v0 held vs := s2.h.keptRow s2.a.row (by decide) (by decide) hg
  have hd1 := (s2.draw.grown hg (fun g hg' => Nat.le_trans hbw (s2.a.row.lt g hg').1) hpw).grown (grown_set Y q 1 v2) (fun g e => by cases e; exact hq) hpw
  refine ⟨ho.grownOther hb1 (by decide) (by decide) (grown_set _ _ _ _), hn.grownOther hb1 (by decide) (by decide) (grown_set _ _ _ _), fun x hx y hy => ?_, ?_, hr1.far (p := ⟨q, 1, none⟩) hqr _, hd1⟩
  · rcases List.mem_append.1 hy with h | h
    · exact s.cross x hx y h
    · rw [List.mem_singleton.1 h]
      exact apart_nil x
  · have := hb1.set_ 1 v2
    simpa using this
/-- A number of a lock changed in its row. -/
theorem DrawS.setH {g n cap i c k : Nat} {u : Value} {d d' : ItD} (s : DrawS p K w base q r held asks vs us (.slice (some ⟨g, 0, none⟩) n cap) v1 X) (hn : held.length = n) (hi : i < n) (hc : c < 4) (hk : k = i * 4 + c) (hd : held.getD i default = d) (hc' : ∀ v, cellsIt d' v = (cellsIt d v).set c u) (hsub : d'.subs = d.subs) (hpw : p < w.heap.size) (hbw : w.heap.size ≤ base) :
    DrawS p K w base q r (held.set i d') asks vs us (.slice (some ⟨g, 0, none⟩) n cap) v1 (X.setCell ⟨g, k, none⟩ u) := by
  subst hn
  have hgr : X.grownBy (X.setCell ⟨g, k, none⟩ u) (some g) := grown_set _ _ _ _
  have hge : base ≤ g := (s.h.row.lt g rfl).1
  refine ⟨s.h.put rfl hi hc hk hd hc' hsub (by decide), s.a.keptRow s.h.row (by decide) (by decide) hgr, s.cross, s.box.far (p := ⟨g, k, none⟩) (fun e => own_blk_ne s.h.row s.box (by decide) (by rw [show q = g from e]; rfl)) _, s.res.far (p := ⟨g, k, none⟩) (fun e => own_blk_ne s.h.row s.res (by decide) (by rw [show r = g from e]; rfl)) _, s.draw.grown hgr (fun g' e => by cases e; omega) hpw⟩
end
def BentPost (p K : Nat) (w : World) (e : Ending) (w' : World) : Prop :=
  ∃ v0 v1 held asks vs us, e = .returned (.agg #[v0, v1]) ∧ OwnIts w' w.heap.size 37 v0 held vs ∧ OwnIts w' w.heap.size 42 v1 asks us ∧ (∀ x ∈ vs, ∀ y ∈ us, apart x y) ∧ smalls held ∧ smalls asks ∧ Drawn p K w w'
theorem smalls_snoc {l : List ItD} {d : ItD} (h : smalls l) (hl : l.length < 1048576) (hd : d.small) : smalls (l ++ [d]) :=
  ⟨by rw [List.length_append]; simp; omega, fun x hx => by
    rcases List.mem_append.1 hx with h1 | h1
    · exact h.2 x h1
    · rw [List.mem_singleton.1 h1]; exact hd⟩
theorem smalls_set {l : List ItD} {d : ItD} (h : smalls l) (i : Nat) (hd : d.small) : smalls (l.set i d) :=
  ⟨by rw [List.length_set]; exact h.1, fun x hx => by
    rcases List.mem_or_eq_of_mem_set hx with h1 | h1
    · exact h.2 x h1
    · rw [h1]; exact hd⟩
theorem own_slice' {w : World} {base e size n cap : Nat} {A : Option Addr} {xs : List Value} (h : w.ownsRow base e size (.slice A n cap) n xs) : 0 < n → ∃ g, A = some ⟨g, 0, none⟩ ∧ g < w.heap.size ∧ base ≤ g := by
  obtain ⟨A', c', e, _, _, hA⟩ := own_slice h
  injection e with e1 _ _
  subst e1
  exact hA

set_option maxRecDepth 100000 in
set_option maxHeartbeats 8000000 in
theorem l24Bent_any (p K : Nat) (w : World) (h : SrcR w p K) (hK : K ≤ 137438953472) :
    Calls Tryz.prog 35 #[.pointer (some ⟨p, 0, none⟩)] w (BentPost p (K + 272) w) := by
  have hpw := h.lt
  obtain ⟨i0, hi, hz0, hz1, hz2⟩ := info_parts infoLock
  obtain ⟨j0, gi, gz0, gz1, gz2⟩ := info_parts infoAsk
  have HK1 := Lib.hid (l24Draw_any p K _ (h.later (Below.new w (.cells #[.slice none 0 0, .slice none 0 0] 27))) (by omega))
  clear h
  go_enter Tryz.func35, Tryz.ntmps35
  go_wp2_with fail
  refine HK1.out.mono ?_
  rintro e w1 ⟨v0, v1, held, asks, vs, us, rfl, g0, g1, gx, hok, hd1⟩
  obtain ⟨A0, c0, rfl, _, _, _⟩ := own_slice g0.row
  obtain ⟨A1, c1, rfl, _, _, _⟩ := own_slice g1.row
  have hw1 : w.heap.size + 1 ≤ w1.heap.size := by have h := hd1.chg.size; simp at h; exact h
  have hnb := Below.new w1 (.cells #[.slice A0 held.length c0, .slice A1 asks.length c1] 27)
  have HS1 : Hid (DrawS p (K + 256) w (w.heap.size + 1) w1.heap.size w.heap.size held asks vs us (.slice A0 held.length c0) (.slice A1 asks.length c1) (w1.alloc (.cells #[.slice A0 held.length c0, .slice A1 asks.length c1] 27))) := by
    have hr : Blk w1 w.heap.size 27 #[.slice none 0 0, .slice none 0 0] := Blk.drawn (heap_last rfl) hd1 (by omega)
    have e : (w.alloc (.cells #[.slice none 0 0, .slice none 0 0] 27)).heap.size = w.heap.size + 1 := by simp
    rw [e] at g0 g1
    exact ⟨g0.later hnb, g1.later hnb, gx, heap_last rfl, hr.alloc _, (hd1.pre (Below.new _ _)).later hnb⟩
  have HSM := Lib.hid hok.small
  have hl16 := hok.hlen
  have hl4 := hok.alen
  clear g0 g1 gx hok hd1 hnb HK1
  have HK2 := Lib.hid (pick_any p (K + 256) 14 _ HS1.out.draw.src (by omega) (by omega))
  have hqr : w.heap.size ≠ w1.heap.size := by omega
  go_wp2_with fail
  refine HK2.out.mono ?_
  rintro e w2 ⟨x, rfl, hx, hd2⟩
  have HS2 := Lib.hid (HS1.out.drawn hd2 (by omega) hpw)
  clear hd2 HK2 HS1
  have hw2 := HS2.out.draw.chg.size
  have p0 := HS2.out.box.cell 0
  have p1 := HS2.out.box.cell 1
  have f0 := HS2.out.box.frozen 0
  have f1 := HS2.out.box.frozen 1
  have pz := HS2.out.box.lt
  have r0 := HS2.out.res.cell 0
  have r1 := HS2.out.res.cell 1
  have rf0 := HS2.out.res.frozen 0
  have rf1 := HS2.out.res.frozen 1
  have rz := HS2.out.res.lt
  simp at p0 p1 r0 r1
  have HFIN : Hid (∀ (X : World) KK (hh aa : List ItD) hv av B0 B1 d0 d1, KK ≤ K + 272 → smalls hh → smalls aa → DrawS p KK w (w.heap.size + 1) w1.heap.size w.heap.size hh aa hv av (.slice B0 hh.length d0) (.slice B1 aa.length d1) X → BentPost p (K + 272) w (.returned (.agg #[.slice B0 hh.length d0, .slice B1 aa.length d1])) ((X.setCell ⟨w.heap.size, 0, none⟩ (.slice B0 hh.length d0)).setCell ⟨w.heap.size, 1, none⟩ (.slice B1 aa.length d1))) := fun X KK hh aa hv av B0 B1 d0 d1 hk s1 s2 s => by
    have hgr := (grown_set X w.heap.size 0 (.slice B0 hh.length d0)).trans (grown_set (X.setCell ⟨w.heap.size, 0, none⟩ (.slice B0 hh.length d0)) w.heap.size 1 (.slice B1 aa.length d1))
    exact ⟨_, _, hh, aa, hv, av, rfl, (s.h.two s.res (by decide)).base (Nat.le_succ _), (s.a.two s.res (by decide)).base (Nat.le_succ _), s.cross, s1, s2, (s.draw.grown hgr (fun g e => by cases e; exact Nat.le_refl _) hpw).mono hk⟩
  by_cases h0 : x = 0
  · subst h0
    have HKP := Lib.hid (fun W (hW : Below w2.heap.size w2 W) => pick_any p (K + 256 + 2) 4 W (HS2.out.draw.src.later hW) (by omega) (by omega))
    go_wp2_with fail
    go_region_law (first
      | (refine step_append_lies _ (by rfl) _ _ _ (by rfl) (w.heap.size + 1) 37 i0 _ 4 56 Tryz.underlying24 hi hz0 hz1 hz2 rfl (by omega) (.slice A0 held.length c0) held.length (flat held vs) (by rfl) (by exact HRA.out)
             ⟨w3.heap.size, 0, none⟩ 1 1 [.int .i64 (1 + (y : Int)), .int .i64 1, .string ⟨#[65]⟩, .slice none 0 0] (by rfl) (by rfl) (by exact cells_new w3 #[.int .i64 (1 + (y : Int)), .int .i64 1, .string ⟨#[65]⟩, .slice none 0 0] _) (by simp [Value.oneCell'])
             (by omega) (by unfold maxLen; omega) (by omega) (by simp; omega) (w3.heap.size + 1) (by simp) ?_
         intro gg cap' w9 hown hgrow hat hlt2
         have hgrow' : (w3.alloc (.cells #[.int .i64 (1 + (y : Int)), .int .i64 1, .string ⟨#[65]⟩, .slice none 0 0] 37)).grownBy w9 (Value.ownBlock (.slice A0 held.length c0)) := ⟨hgrow.os, hgrow.tape, hgrow.output, hgrow.size, hgrow.block⟩
         have hbg := ((HSX.out.later (Below.new w3 (.cells #[.int .i64 (1 + (y : Int)), .int .i64 1, .string ⟨#[65]⟩, .slice none 0 0] 37))).box).grown hgrow' (fun e => own_blk_ne HRA.out ((HSX.out.later (Below.new w3 _)).box) (by decide) e.symm)
         have HS9 := Lib.hid (HSX.out.addH (d := ⟨1 + (y : Int), 1, ⟨#[65]⟩, []⟩) hown hgrow' rfl hqr hpw (by omega) (Nat.le_succ _))
         have s5 := hbg.cell 0
         have sf5 := hbg.frozen 0
         have sz5 := hbg.lt
         clear hbg hown hgrow hgrow')
      | (go_simp
         go_at_call 36
         refine (HKP.out _ (by exact (Below.refl _ _).drew)).mono ?_
         rintro e w3 ⟨y, rfl, hy, hd3⟩
         have hy3 : y ≤ 3 := by omega
         have hwy : IntKind.i64.wrap (1 + (y : Int)) = 1 + (y : Int) := by rw [IntKind.wrap_i64]; omega
         have HSX := Lib.hid (HS2.out.drawn hd3.undrew (by omega) hpw)
         have hw3 := HSX.out.draw.chg.size
         have q0 := HSX.out.box.cell 0
         have q1 := HSX.out.box.cell 1
         have qz := HSX.out.box.lt
         have qz1 := Nat.lt_succ_of_lt qz
         simp at q0 q1
         have hw31 : w.heap.size + 1 ≤ w3.heap.size := by omega
         have HRA := Lib.hid (own_later HSX.out.h.row (Below.new w3 (.cells #[.int .i64 (1 + (y : Int)), .int .i64 1, .string ⟨#[65]⟩, .slice none 0 0] 37)))
         clear hd3))
    all_goals
      clear p0 p1 f0 f1 pz r0 r1 rf0 rf1 rz q0 q1 qz qz1
      have a0 := HS9.out.box.cell 0
      have a1 := HS9.out.box.cell 1
      have af0 := HS9.out.box.frozen 0
      have af1 := HS9.out.box.frozen 1
      have az := HS9.out.box.lt
      have ar0 := HS9.out.res.cell 0
      have ar1 := HS9.out.res.cell 1
      have arf0 := HS9.out.res.frozen 0
      have arf1 := HS9.out.res.frozen 1
      have arz := HS9.out.res.lt
      simp at a0 a1 ar0 ar1
      go_wp2_with fail
      have hbf := box_two HS9.out.res (.slice (some ⟨gg, 0, none⟩) (held.length + 1) cap') (.slice A1 asks.length c1)
      have t0 := (hbf.cell 0).trans rfl
      have t1 := (hbf.cell 1).trans rfl
      refine bodyPost_ret (v := .agg #[.slice (some ⟨gg, 0, none⟩) (held.length + 1) cap', .slice A1 asks.length c1]) (by simp [results, Tryz.results35, go_sem, t0, t1]) rfl ?_
      have hl : (held ++ [(⟨1 + (y : Int), 1, ⟨#[65]⟩, []⟩ : ItD)]).length = held.length + 1 := by rw [List.length_append]; rfl
      have hfin := HFIN.out _ (K + 256 + 2 + 2) (held ++ [⟨1 + (y : Int), 1, ⟨#[65]⟩, []⟩]) asks _ _ _ _ _ _ (by omega) (smalls_snoc HSM.out.1 (by omega) ⟨(by show (⟨#[65]⟩ : ByteArray).size ≤ _; decide), by simp, by simp⟩) HSM.out.2 (by rw [hl]; exact HS9.out)
      rw [hl] at hfin
      exact hfin
  · by_cases h1 : x = 1
    · subst h1
      by_cases hl0 : 0 < held.length
      · obtain ⟨g, rfl, hgl, hgb⟩ := (own_slice' HS2.out.h.row) hl0
        have hl1 : (0 : Int) < (held.length : Int) := by omega
        have HSMx := Lib.hid (HSM.out.1.2 _ (getD_mem held 0 hl0))
        have HKA := Lib.hid (fun W (hW : Below w2.heap.size w2 W) (hI : Ints W W.heap.size (some ⟨w2.heap.size, 0, none⟩) 3 [0, 9, 10]) => among_any p (K + 256 + 2) w2.heap.size 3 3 [0, 9, 10] W (HS2.out.draw.src.later hW) (by omega) hI (by omega) (by omega) (by omega))
        go_wp2_with fail
        go_region_law (first
          | (go_simp
             go_at_call 46
             refine (HKA.out _ (by exact (Below.new w2 _).drew) (by exact ints_lit w2 _ [0, 9, 10] _ rfl)).mono ?_
             rintro e w3 ⟨z, hz, rfl, hd3⟩
             have HS3 := Lib.hid ((HS2.out.later (Below.new w2 (.cells #[.int .i64 0, .int .i64 9, .int .i64 10] 2))).drawn (Drawn.undrew (a := w2.alloc (.cells #[.int .i64 0, .int .i64 9, .int .i64 10] 2)) hd3) (by omega) hpw)
             clear hd3
             have HSX := Lib.hid (HS3.out)
             have hw3 := HSX.out.draw.chg.size
             obtain ⟨cur, hcur⟩ := own_blk HSX.out.h.row
             have q0 := own_cell HSX.out.h.row 1 _ (by omega) ((flat_at held vs 0 1 HSX.out.h.len hl0 (by decide)).trans rfl)
             have q1 := hcur.frozen 1
             have qz := hcur.lt
             have bq0 := HSX.out.box.cell 0
             have bqz := HSX.out.box.lt
             simp at bq0
             have HS9 := Lib.hid (HSX.out.setH (i := 0) (c := 1) (k := 1) (u := .int .i64 z) (d' := { held.getD 0 default with b := z }) rfl hl0 (by decide) (by decide) rfl (fun v => rfl) rfl hpw (Nat.le_succ _))
             clear hcur))
        all_goals
          clear p0 p1 f0 f1 pz r0 r1 rf0 rf1 rz q0 q1 qz bq0 bqz
          have a0 := HS9.out.box.cell 0
          have a1 := HS9.out.box.cell 1
          have af0 := HS9.out.box.frozen 0
          have af1 := HS9.out.box.frozen 1
          have az := HS9.out.box.lt
          have ar0 := HS9.out.res.cell 0
          have ar1 := HS9.out.res.cell 1
          have arf0 := HS9.out.res.frozen 0
          have arf1 := HS9.out.res.frozen 1
          have arz := HS9.out.res.lt
          simp at a0 a1 ar0 ar1
          go_wp2_with fail
          have hbf := box_two HS9.out.res (.slice (some ⟨g, 0, none⟩) held.length c0) (.slice A1 asks.length c1)
          have t0 := (hbf.cell 0).trans rfl
          have t1 := (hbf.cell 1).trans rfl
          refine bodyPost_ret (v := .agg #[.slice (some ⟨g, 0, none⟩) held.length c0, .slice A1 asks.length c1]) (by simp [results, Tryz.results35, go_sem, t0, t1]) rfl ?_
          have hl : (held.set 0 { held.getD 0 default with b := z }).length = held.length := List.length_set
          have hfin := HFIN.out _ (K + 256 + 2 + 2) (held.set 0 { held.getD 0 default with b := z }) asks _ _ _ _ _ _ (by omega) (smalls_set HSM.out.1 0 HSMx.out) HSM.out.2 (by rw [hl]; exact HS9.out)
          rw [hl] at hfin
          exact hfin
      · have hl1 : ¬ (0 : Int) < (held.length : Int) := by omega
        go_wp2_with fail
        have hbf := box_two HS2.out.res (.slice A0 held.length c0) (.slice A1 asks.length c1)
        have t0 := (hbf.cell 0).trans rfl
        have t1 := (hbf.cell 1).trans rfl
        refine bodyPost_ret (v := .agg #[.slice A0 held.length c0, .slice A1 asks.length c1]) (by simp [results, Tryz.results35, go_sem, t0, t1]) rfl ?_
        exact HFIN.out _ (K + 256 + 2) held asks _ _ _ _ _ _ (by omega) HSM.out.1 HSM.out.2 HS2.out
    · by_cases h2 : x = 2
      · subst h2
        have HKP := Lib.hid (fun W (hW : Below w2.heap.size w2 W) => pick_any p (K + 256 + 2) 5 W (HS2.out.draw.src.later hW) (by omega) (by omega))
        have HKA := Lib.hid (fun b W (hs : SrcR W p (K + 256 + 2 + 2)) (hI : Ints W W.heap.size (some ⟨b, 0, none⟩) 4 [0, -1, 999999, 1000000]) (hb : b ≠ p) => among_any p (K + 256 + 2 + 2) b 4 4 [0, -1, 999999, 1000000] W hs (by omega) hI hb (by omega) (by omega))
        go_wp2_with fail
        go_region_law (first
          | (go_simp
             go_at_call 36
             with_reducible refine (HKP.out w2.drew ?_).mono ?_
             · exact (Below.refl _ _).drew
             rintro e w3 ⟨y, rfl, hy, hd3⟩
             have hd3' : Drawn p (K + 256 + 2 + 2) (w2) w3 := hd3.undrew
             have hy4 : y ≤ 4 := by omega
             have hwy : IntKind.i64.wrap (1 + (y : Int)) = 1 + (y : Int) := by rw [IntKind.wrap_i64]; omega
             have HS3 := Lib.hid ((HS2.out).drawn hd3' (by omega) hpw)
             have q0 := HS3.out.box.cell 0
             have q1 := HS3.out.box.cell 1
             have qz := HS3.out.box.lt
             have hw3 := HS3.out.draw.chg.size
             simp at q0 q1
             clear hd3 hd3')
          | (go_simp
             go_at_call 36
             with_reducible refine (HKP.out (w2.alloc (.cells #[.int .i64 0, .int .i64 (-1), .int .i64 999999, .int .i64 1000000] 2)).drew ?_).mono ?_
             · exact (Below.new w2 _).drew
             rintro e w3 ⟨y, rfl, hy, hd3⟩
             have hd3' : Drawn p (K + 256 + 2 + 2) ((w2.alloc (.cells #[.int .i64 0, .int .i64 (-1), .int .i64 999999, .int .i64 1000000] 2))) w3 := hd3.undrew
             have hy4 : y ≤ 4 := by omega
             have hwy : IntKind.i64.wrap (1 + (y : Int)) = 1 + (y : Int) := by rw [IntKind.wrap_i64]; omega
             have HI3 : Hid (Ints w3 w3.heap.size (some ⟨w2.heap.size, 0, none⟩) 4 [0, -1, 999999, 1000000]) := (ints_lit w2 2 [0, -1, 999999, 1000000] _ rfl).drawn hd3' (by omega)
             have HS3 := Lib.hid ((HS2.out.later (Below.new w2 (.cells #[.int .i64 0, .int .i64 (-1), .int .i64 999999, .int .i64 1000000] 2))).drawn hd3' (by omega) hpw)
             have q0 := HS3.out.box.cell 0
             have q1 := HS3.out.box.cell 1
             have qz := HS3.out.box.lt
             have hw3 := HS3.out.draw.chg.size
             simp at q0 q1
             clear hd3 hd3')
          | (go_simp
             go_at_call 46
             have hguard := HI3.out
             clear hguard
             with_reducible refine (HKA.out w2.heap.size w3 ?_ ?_ ?_).mono ?_
             · exact HS3.out.draw.src
             · exact HI3.out
             · omega
             rintro e w4 ⟨z, hz, rfl, hd4⟩
             have HSX := Lib.hid ((HS3.out).drawn hd4 (by omega) hpw)
             have hw4 := HSX.out.draw.chg.size
             have u0 := HSX.out.box.cell 0
             have u1 := HSX.out.box.cell 1
             have uz := HSX.out.box.lt
             have uz1 := Nat.lt_succ_of_lt uz
             simp at u0 u1
             have hw41 : w.heap.size + 1 ≤ w4.heap.size := by omega
             have HRA := Lib.hid (own_later HSX.out.a.row (Below.new w4 (.cells #[.int .i64 (1 + (y : Int)), .int .i64 z, .string ⟨#[66]⟩, .slice none 0 0] 42)))
             clear hd4)
          | (go_simp
             go_at_call 46
             with_reducible refine (HKA.out w3.heap.size (w3.alloc (.cells #[.int .i64 0, .int .i64 (-1), .int .i64 999999, .int .i64 1000000] 2)) ?_ ?_ ?_).mono ?_
             · exact HS3.out.draw.src.later (Below.new w3 _)
             · exact (ints_lit w3 2 [0, -1, 999999, 1000000] _ rfl)
             · omega
             rintro e w4 ⟨z, hz, rfl, hd4⟩
             have HSX := Lib.hid ((HS3.out.later (Below.new w3 (.cells #[.int .i64 0, .int .i64 (-1), .int .i64 999999, .int .i64 1000000] 2))).drawn hd4 (by omega) hpw)
             have hw4 := HSX.out.draw.chg.size
             have u0 := HSX.out.box.cell 0
             have u1 := HSX.out.box.cell 1
             have uz := HSX.out.box.lt
             have uz1 := Nat.lt_succ_of_lt uz
             simp at u0 u1
             have hw41 : w.heap.size + 1 ≤ w4.heap.size := by omega
             have HRA := Lib.hid (own_later HSX.out.a.row (Below.new w4 (.cells #[.int .i64 (1 + (y : Int)), .int .i64 z, .string ⟨#[66]⟩, .slice none 0 0] 42)))
             clear hd4)
          | (refine step_append_lies _ (by rfl) _ _ _ (by rfl) (w.heap.size + 1) 42 j0 _ 4 56 Tryz.underlying25 gi gz0 gz1 gz2 rfl (by omega) (.slice A1 asks.length c1) asks.length (flat asks us) (by rfl) (by exact HRA.out)
                 ⟨w4.heap.size, 0, none⟩ 1 1 [.int .i64 (1 + (y : Int)), .int .i64 z, .string ⟨#[66]⟩, .slice none 0 0] (by rfl) (by rfl) (by exact cells_new w4 #[.int .i64 (1 + (y : Int)), .int .i64 z, .string ⟨#[66]⟩, .slice none 0 0] _) (by simp [Value.oneCell'])
                 (by omega) (by unfold maxLen; omega) (by omega) (by simp; omega) (w4.heap.size + 1) (by simp) ?_
             intro gg cap' w9 hown hgrow hat hlt2
             have hgrow' : (w4.alloc (.cells #[.int .i64 (1 + (y : Int)), .int .i64 z, .string ⟨#[66]⟩, .slice none 0 0] 42)).grownBy w9 (Value.ownBlock (.slice A1 asks.length c1)) := ⟨hgrow.os, hgrow.tape, hgrow.output, hgrow.size, hgrow.block⟩
             have hbg := ((HSX.out.later (Below.new w4 (.cells #[.int .i64 (1 + (y : Int)), .int .i64 z, .string ⟨#[66]⟩, .slice none 0 0] 42))).box).grown hgrow' (fun e => own_blk_ne HRA.out ((HSX.out.later (Below.new w4 _)).box) (by decide) e.symm)
             have HS9 := Lib.hid (HSX.out.addA (d := ⟨1 + (y : Int), z, ⟨#[66]⟩, []⟩) hown hgrow' rfl hqr hpw (by omega) (Nat.le_succ _))
             have s5 := hbg.cell 1
             have sf5 := hbg.frozen 1
             have sz5 := hbg.lt
             clear hbg hown hgrow hgrow'))
        all_goals
          clear p0 p1 f0 f1 pz r0 r1 rf0 rf1 rz q0 q1 qz u0 u1 uz uz1
          have a0 := HS9.out.box.cell 0
          have a1 := HS9.out.box.cell 1
          have af0 := HS9.out.box.frozen 0
          have af1 := HS9.out.box.frozen 1
          have az := HS9.out.box.lt
          have ar0 := HS9.out.res.cell 0
          have ar1 := HS9.out.res.cell 1
          have arf0 := HS9.out.res.frozen 0
          have arf1 := HS9.out.res.frozen 1
          have arz := HS9.out.res.lt
          simp at a0 a1 ar0 ar1
          go_wp2_with fail
          have hbf := box_two HS9.out.res (.slice A0 held.length c0) (.slice (some ⟨gg, 0, none⟩) (asks.length + 1) cap')
          have t0 := (hbf.cell 0).trans rfl
          have t1 := (hbf.cell 1).trans rfl
          refine bodyPost_ret (v := .agg #[.slice A0 held.length c0, .slice (some ⟨gg, 0, none⟩) (asks.length + 1) cap']) (by simp [results, Tryz.results35, go_sem, t0, t1]) rfl ?_
          have hl : (asks ++ [(⟨1 + (y : Int), z, ⟨#[66]⟩, []⟩ : ItD)]).length = asks.length + 1 := by rw [List.length_append]; rfl
          have hfin := HFIN.out _ (K + 256 + 2 + 2 + 2) held (asks ++ [⟨1 + (y : Int), z, ⟨#[66]⟩, []⟩]) _ _ _ _ _ _ (by omega) HSM.out.1 (smalls_snoc HSM.out.2 (by omega) ⟨(by show (⟨#[66]⟩ : ByteArray).size ≤ _; decide), by simp, by simp⟩) (by rw [hl]; exact HS9.out)
          rw [hl] at hfin
          exact hfin
      · by_cases h3 : x = 3
        · subst h3
          by_cases hl0 : 0 < held.length
          · obtain ⟨g, rfl, hgl, hgb⟩ := (own_slice' HS2.out.h.row) hl0
            have hl1 : (0 : Int) < (held.length : Int) := by omega
            have HSMx := Lib.hid (HSM.out.1.2 _ (getD_mem held 0 hl0))
            have HKP := Lib.hid (fun W (hW : Below w2.heap.size w2 W) => pick_any p (K + 256 + 2) 6 W (HS2.out.draw.src.later hW) (by omega) (by omega))
            go_wp2_with fail
            go_region_law (first
              | (go_simp
                 go_at_call 36
                 refine (HKP.out _ (by exact (Below.refl _ _).drew)).mono ?_
                 rintro e w3 ⟨y, rfl, hy, hd3⟩
                 have HS3 := Lib.hid (HS2.out.drawn hd3.undrew (by omega) hpw)
                 clear hd3
                 have HSX := Lib.hid (HS3.out)
                 have hw3 := HSX.out.draw.chg.size
                 obtain ⟨cur, hcur⟩ := own_blk HSX.out.h.row
                 have q0 := own_cell HSX.out.h.row 0 _ (by omega) ((flat_at held vs 0 0 HSX.out.h.len hl0 (by decide)).trans rfl)
                 have q1 := hcur.frozen 0
                 have qz := hcur.lt
                 have bq0 := HSX.out.box.cell 0
                 have bqz := HSX.out.box.lt
                 simp at bq0
                 have HS9 := Lib.hid (HSX.out.setH (i := 0) (c := 0) (k := 0) (u := .int .i64 y) (d' := { held.getD 0 default with a := (y : Int) }) rfl hl0 (by decide) (by decide) rfl (fun v => rfl) rfl hpw (Nat.le_succ _))
                 clear hcur))
            all_goals
              clear p0 p1 f0 f1 pz r0 r1 rf0 rf1 rz q0 q1 qz bq0 bqz
              have a0 := HS9.out.box.cell 0
              have a1 := HS9.out.box.cell 1
              have af0 := HS9.out.box.frozen 0
              have af1 := HS9.out.box.frozen 1
              have az := HS9.out.box.lt
              have ar0 := HS9.out.res.cell 0
              have ar1 := HS9.out.res.cell 1
              have arf0 := HS9.out.res.frozen 0
              have arf1 := HS9.out.res.frozen 1
              have arz := HS9.out.res.lt
              simp at a0 a1 ar0 ar1
              go_wp2_with fail
              have hbf := box_two HS9.out.res (.slice (some ⟨g, 0, none⟩) held.length c0) (.slice A1 asks.length c1)
              have t0 := (hbf.cell 0).trans rfl
              have t1 := (hbf.cell 1).trans rfl
              refine bodyPost_ret (v := .agg #[.slice (some ⟨g, 0, none⟩) held.length c0, .slice A1 asks.length c1]) (by simp [results, Tryz.results35, go_sem, t0, t1]) rfl ?_
              have hl : (held.set 0 { held.getD 0 default with a := (y : Int) }).length = held.length := List.length_set
              have hfin := HFIN.out _ (K + 256 + 2 + 2) (held.set 0 { held.getD 0 default with a := (y : Int) }) asks _ _ _ _ _ _ (by omega) (smalls_set HSM.out.1 0 HSMx.out) HSM.out.2 (by rw [hl]; exact HS9.out)
              rw [hl] at hfin
              exact hfin
          · have hl1 : ¬ (0 : Int) < (held.length : Int) := by omega
            go_wp2_with fail
            have hbf := box_two HS2.out.res (.slice A0 held.length c0) (.slice A1 asks.length c1)
            have t0 := (hbf.cell 0).trans rfl
            have t1 := (hbf.cell 1).trans rfl
            refine bodyPost_ret (v := .agg #[.slice A0 held.length c0, .slice A1 asks.length c1]) (by simp [results, Tryz.results35, go_sem, t0, t1]) rfl ?_
            exact HFIN.out _ (K + 256 + 2) held asks _ _ _ _ _ _ (by omega) HSM.out.1 HSM.out.2 HS2.out
        · have e0 : ((x : Int) == 0) = false := beq_eq_false_iff_ne.2 (by omega)
          have e1 : ((x : Int) == 1) = false := beq_eq_false_iff_ne.2 (by omega)
          have e2 : ((x : Int) == 2) = false := beq_eq_false_iff_ne.2 (by omega)
          have e3 : ((x : Int) == 3) = false := beq_eq_false_iff_ne.2 (by omega)
          go_wp2_with fail
          have hbf := box_two HS2.out.res (.slice A0 held.length c0) (.slice A1 asks.length c1)
          have t0 := (hbf.cell 0).trans rfl
          have t1 := (hbf.cell 1).trans rfl
          refine bodyPost_ret (v := .agg #[.slice A0 held.length c0, .slice A1 asks.length c1]) (by simp [results, Tryz.results35, go_sem, t0, t1]) rfl ?_
          exact HFIN.out _ (K + 256 + 2) held asks _ _ _ _ _ _ (by omega) HSM.out.1 HSM.out.2 HS2.out
end Go.Proofs.YtiebcdajoddkpaaGreatDoor
