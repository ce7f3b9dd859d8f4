/-
  NoteEvent of the program. (Printed by gen_ty5.py.) ReadAgain of the program at a read that is noted; SameEvents of the reference at equal events. (Printed by gen_ty9.py.)
-/
import Derived.Test.YtgmaamnofhmecaaGreatDoorZ00
import Derived.Test.YtgmaamnofhmecaaGreatDoorZ01
import Derived.Test.YtgmaamnofhmecaaGreatDoorZ02
import Derived.Test.YtgmaamnofhmecaaGreatDoorZ03
import Derived.Test.YtgmaamnofhmecaaGreatDoorZ04
import Derived.Test.YtgmaamnofhmecaaGreatDoorZ05
import Derived.Test.YtgmaamnofhmecaaGreatDoorZ06
import Derived.Test.YtgmaamnofhmecaaGreatDoorZ07
import Derived.Test.YtgmaamnofhmecaaGreatDoorZ08
import Derived.Test.YtgmaamnofhmecaaGreatDoorZ09
import Derived.Test.YtgmaamnofhmecaaGreatDoorZ10
import Derived.Test.YtgmaamnofhmecaaGreatDoorZ11
import Derived.Test.YtgmaamnofhmecaaGreatDoorZ12
import Derived.Test.YtgmaamnofhmecaaGreatDoorZ13
import Derived.Test.YtgmaamnofhmecaaGreatDoorZ14
import Derived.Test.YtgmaamnofhmecaaGreatDoorZ15
import Derived.Test.YtgmaamnofhmecaaGreatDoorZ16
import Derived.Test.YtgmaamnofhmecaaGreatDoorZ17
import Derived.Test.YtgmaamnofhmecaaGreatDoorZ18
import Derived.Test.YtgmaamnofhmecaaGreatDoorZ19
import Derived.Test.YtgmaamnofhmecaaGreatDoorZ20
import Derived.Test.YtgmaamnofhmecaaGreatDoorZ21
import Derived.Test.YtgmaamnofhmecaaGreatDoorZ22
import Derived.Test.YtgmaamnofhmecaaGreatDoorZ23
import Derived.Test.YtgmaamnofhmecaaGreatDoorZ24
import Derived.Test.YtgmaamnofhmecaaGreatDoorZ25
import Derived.Test.YtgmaamnofhmecaaGreatDoorZ26
import Derived.Test.YtgmaamnofhmecaaGreatDoorZ27
import Derived.Test.YtgmaamnofhmecaaGreatDoorZ28
import Derived.Test.YtgmaamnofhmecaaGreatDoorZ29
import Derived.Test.YtgmaamnofhmecaaGreatDoorZ30
import Derived.Test.YtgmaamnofhmecaaGreatDoorZ31
import Derived.Test.YtgmaamnofhmecaaGreatDoorZ32
import Derived.Test.YtgmaamnofhmecaaGreatDoorZ33
import Derived.Test.YtgmaamnofhmecaaGreatDoorZ34
import Derived.Test.YtgmaamnofhmecaaGreatDoorZ35
import Derived.Test.YtgmaamnofhmecaaGreatDoorZ36
import Derived.Test.YtgmaamnofhmecaaGreatDoorZ37
import Derived.Test.YtgmaamnofhmecaaGreatDoorZ38
import Derived.Test.YtgmaamnofhmecaaGreatDoorZ39
import Derived.Test.YtgmaamnofhmecaaGreatDoorZ40
import Derived.Test.YtgmaamnofhmecaaGreatDoorZ41
import Derived.Test.YtgmaamnofhmecaaGreatDoorZ42
import Derived.Test.YtgmaamnofhmecaaGreatDoorZ43
import Derived.Test.YtgmaamnofhmecaaGreatDoorW02
set_option linter.unusedSimpArgs false
namespace Go.Proofs.YtgmaamnofhmecaaGreatDoor
open Go.RowKit
set_option linter.unusedVariables false
set_option linter.unusedSimpArgs false

theorem noteEv_view {fs : List NodeD} {dp rs : Int} {l : List EvD} {d : EvD} (h : (treeB fs && (transB ⟨dp, rs, l⟩ && noteB d)) = true) (hd : dp ≠ 0) (hl : ¬ 60 ≤ l.length) (hv : (viewB fs l).1 ≠ 0) : noteEvB fs ⟨dp, rs, l⟩ d = ((viewB fs l).1, zeroT) := by
  unfold noteEvB
  rw [if_neg (by rw [h]; decide), if_neg hd, if_neg hl, if_pos hv]
theorem noteEv_apply {fs : List NodeD} {dp rs : Int} {l : List EvD} {d : EvD} (h : (treeB fs && (transB ⟨dp, rs, l⟩ && noteB d)) = true) (hd : dp ≠ 0) (hl : ¬ 60 ≤ l.length) (hv : (viewB fs l).1 = 0) :
    noteEvB fs ⟨dp, rs, l⟩ d = if (applyB (viewB fs l).2 d).1 ≠ 0 then ((applyB (viewB fs l).2 d).1, zeroT) else (0, ⟨dp, rs, l ++ [d]⟩) := by
  unfold noteEvB
  rw [if_neg (by rw [h]; decide), if_neg hd, if_neg hl, if_neg (fun h1 => h1 hv)]
  rw [Bool.and_eq_true, Bool.and_eq_true] at h
  obtain ⟨ht, hx, hn⟩ := h
  have hvt : treeB (viewB fs l).2 = true := doChanges_tree hv
  by_cases hk : turnsB d = true
  · have hr : readsB d = false := by
      cases h1 : readsB d
      · rfl
      · rcases turns_kind.1 hk with h2 | h2
        all_goals
          rcases reads_kind.1 h1 with h3 | h3 | h3 | h3
          all_goals omega
    rw [hr, Bool.false_and, if_neg (by decide)]
    have e1 : doOneB (viewB fs l).2 (chgOf d) = applyB (viewB fs l).2 d := by
      rw [doOne_of hvt (note_chg hn hk)]
      unfold applyB
      rw [if_pos hk]
    rw [e1]
    by_cases h0 : (applyB (viewB fs l).2 d).1 ≠ 0
    · rw [if_pos ⟨hk, h0⟩, if_pos h0]
    · rw [if_neg (fun h => h0 h.2), if_neg h0]
  · have hr : readsB d = true := by
      have h1 := (note_parts hn).2
      rw [reads_kind]
      unfold resB at h1
      by_cases a1 : d.kind = 1
      · exact .inl a1
      by_cases a4 : d.kind = 4
      · exact .inr (.inl a4)
      by_cases a5 : d.kind = 5
      · exact .inr (.inr (.inl a5))
      by_cases a6 : d.kind = 6
      · exact .inr (.inr (.inr a6))
      exfalso
      have n2 : d.kind ≠ 2 := fun h2 => hk (turns_kind.2 (.inl h2))
      have n3 : d.kind ≠ 3 := fun h3 => hk (turns_kind.2 (.inr h3))
      simp [a1, a4, a5, a6, n2, n3] at h1
    rw [hr, Bool.true_and]
    have e1 : applyB (viewB fs l).2 d = if sameE (againB (viewB fs l).2 d) d = true then (0, (viewB fs l).2) else (5, (viewB fs l).2) := by
      conv => lhs; unfold applyB
      rw [if_neg hk]
    rw [e1]
    cases hs : sameE (againB (viewB fs l).2 d) d
    · rfl
    · rw [if_neg (by decide), if_neg (fun h => hk h.1)]
      rfl
set_option maxRecDepth 100000 in
set_option maxHeartbeats 40000000 in
theorem NoteEvent_any (A : Option Addr) (n c : Nat) (fs : List NodeD) (dp rs : Int) (L : Option Addr) (m q : Nat) (l : List EvD) (c0 c1 c2 c3 c4 : Value) (d : EvD) (w : World) (htab : tabT w) (hN : Nodes w w.heap.size A n fs) (hs : smallNs fs) (hcl : cleanT fs) (hL : Evs w w.heap.size L m l) (hok : okEs l) (hce : cleanEs l) (h : EvR w w.heap.size c0 c1 c2 c3 c4 d) (hd : okE d) :
    Calls Tryz.prog 38 #[.agg #[.slice A n c], .agg #[.int .i64 dp, .int .i64 rs, .slice L m q], .agg #[c0, c1, c2, c3, c4]] w (TrPost (noteEvB fs ⟨dp, rs, l⟩ d) w) := by
  obtain ⟨i0, hi, hz0, hz1, hz2⟩ := info_parts infoEvD
  have hdr := h
  obtain ⟨rfl, rfl, ⟨SA, sn, scap, rfl, hsa, hsn⟩, rfl, rfl⟩ := h
  have hsml : smallEs l := ⟨hok.1, fun e he => (hok.2 e he).1⟩
  obtain ⟨WB, hWB⟩ : ∃ WB, WB = (((w.alloc (.cells #[.slice A n c] 26)).alloc (.cells #[.int .i64 dp, .int .i64 rs, .slice L m q] 58)).alloc (.cells #[.int .i64 d.kind, .string d.name, .slice SA sn scap, .string d.val, .int .i64 d.n] 55)).alloc (.cells #[.int .i64 0, .int .i64 0, .slice none 0 0] 58) := ⟨_, rfl⟩
  have HB0 : Hid (Below w.heap.size w WB) := by subst hWB; exact below_new4 w _ _ _ _
  have HT0 : Hid (Blk WB w.heap.size 26 #[.slice A n c]) := by subst hWB; exact heap_0of4 w _ _ _ _
  have HX0 : Hid (Blk WB (w.heap.size + 1) 58 #[.int .i64 dp, .int .i64 rs, .slice L m q]) := by subst hWB; exact heap_1of4 w _ _ _ _
  have HE0 : Hid (Blk WB (w.heap.size + 1 + 1) 55 #[.int .i64 d.kind, .string d.name, .slice SA sn scap, .string d.val, .int .i64 d.n]) := by subst hWB; exact heap_2of4 w _ _ _ _
  have HYY : Hid (Blk WB (w.heap.size + 1 + 1 + 1) 58 #[.int .i64 0, .int .i64 0, .slice none 0 0]) := by subst hWB; exact heap_3of4 w _ _ _ _
  have HS : Hid (∀ W', Below WB.heap.size WB W' → W'.cell? ⟨w.heap.size, 0, none⟩ = some (.slice A n c) ∧ W'.cell? ⟨w.heap.size + 1, 0, none⟩ = some (.int .i64 dp) ∧ W'.cell? ⟨w.heap.size + 1, 1, none⟩ = some (.int .i64 rs) ∧ W'.cell? ⟨w.heap.size + 1, 2, none⟩ = some (.slice L m q) ∧ W'.cell? ⟨w.heap.size + 1 + 1, 0, none⟩ = some (.int .i64 d.kind) ∧ W'.cell? ⟨w.heap.size + 1 + 1, 1, none⟩ = some (.string d.name) ∧ W'.cell? ⟨w.heap.size + 1 + 1, 2, none⟩ = some (.slice SA sn scap) ∧ W'.cell? ⟨w.heap.size + 1 + 1, 3, none⟩ = some (.string d.val) ∧ W'.cell? ⟨w.heap.size + 1 + 1, 4, none⟩ = some (.int .i64 d.n)) := fun W' hW => ⟨(HT0.out.later hW HT0.out.lt).at 0 rfl, (HX0.out.later hW HX0.out.lt).at 0 rfl, (HX0.out.later hW HX0.out.lt).at 1 rfl, (HX0.out.later hW HX0.out.lt).at 2 rfl, (HE0.out.later hW HE0.out.lt).at 0 rfl, (HE0.out.later hW HE0.out.lt).at 1 rfl, (HE0.out.later hW HE0.out.lt).at 2 rfl, (HE0.out.later hW HE0.out.lt).at 3 rfl, (HE0.out.later hW HE0.out.lt).at 4 rfl⟩
  have HNX : Hid (∀ W, Below WB.heap.size WB W → Nodes W W.heap.size A n fs) := fun W hW => hN.later (HB0.out.later hW)
  have HEV : Hid (∀ W, Below WB.heap.size WB W → Evs W W.heap.size L m l) := fun W hW => hL.later (HB0.out.later hW)
  have HER : Hid (∀ W, Below WB.heap.size WB W → EvR W W.heap.size (.int .i64 d.kind) (.string d.name) (.slice SA sn scap) (.string d.val) (.int .i64 d.n) d) := fun W hW => hdr.later (HB0.out.later hW)
  have HTT : Hid (∀ W, Below WB.heap.size WB W → tabT W) := fun W hW => tab_later htab (HB0.out.later hW)
  have HK1 := Lib.hid (fun W (hW : Below WB.heap.size WB W) => TreeOk_any A n c fs W (HNX.out W hW) (HTT.out W hW) hs)
  have HK2 := Lib.hid (fun W (hW : Below WB.heap.size WB W) => TransOk_any dp rs L m q l W (HTT.out W hW) (HEV.out W hW) hok)
  have HK3 := Lib.hid (fun W (hW : Below WB.heap.size WB W) => NoteOk_any _ _ _ _ _ d W (HTT.out W hW) (HER.out W hW) hd.1 hd.2)
  have HK4 := Lib.hid (fun W (hW : Below WB.heap.size WB W) => ViewOfI_any A n c fs dp rs L m q l W (HTT.out W hW) (HNX.out W hW) hs (HEV.out W hW) hok)
  have HK5 := Lib.hid (fun W (hW : Below WB.heap.size WB W) => copyTrans_any dp rs L m q l W (HEV.out W hW) hsml)
  have HK6 := Lib.hid (fun W (hW : Below WB.heap.size WB W) => copyEvent_any _ _ _ _ _ d W (HER.out W hW) hd.1.2.1.1)
  have HLM : Hid (l.length = m) := hL.1
  have HVO : Hid ((treeB fs && (transB ⟨dp, rs, l⟩ && noteB d)) = true → viewOfB fs ⟨dp, rs, l⟩ = viewB fs l ∧ l.length ≤ 60 ∧ noteB d = true) := fun h1 => by
    rw [Bool.and_eq_true, Bool.and_eq_true] at h1
    refine ⟨?_, (notes_all (trans_parts h1.2.1).2.2.2.2.1).1, h1.2.2⟩
    unfold viewOfB
    rw [h1.1, h1.2.1]
    rfl
  have HZ1 : Hid ((treeB fs && (transB ⟨dp, rs, l⟩ && noteB d)) = false → noteEvB fs ⟨dp, rs, l⟩ d = (1, zeroT)) := fun h1 => by unfold noteEvB; rw [if_pos h1]
  have HZ2 : Hid ((treeB fs && (transB ⟨dp, rs, l⟩ && noteB d)) = true → dp = 0 → noteEvB fs ⟨dp, rs, l⟩ d = (17, zeroT)) := fun h1 h2 => by unfold noteEvB; rw [if_neg (by rw [h1]; decide), if_pos h2]
  have HZ3 : Hid ((treeB fs && (transB ⟨dp, rs, l⟩ && noteB d)) = true → dp ≠ 0 → 60 ≤ l.length → noteEvB fs ⟨dp, rs, l⟩ d = (4, zeroT)) := fun h1 h2 h3 => by unfold noteEvB; rw [if_neg (by rw [h1]; decide), if_neg h2, if_pos h3]
  have HZ4 := Lib.hid (fun h1 h2 h3 h4 => noteEv_view (fs := fs) (dp := dp) (rs := rs) (l := l) (d := d) h1 h2 h3 h4)
  have HZ5 := Lib.hid (fun h1 h2 h3 h4 => noteEv_apply (fs := fs) (dp := dp) (rs := rs) (l := l) (d := d) h1 h2 h3 h4)
  have HVT : Hid ((viewB fs l).1 = 0 → treeB (viewB fs l).2 = true) := fun h0 => doChanges_tree h0
  have HVC : Hid (cleanT (viewB fs l).2) := view_clean hcl hce
  generalize noteEvB fs ⟨dp, rs, l⟩ d = NB at *
  have HPZ : Hid (∀ code W Y e, NB = (code, zeroT) → e = .returned (.tuple #[.agg #[.int .i64 0, .int .i64 0, .slice none 0 0], .int .i64 code]) → Blk W (w.heap.size + 1 + 1 + 1) 58 #[.int .i64 0, .int .i64 0, .slice none 0 0] → Below w.heap.size w W → Y = set3 W (w.heap.size + 1 + 1 + 1) (.int .i64 0) (.int .i64 0) (.slice none 0 0) → TrPost NB w e Y) := fun code W Y e h1 h2 h3 h4 h5 => by
    subst h1
    exact tr_end h2 (evsO_nil _ _) h3 h4 (by omega) _ _ _ h5
  have HPW : Hid (∀ W Y e v, NB = (0, ⟨dp, rs, l ++ [d]⟩) → e = .returned (.tuple #[.agg #[.int .i64 dp, .int .i64 rs, v], .int .i64 0]) → EvsO W w.heap.size v (l ++ [d]) → Blk W (w.heap.size + 1 + 1 + 1) 58 #[.int .i64 0, .int .i64 0, .slice none 0 0] → Below w.heap.size w W → Y = set3 W (w.heap.size + 1 + 1 + 1) (.int .i64 dp) (.int .i64 rs) v → TrPost NB w e Y) := fun W Y e v h1 h2 h0 h3 h4 h5 => by
    subst h1
    exact tr_end h2 h0 h3 h4 (by omega) _ _ _ h5
  have HPL : Hid (∀ e W o, TrPost NB w e W → TrPost NB w e (W.alloc o)) := fun e W o h => h.later (Below.new _ _)
  generalize TrPost NB w = POST at *
  generalize viewB fs l = VB at *
  obtain ⟨vcode, vs⟩ := VB
  dsimp only at HZ4 HZ5 HVT HVC
  generalize hvo : viewOfB fs ⟨dp, rs, l⟩ = VO at *
  clear hvo
  generalize htb : treeB fs = tb at *
  generalize hxb : transB ⟨dp, rs, l⟩ = xb at *
  generalize hnb : noteB d = nb at *
  have HNB := Lib.hid hnb
  have HDO := Lib.hid hd
  clear hN hL hdr hsa htb hxb hnb hs hcl hce hok htab hd
  obtain ⟨z0, z1, z2, z3, z4, z5, z6, z7, z8⟩ := HS.out _ (Below.refl _ _)
  go_enter Tryz.func38, Tryz.ntmps38
  go_wp2_with fail
  rw [← hWB]
  clear hWB
  refine (HK1.out _ (Below.refl _ _)).mono ?_
  rintro e w1 ⟨rfl, hb1⟩
  have HB1 := Lib.hid hb1
  clear hb1 HK1 z0 z1 z2 z3 z4 z5 z6 z7 z8
  cases tb
  case false =>
    have hb9 := HYY.out.later HB1.out HYY.out.lt
    have s0 := hb9.cell 0
    have s1 := hb9.cell 1
    have s2 := hb9.cell 2
    have f0 := hb9.frozen 0
    have f1 := hb9.frozen 1
    have f2 := hb9.frozen 2
    have fz := hb9.lt
    simp at s0 s1 s2
    go_wp2_with fail
    refine bodyPost_ret (v := .tuple #[.agg #[.int .i64 0, .int .i64 0, .slice none 0 0], .int .i64 1]) (by simp [results, Tryz.results38, go_sem, s0, s1, s2]; try first | exact rfl | exact ⟨rfl, rfl⟩) rfl ?_
    exact HPZ.out 1 _ _ _ (HZ1.out (by first | rfl | trivial)) rfl hb9 (HB0.out.later HB1.out) rfl
  obtain ⟨z0, z1, z2, z3, z4, z5, z6, z7, z8⟩ := HS.out _ HB1.out
  go_wp2_with fail
  refine (HK2.out _ HB1.out).mono ?_
  rintro e w2 ⟨rfl, hb2⟩
  have HB2 := Lib.hid (HB1.out.later hb2)
  clear hb2 HK2 z0 z1 z2 z3 z4 z5 z6 z7 z8
  cases xb
  case false =>
    have hb9 := HYY.out.later HB2.out HYY.out.lt
    have s0 := hb9.cell 0
    have s1 := hb9.cell 1
    have s2 := hb9.cell 2
    have f0 := hb9.frozen 0
    have f1 := hb9.frozen 1
    have f2 := hb9.frozen 2
    have fz := hb9.lt
    simp at s0 s1 s2
    go_wp2_with fail
    refine bodyPost_ret (v := .tuple #[.agg #[.int .i64 0, .int .i64 0, .slice none 0 0], .int .i64 1]) (by simp [results, Tryz.results38, go_sem, s0, s1, s2]; try first | exact rfl | exact ⟨rfl, rfl⟩) rfl ?_
    exact HPZ.out 1 _ _ _ (HZ1.out (by first | rfl | trivial)) rfl hb9 (HB0.out.later HB2.out) rfl
  obtain ⟨z0, z1, z2, z3, z4, z5, z6, z7, z8⟩ := HS.out _ HB2.out
  go_wp2_with fail
  refine (HK3.out _ HB2.out).mono ?_
  rintro e w3 ⟨rfl, hb3⟩
  have HB3 := Lib.hid (HB2.out.later hb3)
  clear hb3 HK3 z0 z1 z2 z3 z4 z5 z6 z7 z8
  cases nb
  case false =>
    have hb9 := HYY.out.later HB3.out HYY.out.lt
    have s0 := hb9.cell 0
    have s1 := hb9.cell 1
    have s2 := hb9.cell 2
    have f0 := hb9.frozen 0
    have f1 := hb9.frozen 1
    have f2 := hb9.frozen 2
    have fz := hb9.lt
    simp at s0 s1 s2
    go_wp2_with fail
    refine bodyPost_ret (v := .tuple #[.agg #[.int .i64 0, .int .i64 0, .slice none 0 0], .int .i64 1]) (by simp [results, Tryz.results38, go_sem, s0, s1, s2]; try first | exact rfl | exact ⟨rfl, rfl⟩) rfl ?_
    exact HPZ.out 1 _ _ _ (HZ1.out (by first | rfl | trivial)) rfl hb9 (HB0.out.later HB3.out) rfl
  obtain ⟨hvo, hl6, _⟩ := HVO.out (by first | rfl | trivial)
  subst hvo
  try dsimp only at HK4
  obtain ⟨z0, z1, z2, z3, z4, z5, z6, z7, z8⟩ := HS.out _ HB3.out
  by_cases hdp : dp = 0
  case pos =>
    subst hdp
    have hb9 := HYY.out.later HB3.out HYY.out.lt
    have s0 := hb9.cell 0
    have s1 := hb9.cell 1
    have s2 := hb9.cell 2
    have f0 := hb9.frozen 0
    have f1 := hb9.frozen 1
    have f2 := hb9.frozen 2
    have fz := hb9.lt
    simp at s0 s1 s2
    go_wp2_with fail
    refine bodyPost_ret (v := .tuple #[.agg #[.int .i64 0, .int .i64 0, .slice none 0 0], .int .i64 17]) (by simp [results, Tryz.results38, go_sem, s0, s1, s2]; try first | exact rfl | exact ⟨rfl, rfl⟩) rfl ?_
    exact HPZ.out 17 _ _ _ (HZ2.out (by first | rfl | trivial) (by first | rfl | trivial)) rfl hb9 (HB0.out.later HB3.out) rfl
  have hdp2 : (dp == (0 : Int)) = false := beq_eq_false_iff_ne.2 hdp
  by_cases hm60 : m = 60
  case pos =>
    have hmi : (m : Int) = 60 := by omega
    have hmb : ((m : Int) == (60 : Int)) = true := by simpa using hmi
    have hb9 := HYY.out.later HB3.out HYY.out.lt
    have s0 := hb9.cell 0
    have s1 := hb9.cell 1
    have s2 := hb9.cell 2
    have f0 := hb9.frozen 0
    have f1 := hb9.frozen 1
    have f2 := hb9.frozen 2
    have fz := hb9.lt
    simp at s0 s1 s2
    go_wp2_with fail
    refine bodyPost_ret (v := .tuple #[.agg #[.int .i64 0, .int .i64 0, .slice none 0 0], .int .i64 4]) (by simp [results, Tryz.results38, go_sem, s0, s1, s2]; try first | exact rfl | exact ⟨rfl, rfl⟩) rfl ?_
    exact HPZ.out 4 _ _ _ (HZ3.out (by first | rfl | trivial) hdp (by rw [HLM.out]; omega)) rfl hb9 (HB0.out.later HB3.out) rfl
  have hmi : ¬ (m : Int) = 60 := by omega
  have hmb : ((m : Int) == (60 : Int)) = false := beq_eq_false_iff_ne.2 hmi
  have hl60 : ¬ 60 ≤ l.length := by rw [HLM.out] at hl6 ⊢; omega
  have HL60 := Lib.hid hl60
  have HDP := Lib.hid hdp
  clear hl60
  go_wp2_with fail
  refine (HK4.out _ HB3.out).mono ?_
  rintro e w5 ⟨v5, rfl, hn5, hb5⟩
  dsimp only at hn5 ⊢
  obtain ⟨A6, cap6, rfl, hcap6, hNv⟩ := hn5.reads
  have HB5 := Lib.hid (HB3.out.later hb5)
  have hw3s := HB3.out.size
  have hw5s := hb5.size
  have HNV : Hid (NodesW w5 w3.heap.size (.slice A6 vs.length cap6) vs) := hn5
  clear hb5 hn5 hNv HK4 z0 z1 z2 z3 z4 z5 z6 z7 z8
  by_cases hvc : vcode = 0
  case neg =>
    have hvn : (vcode != (0 : Int)) = true := by simpa using hvc
    have hve : (vcode == (0 : Int)) = false := beq_eq_false_iff_ne.2 hvc
    obtain ⟨z0, z1, z2, z3, z4, z5, z6, z7, z8⟩ := HS.out _ HB5.out
    have hb9 := HYY.out.later HB5.out HYY.out.lt
    have s0 := hb9.cell 0
    have s1 := hb9.cell 1
    have s2 := hb9.cell 2
    have f0 := hb9.frozen 0
    have f1 := hb9.frozen 1
    have f2 := hb9.frozen 2
    have fz := hb9.lt
    simp at s0 s1 s2
    go_wp2_with fail
    refine bodyPost_ret (v := .tuple #[.agg #[.int .i64 0, .int .i64 0, .slice none 0 0], .int .i64 vcode]) (by simp [results, Tryz.results38, go_sem, World.cell?_alloc_lt, fz, s0, s1, s2]; try first | exact rfl | exact ⟨rfl, rfl⟩) rfl ?_
    first
      | exact HPL.out _ _ _ (HPZ.out vcode _ _ _ (HZ4.out (by first | rfl | trivial | assumption) HDP.out HL60.out hvc) rfl hb9 (HB0.out.later HB5.out) rfl)
      | exact HPZ.out vcode _ _ _ (HZ4.out (by first | rfl | trivial | assumption) HDP.out HL60.out hvc) rfl (hb9.alloc _) ((HB0.out.later HB5.out).later (Below.new _ _)) rfl
  subst hvc
  have HVTR := Lib.hid (HVT.out rfl)
  have HZA := Lib.hid (HZ5.out (by first | rfl | trivial) HDP.out HL60.out rfl)
  obtain ⟨W6, hW6⟩ : ∃ W6, W6 = w5.alloc (.cells #[.slice A6 vs.length cap6] 26) := ⟨_, rfl⟩
  have HB6 : Hid (Below WB.heap.size WB W6) := by subst hW6; exact HB5.out.later (Below.new _ _)
  have HQ6 : Hid (Blk W6 w5.heap.size 26 #[.slice A6 vs.length cap6]) := by subst hW6; exact heap_alloc_new _ _
  have HN6 : Hid (NodesW W6 w3.heap.size (.slice A6 vs.length cap6) vs) := by subst hW6; exact HNV.out.later (Below.new _ _)
  have h36 : w3.heap.size ≤ W6.heap.size := by subst hW6; simp; omega
  have hwb3 : WB.heap.size ≤ w3.heap.size := hw3s
  have HKA := Lib.hid (apply_any w5.heap.size w3.heap.size (.slice A6 vs.length cap6) vs _ _ _ _ _ d W6 (HTT.out _ HB6.out) HQ6.out HN6.out h36 HVTR.out HVC.out (HER.out _ HB6.out) HDO.out.1 HNB.out)
  obtain ⟨z0, z1, z2, z3, z4, z5, z6, z7, z8⟩ := HS.out _ HB5.out
  have hzs := HYY.out.lt
  have hz50 := HB5.out.size
  have hz52 : w.heap.size + 1 + 1 < w5.heap.size := by omega
  have hz51 : w.heap.size + 1 < w5.heap.size := by omega
  go_wp2_with fail
  rw [← hW6]
  clear hW6
  refine HKA.out.mono ?_
  rintro e w7 ⟨rfl, hp7⟩
  have HB7 : Hid (Below WB.heap.size WB w7) := Own.Chg.below HB6.out hp7.1 (fun g hg => by
    rcases hg with rfl | hg
    · omega
    · exact Nat.le_trans hwb3 (HN6.out.lt _ hg).1) (Nat.le_refl _)
  clear hp7 HKA z0 z1 z2 z3 z4 z5 z6 z7 z8
  generalize applyB vs d = AB at *
  obtain ⟨ac, av⟩ := AB
  dsimp only at HZA ⊢
  obtain ⟨z0, z1, z2, z3, z4, z5, z6, z7, z8⟩ := HS.out _ HB7.out
  by_cases hac : ac = 0
  case neg =>
    have hacn : (ac != (0 : Int)) = true := by simpa using hac
    rw [if_pos hac] at HZA
    have hb9 := HYY.out.later HB7.out HYY.out.lt
    have s0 := hb9.cell 0
    have s1 := hb9.cell 1
    have s2 := hb9.cell 2
    have f0 := hb9.frozen 0
    have f1 := hb9.frozen 1
    have f2 := hb9.frozen 2
    have fz := hb9.lt
    simp at s0 s1 s2
    go_wp2_with fail
    refine bodyPost_ret (v := .tuple #[.agg #[.int .i64 0, .int .i64 0, .slice none 0 0], .int .i64 ac]) (by simp [results, Tryz.results38, go_sem, s0, s1, s2]; try first | exact rfl | exact ⟨rfl, rfl⟩) rfl ?_
    exact HPZ.out ac _ _ _ (HZA.out) rfl hb9 (HB0.out.later HB7.out) rfl
  subst hac
  rw [if_neg (by decide)] at HZA
  go_wp2_with fail
  refine (HK5.out _ HB7.out).mono ?_
  rintro e w8 ⟨v8, rfl, hv8, hb8⟩
  dsimp only at hv8 ⊢
  obtain ⟨us, hol⟩ := hv8
  obtain ⟨EA, ec, rfl, hec, _⟩ := EvsO.reads ⟨us, hol⟩
  have HB8 := Lib.hid (HB7.out.later hb8)
  have hw7s := HB7.out.size
  obtain ⟨V, hV⟩ : ∃ V, V = w8.alloc (.cells #[.int .i64 dp, .int .i64 rs, .slice EA l.length ec] 58) := ⟨_, rfl⟩
  have HBV : Hid (Below WB.heap.size WB V) := by subst hV; exact HB8.out.later (Below.new _ _)
  have HVV : Hid (Blk V w8.heap.size 58 #[.int .i64 dp, .int .i64 rs, .slice EA l.length ec]) := by subst hV; exact heap_alloc_new _ _
  have HO : Hid (Own.OwnL evK V w7.heap.size 55 (.slice EA l.length ec) l us) := by subst hV; exact hol.later (Below.new _ _)
  have hw8s := hb8.size
  have hBs := HB0.out.size
  clear hol hb8 z0 z1 z2 z3 z4 z5 z6 z7 z8
  generalize hl0 : l.length = ln at *
  have HLN := Lib.hid hl0
  have hln6 : ln ≤ 60 := hl6
  clear hl0
  have pv := HVV.out.cell 2
  have zv := HVV.out.lt
  have fv := HVV.out.frozen 2
  simp at pv
  obtain ⟨z0, z1, z2, z3, z4, z5, z6, z7, z8⟩ := HS.out _ HB8.out
  have zw : w.heap.size + 1 + 1 < w8.heap.size := by have := HB8.out.size; omega
  go_upto_region 13 with fail
  rw [← hV]
  clear hV z0 z1 z2 z3 z4 z5 z6 z7 z8
  obtain ⟨z0, z1, z2, z3, z4, z5, z6, z7, z8⟩ := HS.out _ HBV.out
  unfold EvPost at HK6
  generalize hdn : d.name = dn at *
  generalize hdv : d.val = dv at *
  generalize hdk : d.kind = dk at *
  generalize hdm : d.n = dm at *
  have HDN := Lib.hid hdn
  have HDV := Lib.hid hdv
  have HDK := Lib.hid hdk
  have HDM := Lib.hid hdm
  clear hdn hdv hdk hdm
  have HRW : Hid (V.ownsRow w7.heap.size 55 5 (.slice EA ln ec) ln (Own.flat evK l us)) := by have h1 := HO.out.row; rw [HLN.out] at h1; exact h1
  go_region_law (first
    | (refine step_append_lies _ (by rfl) _ _ _ (by rfl) w7.heap.size 55 i0 _ 5 72 Tryz.underlying51 hi hz0 hz1 hz2 rfl (by omega) (.slice EA ln ec) ln (Own.flat evK l us) (by rfl) (by exact HRA.out)
          ⟨w9.heap.size, 0, none⟩ 1 1 [.int .i64 dk, .string dn, .slice A2 m2 c2, .string dv, .int .i64 dm] (by rfl) (by rfl) (by exact cells_newG (w := w9) (cs := #[.int .i64 dk, .string dn, .slice A2 m2 c2, .string dv, .int .i64 dm]) rfl) (by simp [Value.oneCell'])
          (by omega) (by unfold maxLen; omega) (by omega) (by simp; omega) (w9.heap.size + 1) (by simp) ?_
       intro gg cap' wA hown5 hgrow5 hat hlt2
       have hbg := (HV9.out.alloc (.cells #[.int .i64 dk, .string dn, .slice A2 m2 c2, .string dv, .int .i64 dm] 55)).grown hgrow5 (fun e => Own.own_blk_ne HRA.out (HV9.out.alloc _) (by decide) e.symm)
       have pv5 := hbg.cell
       have fv5 := hbg.frozen
       have zv5 := hbg.lt
       have HBG := Lib.hid hbg
       have HOW := Lib.hid hown5
       have HGR := Lib.hid hgrow5
       clear hown5 hgrow5 hbg)
    | (go_simp
       go_at_call 102
       refine (HK6.out _ (by exact HBV.out.drew)).mono ?_
       rintro e w9 ⟨v2, rfl, hs2, hb9'⟩
       have hb9 := undrew hb9'
       obtain ⟨A2, m2, c2, rfl⟩ : ∃ A2 m2 c2, v2 = .slice A2 m2 c2 := by obtain ⟨A, cap, e, _⟩ := Own.own_slice hs2; exact ⟨A, _, cap, e⟩
       have HS2 := Lib.hid hs2
       have HB9 := Lib.hid (HBV.out.later hb9)
       have HV9 := Lib.hid (HVV.out.later hb9 HVV.out.lt)
       have HBV9 := Lib.hid hb9
       have pv4 := HV9.out.cell 2
       have zv4 := HV9.out.lt
       have fv4 := HV9.out.frozen 2
       simp at pv4
       have hsz4 := hb9.size
       have HRA := Lib.hid (Own.own_later (Own.own_later HRW.out hb9) (Below.new w9 (.cells #[.int .i64 dk, .string dn, .slice A2 m2 c2, .string dv, .int .i64 dm] 55)))
       clear hb9 hb9' hs2))
  all_goals
    have HN4 := Lib.hid (HB9.out.later (Below.new w9 (.cells #[.int .i64 dk, .string dn, .slice A2 m2 c2, .string dv, .int .i64 dm] 55)))
    have HYA := Lib.hid ((HYY.out.later HN4.out HYY.out.lt).grown HGR.out (fun e => Own.own_blk_ne HRA.out (HYY.out.later HN4.out HYY.out.lt) (by decide) e.symm))
    have HN5 : Hid (Below w.heap.size w wA) := ((HB0.out.later HN4.out)).grown HGR.out (by have := HB0.out.size; have := HN4.out.size; omega) (fun g' hg' => by have := (World.ownsRow.lt HRA.out g' hg').1; omega)
    have HO5 : Hid (Own.OwnL evK wA w7.heap.size 55 (.slice (some ⟨gg, 0, none⟩) (ln + 1) cap') (l ++ [d]) (us ++ [.slice A2 m2 c2])) := by
      unfold Hid
      refine Own.OwnL.snoc ((HO.out.later HBV9.out).later (Below.new _ _)) (Own.own_later (Own.own_base HS2.out (by simp; omega)) (Below.new _ _)) (HO.out.fresh HS2.out (by simp)) ?_ (by first | exact HGR.out | (rw [HLN.out]; exact HGR.out)) (by decide)
      rw [HLN.out]
      have hx := HOW.out
      rw [← HDN.out, ← HDV.out, ← HDK.out, ← HDM.out] at hx
      exact hx
    clear pv4 pv
    have q0 := HBG.out.cell 0
    have q1 := HBG.out.cell 1
    have r0 := HYA.out.cell 0
    have r1 := HYA.out.cell 1
    have r2 := HYA.out.cell 2
    have rf0 := HYA.out.frozen 0
    have rf1 := HYA.out.frozen 1
    have rf2 := HYA.out.frozen 2
    have rz := HYA.out.lt
    have hne : ¬ w8.heap.size = w.heap.size + 1 + 1 + 1 := by have := HYY.out.lt; have := HB8.out.size; omega
    have hne' : ¬ w.heap.size + 1 + 1 + 1 = w8.heap.size := fun e => hne e.symm
    simp at q0 q1 r0 r1 r2
    go_wp2_with fail
    refine bodyPost_ret (v := .tuple #[.agg #[.int .i64 dp, .int .i64 rs, .slice (some ⟨gg, 0, none⟩) (ln + 1) cap'], .int .i64 0]) (by simp [results, Tryz.results38, go_sem, r0, r1, r2, hne, hne']; try first | exact rfl | exact ⟨rfl, rfl⟩) rfl ?_
    exact HPW.out (wA.setCell ⟨w8.heap.size, 2, none⟩ (.slice (some ⟨gg, 0, none⟩) (ln + 1) cap')) _ _ _ HZA.out rfl (EvsO.setBlk (EvsO.base ⟨_, HO5.out⟩ (show w.heap.size ≤ w7.heap.size by omega)) HBG.out (by decide) (by decide)) (HYA.out.far (p := ⟨w8.heap.size, 2, none⟩) hne' _) (HN5.out.setCell (p := ⟨w8.heap.size, 2, none⟩) (show w.heap.size ≤ w8.heap.size by omega) _) rfl
end Go.Proofs.YtgmaamnofhmecaaGreatDoor
namespace Go.Proofs.YtgmaamnofhmecaaGreatDoor
open Go.RowKit
set_option linter.unusedVariables false
set_option linter.unusedSimpArgs false

set_option maxRecDepth 100000 in
set_option maxHeartbeats 8000000 in
theorem ReadAgain_any (A : Option Addr) (n c : Nat) (fs : List NodeD) (c0 c1 c2 c3 c4 : Value) (d : EvD) (w : World) (htab : tabT w) (hN : Nodes w w.heap.size A n fs) (ht : treeB fs = true) (hcl : cleanT fs) (h : EvR w w.heap.size c0 c1 c2 c3 c4 d) (hd : okE d) (hn : noteB d = true) (hrd : readsB d = true) :
    Calls Tryz.prog 43 #[.agg #[.slice A n c], .agg #[c0, c1, c2, c3, c4]] w fun e w' => ∃ v, e = .returned (.tuple #[.agg #[.int .i64 (againB fs d).kind, .string (againB fs d).name, v, .string (againB fs d).val, .int .i64 (againB fs d).n], .int .i64 0]) ∧ Own.SubO w' w.heap.size v (againB fs d).subs ∧ Below w.heap.size w w' := by
  have hdr := h
  obtain ⟨rfl, rfl, ⟨SA, sn, scap, rfl, hsa, hsn⟩, rfl, rfl⟩ := h
  obtain ⟨WB, hWB⟩ : ∃ WB, WB = ((w.alloc (.cells #[.slice A n c] 26)).alloc (.cells #[.int .i64 d.kind, .string d.name, .slice SA sn scap, .string d.val, .int .i64 d.n] 55)).alloc (.cells #[.int .i64 0, .string ⟨#[]⟩, .slice none 0 0, .string ⟨#[]⟩, .int .i64 0] 55) := ⟨_, rfl⟩
  have HB0 : Hid (Below w.heap.size w WB) := by subst hWB; exact below_new3 w _ _ _
  have HT0 : Hid (Blk WB w.heap.size 26 #[.slice A n c]) := by subst hWB; exact heap_new0 _ _ _ _
  have HE0 : Hid (Blk WB (w.heap.size + 1) 55 #[.int .i64 d.kind, .string d.name, .slice SA sn scap, .string d.val, .int .i64 d.n]) := by subst hWB; exact heap_new1 _ _ _ _
  have HYY : Hid (Blk WB (w.heap.size + 1 + 1) 55 #[.int .i64 0, .string ⟨#[]⟩, .slice none 0 0, .string ⟨#[]⟩, .int .i64 0]) := by subst hWB; exact heap_new2 _ _ _ _
  have HS : Hid (∀ W', Below WB.heap.size WB W' → W'.cell? ⟨w.heap.size, 0, none⟩ = some (.slice A n c) ∧ W'.cell? ⟨w.heap.size + 1, 0, none⟩ = some (.int .i64 d.kind) ∧ W'.cell? ⟨w.heap.size + 1, 1, none⟩ = some (.string d.name) ∧ W'.cell? ⟨w.heap.size + 1, 2, none⟩ = some (.slice SA sn scap) ∧ W'.cell? ⟨w.heap.size + 1, 3, none⟩ = some (.string d.val) ∧ W'.cell? ⟨w.heap.size + 1, 4, none⟩ = some (.int .i64 d.n)) := fun W' hW => ⟨(HT0.out.later hW HT0.out.lt).at 0 rfl, (HE0.out.later hW HE0.out.lt).at 0 rfl, (HE0.out.later hW HE0.out.lt).at 1 rfl, (HE0.out.later hW HE0.out.lt).at 2 rfl, (HE0.out.later hW HE0.out.lt).at 3 rfl, (HE0.out.later hW HE0.out.lt).at 4 rfl⟩
  have HNX : Hid (∀ W, Below WB.heap.size WB W → Nodes W W.heap.size A n fs) := fun W hW => hN.later (HB0.out.later hW)
  have HER : Hid (∀ W, Below WB.heap.size WB W → EvR W W.heap.size (.int .i64 d.kind) (.string d.name) (.slice SA sn scap) (.string d.val) (.int .i64 d.n) d) := fun W hW => hdr.later (HB0.out.later hW)
  have HTT : Hid (∀ W, Below WB.heap.size WB W → tabT W) := fun W hW => tab_later htab (HB0.out.later hW)
  have HK1 := Lib.hid (fun W (hW : Below WB.heap.size WB W) => TreeOk_any A n c fs W (HNX.out W hW) (HTT.out W hW) (tree_small ht))
  have HK2 := Lib.hid (fun W (hW : Below WB.heap.size WB W) => NoteOk_any _ _ _ _ _ d W (HTT.out W hW) (HER.out W hW) hd.1 hd.2)
  have HK3 := Lib.hid (fun W (hW : Below WB.heap.size WB W) => TurnsOf_any _ _ _ _ _ d W (HER.out W hW))
  have HK4 := Lib.hid (fun W (hW : Below WB.heap.size WB W) => again_any A n c fs _ _ _ _ _ d W (HTT.out W hW) (HNX.out W hW) ht hcl (HER.out W hW) hd.1 (note_parts hn).1 hrd)
  have htf : turnsB d = false := by
    cases h1 : turnsB d
    · rfl
    · exfalso
      rcases turns_kind.1 h1 with h2 | h2
      all_goals
        rcases reads_kind.1 hrd with h3 | h3 | h3 | h3
        all_goals omega
  rw [ht] at HK1
  rw [hn] at HK2
  rw [htf] at HK3
  clear hN hsa hdr htab ht hcl hd hn hrd htf
  unfold EvPost at HK4
  generalize againB fs d = R at *
  obtain ⟨z0, z1, z2, z3, z4, z5⟩ := HS.out _ (Below.refl _ _)
  go_enter Tryz.func43, Tryz.ntmps43
  go_wp2_with fail
  rw [← hWB]
  clear hWB
  refine (HK1.out _ (Below.refl _ _)).mono ?_
  rintro e w1 ⟨rfl, hb1⟩
  have HB1 := Lib.hid hb1
  clear hb1 HK1 z0 z1 z2 z3 z4 z5
  obtain ⟨z0, z1, z2, z3, z4, z5⟩ := HS.out _ HB1.out
  go_wp2_with fail
  refine (HK2.out _ HB1.out).mono ?_
  rintro e w2 ⟨rfl, hb2⟩
  have HB2 := Lib.hid (HB1.out.later hb2)
  clear hb2 HK2 z0 z1 z2 z3 z4 z5
  obtain ⟨z0, z1, z2, z3, z4, z5⟩ := HS.out _ HB2.out
  go_wp2_with fail
  refine (HK3.out _ HB2.out).mono ?_
  rintro e w3 ⟨rfl, hb3⟩
  have HB3 := Lib.hid (HB2.out.later hb3)
  clear hb3 HK3 z0 z1 z2 z3 z4 z5
  obtain ⟨z0, z1, z2, z3, z4, z5⟩ := HS.out _ HB3.out
  go_wp2_with fail
  refine (HK4.out _ HB3.out).mono ?_
  rintro e w4 ⟨v4, rfl, hs4, hb4⟩
  obtain ⟨AR, cr, rfl, _, _⟩ := Own.SubO.strs hs4
  have HB4 := Lib.hid (HB3.out.later hb4)
  have hw3 := HB3.out.size
  have hw0 := HB0.out.size
  have HSU : Hid (Own.SubO w4 w.heap.size (.slice AR R.subs.length cr) R.subs) := Own.own_base hs4 (show w.heap.size ≤ w3.heap.size by omega)
  have HY4 := Lib.hid (HYY.out.later HB4.out HYY.out.lt)
  clear hs4 hb4 HK4 z0 z1 z2 z3 z4 z5
  have y0 := HY4.out.cell 0
  have y1 := HY4.out.cell 1
  have y2 := HY4.out.cell 2
  have y3 := HY4.out.cell 3
  have y4 := HY4.out.cell 4
  have f0 := HY4.out.frozen 0
  have f1 := HY4.out.frozen 1
  have f2 := HY4.out.frozen 2
  have f3 := HY4.out.frozen 3
  have f4 := HY4.out.frozen 4
  have yz := HY4.out.lt
  simp at y0 y1 y2 y3 y4
  go_wp2_with fail
  refine bodyPost_ret (v := .tuple #[.agg #[.int .i64 R.kind, .string R.name, .slice AR R.subs.length cr, .string R.val, .int .i64 R.n], .int .i64 0]) (by simp [results, Tryz.results43, go_sem, y0, y1, y2, y3, y4]; try first | exact rfl | exact ⟨rfl, rfl⟩) rfl ?_
  have hc := set5_chg w4 (w.heap.size + 1 + 1) (.int .i64 R.kind) (.string R.name) (.slice AR R.subs.length cr) (.string R.val) (.int .i64 R.n)
  exact ⟨_, rfl, Own.own_chg HSU.out hc (own_not HSU.out (t := 55) (by decide) (fun g hg => by subst hg; exact ⟨_, HY4.out⟩)), Own.Chg.below (HB0.out.later HB4.out) hc (fun g e => by rw [e]; omega) (Nat.le_refl _)⟩
theorem eqS_reflZ (ss : List ByteArray) : eqS ss ss = true := by
  rw [← eqS_starts]
  simp only [decide_true, Bool.true_and]
  induction ss with
  | nil => rfl
  | cons x r ih => unfold startsB; rw [ih]; simp
set_option maxRecDepth 100000 in
set_option maxHeartbeats 8000000 in
theorem l11Same_same (A A' : Option Addr) (n c c' : Nat) (l : List EvD) (w : World) (h : Evs w w.heap.size A n l) (h' : Evs w w.heap.size A' n l) (hs : smallEs l) :
    Calls Tryz.prog 116 #[.slice A n c, .slice A' n c'] w fun e w' => e = .returned (.bool true) ∧ Below w.heap.size w w' := by
  have hn : n ≤ 1048576 := by rw [← h.1]; exact hs.1
  have Hh := Lib.hid h
  have Hh' := Lib.hid h'
  have Hl := Lib.hid h.1
  have Hs := Lib.hid hs.2
  clear h h' hs
  have hbn : ((n : Int) != (n : Int)) = false := by simp
  go_enter Tryz.func116, Tryz.ntmps116
  go_wp2_with fail
  go_loopw [5] (fun i wr => ∃ k : Nat, k ≤ n ∧ i = .int .i64 k ∧ Hid (Below w.heap.size w wr)) (fun i _ => n - (intOf i).toNat)
  case atStart => exact ⟨0, Nat.zero_le _, rfl, Below.refl _ _⟩
  case round =>
    obtain ⟨k, hk, rfl, HB⟩ := hrel
    by_cases hlt : k < n
    · obtain ⟨b, o, rfl, hbB, hcell⟩ := (Hh.out.later HB.out).2 (by omega)
      obtain ⟨b', o', rfl, hbB', hcell'⟩ := (Hh'.out.later HB.out).2 (by omega)
      obtain ⟨c0, c1, c2, c3, c4, k0, k1, k2, k3, k4, hr⟩ := hcell k hlt
      obtain ⟨d0, d1, d2, d3, d4, j0, j1, j2, j3, j4, hr'⟩ := hcell' k hlt
      clear hcell hcell'
      have hl : k < l.length := by rw [Hl.out]; exact hlt
      have hsd := Hs.out _ (getD_memQ l k hl)
      generalize l.getD k default = d at *
      obtain ⟨rfl, rfl, ⟨S, m, q, rfl, hs1, _⟩, rfl, rfl⟩ := hr
      obtain ⟨rfl, rfl, ⟨S', m', q', rfl, hs2, _⟩, rfl, rfl⟩ := hr'
      have HK : Hid (∀ W, Below wr.heap.size wr W → Calls Tryz.prog 139 #[.slice S m q, .slice S' m' q'] W fun e w' => e = .returned (.bool true) ∧ Below W.heap.size W w') := fun W hW =>
        (l02Same_any S S' m q m' q' d.subs d.subs W (hs1.later hW) (hs2.later hW) (by rw [← hs1.1]; exact hsd.2.1.1) (by rw [← hs2.1]; exact hsd.2.1.1)).mono fun e w' ⟨he, r, hr⟩ => ⟨by rw [he, eqS_reflZ], by rw [hr]; exact below_drewN (Below.refl _ _) r⟩
      have HSS : Hid (∀ W', Below wr.heap.size wr W' → (W'.cell? ⟨b, o + k * 5, none⟩ = some (.int .i64 d.kind) ∧ W'.cell? ⟨b, o + k * 5 + 1, none⟩ = some (.string d.name) ∧ W'.cell? ⟨b, o + k * 5 + 2, none⟩ = some (.slice S m q) ∧ W'.cell? ⟨b, o + k * 5 + 3, none⟩ = some (.string d.val) ∧ W'.cell? ⟨b, o + k * 5 + 4, none⟩ = some (.int .i64 d.n) ∧ W'.cell? ⟨b', o' + k * 5, none⟩ = some (.int .i64 d.kind) ∧ W'.cell? ⟨b', o' + k * 5 + 1, none⟩ = some (.string d.name) ∧ W'.cell? ⟨b', o' + k * 5 + 2, none⟩ = some (.slice S' m' q') ∧ W'.cell? ⟨b', o' + k * 5 + 3, none⟩ = some (.string d.val) ∧ W'.cell? ⟨b', o' + k * 5 + 4, none⟩ = some (.int .i64 d.n))) := fun W hW => ⟨cell_later hW k0, cell_later hW k1, cell_later hW k2, cell_later hW k3, cell_later hW k4, cell_later hW j0, cell_later hW j1, cell_later hW j2, cell_later hW j3, cell_later hW j4⟩
      have q1 : (d.kind != d.kind) = false := by simp
      have q4 : (d.n != d.n) = false := by simp
      clear hs1 hs2 hl
      go_wp2_with fail
      go_region_held3 (fun W' => W'.cell? ⟨b, o + k * 5, none⟩ = some (.int .i64 d.kind) ∧ W'.cell? ⟨b, o + k * 5 + 1, none⟩ = some (.string d.name) ∧ W'.cell? ⟨b, o + k * 5 + 2, none⟩ = some (.slice S m q) ∧ W'.cell? ⟨b, o + k * 5 + 3, none⟩ = some (.string d.val) ∧ W'.cell? ⟨b, o + k * 5 + 4, none⟩ = some (.int .i64 d.n) ∧ W'.cell? ⟨b', o' + k * 5, none⟩ = some (.int .i64 d.kind) ∧ W'.cell? ⟨b', o' + k * 5 + 1, none⟩ = some (.string d.name) ∧ W'.cell? ⟨b', o' + k * 5 + 2, none⟩ = some (.slice S' m' q') ∧ W'.cell? ⟨b', o' + k * 5 + 3, none⟩ = some (.string d.val) ∧ W'.cell? ⟨b', o' + k * 5 + 4, none⟩ = some (.int .i64 d.n))
        (first | exact HSS.out _ (Below.refl _ _).drew | exact HSS.out _ HB2.out | go_keep)
        ((go_at_call 139
          refine (HK.out _ (by exact (Below.refl _ _).drew)).mono ?_
          rintro e w2 ⟨rfl, hb2'⟩
          have HB2 := Lib.hid (undrew hb2')
          clear hb2'))
      have HB3 := Lib.hid (HB.out.later HB2.out)
      clear k0 k1 k2 k3 k4 j0 j1 j2 j3 j4
      go_wp2_with fail
      go_roundw
      case rel => exact ⟨k + 1, by omega, by go_num, HB3.out⟩
      case measure => simp [intOf]; omega
    · obtain rfl : k = n := by omega
      have hki : ¬ (k : Int) < (k : Int) := by omega
      go_wp2_with fail
      go_ret
      exact ⟨rfl, HB.out⟩
theorem SameEvents_same (A A' : Option Addr) (n c c' : Nat) (l : List EvD) (w : World) (h : Evs w w.heap.size A n l) (h' : Evs w w.heap.size A' n l) (hs : smallEs l) :
    Calls Tryz.prog 44 #[.slice A n c, .slice A' n c'] w fun e w' => e = .returned (.bool true) ∧ Below w.heap.size w w' := by
  have HK := Lib.hid (l11Same_same A A' n c c' l w h h' hs)
  clear h h' hs
  go_enter Tryz.func44, Tryz.ntmps44
  go_wp2_with fail
  refine HK.out.mono ?_
  rintro e w1 ⟨rfl, hb⟩
  have HB := Lib.hid hb
  clear hb
  go_wp2_with fail
  go_ret
  exact ⟨rfl, HB.out⟩
end Go.Proofs.YtgmaamnofhmecaaGreatDoor
