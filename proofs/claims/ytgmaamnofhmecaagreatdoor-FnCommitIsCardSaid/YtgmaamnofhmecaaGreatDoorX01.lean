/-
  CommitTrans of the reference: its code. (Printed by gen_ty3.py.)
-/
import Derived.Test.YtgmaamnofhmecaaGreatDoorZ00
import Derived.Test.YtgmaamnofhmecaaGreatDoorZ01
import Derived.Test.YtgmaamnofhmecaaGreatDoorZ02
import Derived.Test.YtgmaamnofhmecaaGreatDoorZ03
import Derived.Test.YtgmaamnofhmecaaGreatDoorZ04
import Derived.Test.YtgmaamnofhmecaaGreatDoorZ05
import Derived.Test.YtgmaamnofhmecaaGreatDoorZ06
import Derived.Test.YtgmaamnofhmecaaGreatDoorZ07
import Derived.Test.YtgmaamnofhmecaaGreatDoorZ08
import Derived.Test.YtgmaamnofhmecaaGreatDoorZ09
import Derived.Test.YtgmaamnofhmecaaGreatDoorZ10
import Derived.Test.YtgmaamnofhmecaaGreatDoorZ11
import Derived.Test.YtgmaamnofhmecaaGreatDoorZ12
import Derived.Test.YtgmaamnofhmecaaGreatDoorZ13
import Derived.Test.YtgmaamnofhmecaaGreatDoorZ14
import Derived.Test.YtgmaamnofhmecaaGreatDoorZ15
import Derived.Test.YtgmaamnofhmecaaGreatDoorZ16
import Derived.Test.YtgmaamnofhmecaaGreatDoorZ17
import Derived.Test.YtgmaamnofhmecaaGreatDoorZ18
import Derived.Test.YtgmaamnofhmecaaGreatDoorZ19
import Derived.Test.YtgmaamnofhmecaaGreatDoorZ20
import Derived.Test.YtgmaamnofhmecaaGreatDoorZ21
import Derived.Test.YtgmaamnofhmecaaGreatDoorZ22
import Derived.Test.YtgmaamnofhmecaaGreatDoorZ23
import Derived.Test.YtgmaamnofhmecaaGreatDoorZ24
import Derived.Test.YtgmaamnofhmecaaGreatDoorZ25
import Derived.Test.YtgmaamnofhmecaaGreatDoorZ26
import Derived.Test.YtgmaamnofhmecaaGreatDoorZ27
import Derived.Test.YtgmaamnofhmecaaGreatDoorZ28
import Derived.Test.YtgmaamnofhmecaaGreatDoorZ29
import Derived.Test.YtgmaamnofhmecaaGreatDoorZ30
import Derived.Test.YtgmaamnofhmecaaGreatDoorZ31
import Derived.Test.YtgmaamnofhmecaaGreatDoorZ32
import Derived.Test.YtgmaamnofhmecaaGreatDoorZ33
import Derived.Test.YtgmaamnofhmecaaGreatDoorZ34
import Derived.Test.YtgmaamnofhmecaaGreatDoorZ35
import Derived.Test.YtgmaamnofhmecaaGreatDoorZ36
import Derived.Test.YtgmaamnofhmecaaGreatDoorZ37
import Derived.Test.YtgmaamnofhmecaaGreatDoorZ38
import Derived.Test.YtgmaamnofhmecaaGreatDoorZ39
import Derived.Test.YtgmaamnofhmecaaGreatDoorZ40
import Derived.Test.YtgmaamnofhmecaaGreatDoorZ41
import Derived.Test.YtgmaamnofhmecaaGreatDoorZ42
import Derived.Test.YtgmaamnofhmecaaGreatDoorZ43
import Derived.Test.YtgmaamnofhmecaaGreatDoorX00
set_option linter.unusedSimpArgs false
namespace Go.Proofs.YtgmaamnofhmecaaGreatDoor
open Go.RowKit
set_option linter.unusedVariables false
set_option linter.unusedSimpArgs false

def SCPost (code : Int) (w : World) (e : Ending) (w' : World) : Prop := ∃ (A1 A2 A3 : Option Addr) (n1 c1 n2 c2 n3 c3 : Nat) (d r : Int), e = .returned (.tuple #[.agg #[.int .i64 d, .int .i64 r, .slice A1 n1 c1], .agg #[.slice A2 n2 c2], .slice A3 n3 c3, .int .i64 code]) ∧ Below w.heap.size w w'
theorem sc_end {w W Y : World} {A1 A2 A3 : Option Addr} {n1 c1 n2 c2 n3 c3 : Nat} {d r code code' : Int} (hY : Own.Chg (fun g => g = w.heap.size + 1 + 1 ∨ g = w.heap.size + 1 + 1 + 1) W Y) (hb : Below w.heap.size w W) (hc : code = code') : SCPost code w (.returned (.tuple #[.agg #[.int .i64 d, .int .i64 r, .slice A1 n1 c1], .agg #[.slice A2 n2 c2], .slice A3 n3 c3, .int .i64 code'])) Y := by
  subst hc
  exact ⟨A1, A2, A3, n1, c1, n2, c2, n3, c3, d, r, rfl, Own.Chg.below hb hY (fun g hg => by omega) (Nat.le_refl _)⟩
theorem chgD {P : Nat → Prop} {a b : World} (h : Own.Chg P a b) : Own.Chg P a b.drew := h.trans (Own.Chg.of_below (Below.refl _ _).drew)
theorem commit_code (fs : List NodeD) (dp rs : Int) (l : List EvD) : (commitB fs ⟨dp, rs, l⟩).1 = if (treeB fs && transB ⟨dp, rs, l⟩) = false then 1 else if dp = 0 then 17 else if 1 < dp then 0 else (replB fs l).1 := by
  unfold commitB
  split
  · rfl
  split
  · rfl
  split
  · rfl
  split
  · rfl
  · next h => exact (by simpa using h : (replB fs l).1 = 0).symm
set_option maxRecDepth 100000 in
set_option maxHeartbeats 16000000 in
theorem specCommitTrans_any (A : Option Addr) (n c : Nat) (fs : List NodeD) (dp rs : Int) (L : Option Addr) (m q : Nat) (l : List EvD) (w : World) (hN : Nodes w w.heap.size A n fs) (hnc : n ≤ c) (hs : smallNs fs) (hcl : cleanT fs) (hL : Evs w w.heap.size L m l) (hok : okEs l) (hce : cleanEs l) :
    Calls Tryz.prog 28 #[.agg #[.slice A n c], .agg #[.int .i64 dp, .int .i64 rs, .slice L m q]] w (SCPost (commitB fs ⟨dp, rs, l⟩).1 w) := by
  have hsml : smallEs l := ⟨hok.1, fun e he => (hok.2 e he).1⟩
  obtain ⟨WB, hWB⟩ : ∃ WB, WB = (((w.alloc (.cells #[.slice A n c] 26)).alloc (.cells #[.int .i64 dp, .int .i64 rs, .slice L m q] 58)).alloc (.cells #[.int .i64 0, .int .i64 0, .slice none 0 0] 58)).alloc (.cells #[.slice none 0 0] 26) := ⟨_, rfl⟩
  have HB0 : Hid (Below w.heap.size w WB) := by subst hWB; exact below_new4 w _ _ _ _
  have HT0 : Hid (Blk WB w.heap.size 26 #[.slice A n c]) := by subst hWB; exact heap_0of4 w _ _ _ _
  have HX0 : Hid (Blk WB (w.heap.size + 1) 58 #[.int .i64 dp, .int .i64 rs, .slice L m q]) := by subst hWB; exact heap_1of4 w _ _ _ _
  have HY4 : Hid (Blk WB (w.heap.size + 1 + 1) 58 #[.int .i64 0, .int .i64 0, .slice none 0 0]) := by subst hWB; exact heap_2of4 w _ _ _ _
  have HY5 : Hid (Blk WB (w.heap.size + 1 + 1 + 1) 26 #[.slice none 0 0]) := by subst hWB; exact heap_3of4 w _ _ _ _
  have HS : Hid (∀ W', Below WB.heap.size WB W' → W'.cell? ⟨w.heap.size, 0, none⟩ = some (.slice A n c) ∧ W'.cell? ⟨w.heap.size + 1, 0, none⟩ = some (.int .i64 dp) ∧ W'.cell? ⟨w.heap.size + 1, 1, none⟩ = some (.int .i64 rs) ∧ W'.cell? ⟨w.heap.size + 1, 2, none⟩ = some (.slice L m q)) := fun W' hW => ⟨(HT0.out.later hW HT0.out.lt).at 0 rfl, (HX0.out.later hW HX0.out.lt).at 0 rfl, (HX0.out.later hW HX0.out.lt).at 1 rfl, (HX0.out.later hW HX0.out.lt).at 2 rfl⟩
  have HSC : Hid (∀ W', Own.Chg (fun g => g = w.heap.size + 1 + 1 ∨ g = w.heap.size + 1 + 1 + 1) WB W' → W'.cell? ⟨w.heap.size, 0, none⟩ = some (.slice A n c) ∧ W'.cell? ⟨w.heap.size + 1, 0, none⟩ = some (.int .i64 dp) ∧ W'.cell? ⟨w.heap.size + 1, 1, none⟩ = some (.int .i64 rs) ∧ W'.cell? ⟨w.heap.size + 1, 2, none⟩ = some (.slice L m q)) := fun W' hW => by
    have h1 := Own.Blk.chg HT0.out hW (by omega)
    have h2 := Own.Blk.chg HX0.out hW (by omega)
    exact ⟨h1.at 0 rfl, h2.at 0 rfl, h2.at 1 rfl, h2.at 2 rfl⟩
  have HV4 : Hid (∀ W', Below WB.heap.size WB W' → Blk W' (w.heap.size + 1 + 1) 58 #[.int .i64 0, .int .i64 0, .slice none 0 0]) := fun W' hW => HY4.out.later hW HY4.out.lt
  have HV5 : Hid (∀ W', Below WB.heap.size WB W' → Blk W' (w.heap.size + 1 + 1 + 1) 26 #[.slice none 0 0]) := fun W' hW => HY5.out.later hW HY5.out.lt
  have hz5 := HY5.out.lt
  have HNX : Hid (∀ W, Below WB.heap.size WB W → Nodes W W.heap.size A n fs) := fun W hW => hN.later (HB0.out.later hW)
  have HEV : Hid (∀ W, Below WB.heap.size WB W → Evs W W.heap.size L m l) := fun W hW => hL.later (HB0.out.later hW)
  have HK1 := Lib.hid (fun W (hW : Below WB.heap.size WB W) => specTreeOk_any A n c fs W (HNX.out W hW) hs)
  have HK2 := Lib.hid (fun W (hW : Below WB.heap.size WB W) => specTransOk_any dp rs L m q l W (HEV.out W hW) hok)
  have HK3 := Lib.hid (fun W (hW : Below WB.heap.size WB W) => l25OwnAll_any L m q l W (HEV.out W hW) hsml)
  have HK4 := Lib.hid (fun W (hW : Below WB.heap.size WB W) => l25Tree_any A n c fs W (HNX.out W hW) hs)
  have HK5 := Lib.hid (fun (ht : treeB fs = true) (hn : notesB l = true) W (hW : Below WB.heap.size WB W) => l25Replay_any A n c L m q fs l W (HNX.out W hW) hnc ht hcl (HEV.out W hW) (by rw [← hL.1]; exact (notes_all hn).1) (fun e he => ⟨(notes_all hn).2 e he, (hok.2 e he).1, hce e he⟩))
  have HK6 := Lib.hid (fun W (hW : Below WB.heap.size WB W) => l25Changes_any L m q l W (HEV.out W hW) hsml)
  have HK7 := Lib.hid (fun (A' : Option Addr) n' c' gs W (hG : Nodes W W.heap.size A' n' gs) (hs' : smallNs gs) => l25Tree_any A' n' c' gs W hG hs')
  have hdp : transB ⟨dp, rs, l⟩ = true → (0 ≤ dp ∧ dp ≤ 3) ∧ notesB l = true := fun h => ⟨⟨(trans_parts h).1, (trans_parts h).2.1⟩, (trans_parts h).2.2.2.2.1⟩
  have HDP := Lib.hid hdp
  have HRS := Lib.hid (fun (ht : treeB fs = true) (hn : notesB l = true) => And.intro (repl_of ht hn) (rep_tsmall ht hn))
  have HST := Lib.hid (commit_code fs dp rs l)
  clear hdp hN hs hcl hL hok hce hsml HT0 HX0 HY4 HY5
  generalize transB ⟨dp, rs, l⟩ = xb at *
  generalize treeB fs = tb at *
  generalize (commitB fs ⟨dp, rs, l⟩).1 = CODE at *
  obtain ⟨z0, z1, z2, z3⟩ := HS.out _ (Below.refl _ _)
  go_enter Tryz.func28, Tryz.ntmps28
  go_wp2_with fail
  rw [← hWB]
  clear hWB
  refine (HK1.out _ (Below.refl _ _)).mono ?_
  rintro e w1 ⟨rfl, hb1⟩
  have HB1 := Lib.hid hb1
  clear hb1 HK1 z0 z1 z2 z3
  have hw1 := HB1.out.size
  cases tb
  case false =>
    rw [Bool.false_and, if_pos rfl] at HST
    have hb4 := HV4.out _ HB1.out
    have hb5 := HV5.out _ HB1.out
    have s0 := hb4.cell 0
    have s1 := hb4.cell 1
    have s2 := hb4.cell 2
    have s3 := hb5.cell 0
    have f0 := hb4.frozen 0
    have f1 := hb4.frozen 1
    have f2 := hb4.frozen 2
    have f3 := hb5.frozen 0
    have z4 := hb4.lt
    have z5 := hb5.lt
    have hn45 : ¬ w.heap.size + 1 + 1 = w.heap.size + 1 + 1 + 1 := by omega
    have hn54 : ¬ w.heap.size + 1 + 1 + 1 = w.heap.size + 1 + 1 := by omega
    simp at s0 s1 s2 s3
    clear hb4 hb5
    have z6 : w.heap.size + 1 + 1 < w1.heap.size + 1 := by omega
    have z7 : w.heap.size + 1 + 1 + 1 < w1.heap.size + 1 := by omega
    go_wp2_with fail
    refine bodyPost_ret (v := .tuple #[.agg #[.int .i64 0, .int .i64 0, .slice none 0 0], .agg #[.slice none 0 0], .slice (some ⟨w1.heap.size, 0, none⟩) 0 0, .int .i64 1]) (by simp [results, Tryz.results28, go_sem, World.cell?_alloc_lt, z4, z5, z6, z7, s0, s1, s2, s3, hn45, hn54]; try first | exact rfl | exact ⟨rfl, rfl⟩) rfl ?_
    exact sc_end (w := w) (W := w1) (by repeat' first | exact Own.Chg.refl _ _ | (refine chgA ?_ _) | (refine chgS ?_ (.inl rfl)) | (refine chgS ?_ (.inr rfl))) (HB0.out.later HB1.out) HST.out
  obtain ⟨z0, z1, z2, z3⟩ := HS.out _ HB1.out
  go_wp2_with fail
  refine (HK2.out _ HB1.out).mono ?_
  rintro e w2 ⟨rfl, hb2⟩
  have HB2 := Lib.hid (HB1.out.later hb2)
  clear hb2 HK2 z0 z1 z2 z3 HB1 hw1
  have hw2 := HB2.out.size
  cases xb
  case false =>
    rw [Bool.and_false, if_pos rfl] at HST
    have hb4 := HV4.out _ HB2.out
    have hb5 := HV5.out _ HB2.out
    have s0 := hb4.cell 0
    have s1 := hb4.cell 1
    have s2 := hb4.cell 2
    have s3 := hb5.cell 0
    have f0 := hb4.frozen 0
    have f1 := hb4.frozen 1
    have f2 := hb4.frozen 2
    have f3 := hb5.frozen 0
    have z4 := hb4.lt
    have z5 := hb5.lt
    have hn45 : ¬ w.heap.size + 1 + 1 = w.heap.size + 1 + 1 + 1 := by omega
    have hn54 : ¬ w.heap.size + 1 + 1 + 1 = w.heap.size + 1 + 1 := by omega
    simp at s0 s1 s2 s3
    clear hb4 hb5
    have z6 : w.heap.size + 1 + 1 < w2.heap.size + 1 := by omega
    have z7 : w.heap.size + 1 + 1 + 1 < w2.heap.size + 1 := by omega
    go_wp2_with fail
    refine bodyPost_ret (v := .tuple #[.agg #[.int .i64 0, .int .i64 0, .slice none 0 0], .agg #[.slice none 0 0], .slice (some ⟨w2.heap.size, 0, none⟩) 0 0, .int .i64 1]) (by simp [results, Tryz.results28, go_sem, World.cell?_alloc_lt, z4, z5, z6, z7, s0, s1, s2, s3, hn45, hn54]; try first | exact rfl | exact ⟨rfl, rfl⟩) rfl ?_
    exact sc_end (w := w) (W := w2) (by repeat' first | exact Own.Chg.refl _ _ | (refine chgA ?_ _) | (refine chgS ?_ (.inl rfl)) | (refine chgS ?_ (.inr rfl))) (HB0.out.later HB2.out) HST.out
  obtain ⟨⟨hd0, hd3⟩, hnt⟩ := HDP.out (by first | rfl | trivial)
  rw [if_neg (by decide)] at HST
  obtain ⟨z0, z1, z2, z3⟩ := HS.out _ HB2.out
  by_cases h0 : dp = 0
  case pos =>
    subst h0
    rw [if_pos rfl] at HST
    have hb4 := HV4.out _ HB2.out
    have hb5 := HV5.out _ HB2.out
    have s0 := hb4.cell 0
    have s1 := hb4.cell 1
    have s2 := hb4.cell 2
    have s3 := hb5.cell 0
    have f0 := hb4.frozen 0
    have f1 := hb4.frozen 1
    have f2 := hb4.frozen 2
    have f3 := hb5.frozen 0
    have z4 := hb4.lt
    have z5 := hb5.lt
    have hn45 : ¬ w.heap.size + 1 + 1 = w.heap.size + 1 + 1 + 1 := by omega
    have hn54 : ¬ w.heap.size + 1 + 1 + 1 = w.heap.size + 1 + 1 := by omega
    simp at s0 s1 s2 s3
    clear hb4 hb5
    have z6 : w.heap.size + 1 + 1 < w2.heap.size + 1 := by omega
    have z7 : w.heap.size + 1 + 1 + 1 < w2.heap.size + 1 := by omega
    go_wp2_with fail
    refine bodyPost_ret (v := .tuple #[.agg #[.int .i64 0, .int .i64 0, .slice none 0 0], .agg #[.slice none 0 0], .slice (some ⟨w2.heap.size, 0, none⟩) 0 0, .int .i64 17]) (by simp [results, Tryz.results28, go_sem, World.cell?_alloc_lt, z4, z5, z6, z7, s0, s1, s2, s3, hn45, hn54]; try first | exact rfl | exact ⟨rfl, rfl⟩) rfl ?_
    exact sc_end (w := w) (W := w2) (by repeat' first | exact Own.Chg.refl _ _ | (refine chgA ?_ _) | (refine chgS ?_ (.inl rfl)) | (refine chgS ?_ (.inr rfl))) (HB0.out.later HB2.out) HST.out
  have h0b : (dp == (0 : Int)) = false := beq_eq_false_iff_ne.2 h0
  rw [if_neg h0] at HST
  by_cases h1 : 1 < dp
  case pos =>
    rw [if_pos h1] at HST
    have hwk : IntKind.i64.wrap (dp - 1) = dp - 1 := by rw [IntKind.wrap_i64]; omega
    clear HK5 HK6 HK7 HRS
    go_upto_region 6 with fail
    go_region_held3 (fun W' => W'.cell? ⟨w.heap.size, 0, none⟩ = some (.slice A n c) ∧ W'.cell? ⟨w.heap.size + 1, 0, none⟩ = some (.int .i64 dp) ∧ W'.cell? ⟨w.heap.size + 1, 1, none⟩ = some (.int .i64 rs) ∧ W'.cell? ⟨w.heap.size + 1, 2, none⟩ = some (.slice L m q))
      (first | (refine HSC.out _ ?_; (repeat (first | with_reducible exact Own.Chg.of_below HB2.out | with_reducible exact Own.Chg.of_below HB4.out | with_reducible exact Own.Chg.of_below HB5.out | with_reducible refine chgA ?_ _ | with_reducible refine chgD ?_ | with_reducible refine chgS ?_ (.inl rfl) | with_reducible refine chgS ?_ (.inr rfl))); done))
      (first
        | (go_at_call 87
           with_reducible refine (HK3.out _ (by first | exact HB2.out.drew | exact (HB2.out.later (Below.new _ _).drew) | exact (HB2.out.later (Below.new _ _)))).mono ?_
           rintro e w4 ⟨v', rfl, hsub, hb4'⟩
           obtain ⟨AC, cc, rfl, hcc, _⟩ := hsub.reads
           have HB4 : Hid (Below WB.heap.size WB w4) := by first | exact HB2.out.later (undrew hb4') | exact (HB2.out.later (Below.new _ _)).later (undrew hb4') | exact (HB2.out.later (Below.new _ _)).later hb4'
           clear hsub hb4')
        | (go_at_call 88
           with_reducible refine (HK4.out _ (by first | exact HB4.out | exact HB4.out.later (Below.new _ _))).mono ?_
           rintro e w5 ⟨tv, rfl, htn, hb5'⟩
           obtain ⟨TA, tc, rfl, _, _⟩ := htn.reads
           have HB5 : Hid (Below WB.heap.size WB w5) := by first | exact HB4.out.later hb5' | exact (HB4.out.later (Below.new _ _)).later hb5'
           clear htn hb5'
           have hb4 := HV4.out _ HB5.out
           have hb5 := HV5.out _ HB5.out
           have s0 := hb4.cell 0
           have s1 := hb4.cell 1
           have s2 := hb4.cell 2
           have s3 := hb5.cell 0
           have f0 := hb4.frozen 0
           have f1 := hb4.frozen 1
           have f2 := hb4.frozen 2
           have f3 := hb5.frozen 0
           have z4 := hb4.lt
           have z5 := hb5.lt
           have hn45 : ¬ w.heap.size + 1 + 1 = w.heap.size + 1 + 1 + 1 := by omega
           have hn54 : ¬ w.heap.size + 1 + 1 + 1 = w.heap.size + 1 + 1 := by omega
           simp at s0 s1 s2 s3))
    all_goals
      try rw [hwk]
      go_wp2_with fail
      first
        | (refine bodyPost_ret (v := .tuple #[.agg #[.int .i64 (dp - 1), .int .i64 rs, .slice AC l.length cc], .agg #[.slice TA fs.length tc], .slice (some ⟨w5.heap.size, 0, none⟩) 0 0, .int .i64 0]) ?_ rfl ?_; (focus (simp [results, Tryz.results28, go_sem, World.cell?_alloc_lt, z4, z5, s0, s1, s2, s3, hn45, hn54]; done)))
        | (refine bodyPost_ret (v := .tuple #[.agg #[.int .i64 (dp - 1), .int .i64 rs, .slice AC l.length cc], .agg #[.slice TA fs.length tc], .slice (some ⟨w4.heap.size, 0, none⟩) 0 0, .int .i64 0]) ?_ rfl ?_; (focus (simp [results, Tryz.results28, go_sem, World.cell?_alloc_lt, z4, z5, s0, s1, s2, s3, hn45, hn54]; done)))
        | (refine bodyPost_ret (v := .tuple #[.agg #[.int .i64 (dp - 1), .int .i64 rs, .slice AC l.length cc], .agg #[.slice TA fs.length tc], .slice (some ⟨w2.heap.size, 0, none⟩) 0 0, .int .i64 0]) ?_ rfl ?_; (focus (simp [results, Tryz.results28, go_sem, World.cell?_alloc_lt, z4, z5, s0, s1, s2, s3, hn45, hn54]; done)))
      exact sc_end (w := w) (W := w5) (by repeat' first | exact Own.Chg.refl _ _ | (refine chgA ?_ _) | (refine chgS ?_ (.inl rfl)) | (refine chgS ?_ (.inr rfl))) (HB0.out.later HB5.out) HST.out
  rw [if_neg h1] at HST
  have hd1 : dp = 1 := by omega
  subst hd1
  obtain ⟨hrl, hrs⟩ := HRS.out (by first | rfl | trivial) hnt
  have HK5' := Lib.hid (HK5.out (by first | rfl | trivial) hnt w2 HB2.out)
  rw [hrl] at HST
  clear h0 h0b h1 HK3 HK4 HK5 HRS hrl
  generalize repB fs l 0 = PB at *
  obtain ⟨code, at_, gs⟩ := PB
  dsimp only at HST hrs
  go_wp2_with fail
  refine HK5'.out.mono ?_
  rintro e w5 ⟨tv, rfl, hnw, hb5⟩
  dsimp only at hnw ⊢
  obtain ⟨TA, tc, rfl, _, hN5⟩ := hnw.reads (HNX.out _ HB2.out) hnc hb5
  have HB5 := Lib.hid (HB2.out.later hb5)
  have hw5 := hb5.size
  clear hnw hb5 HK5' z0 z1 z2 z3
  by_cases hc : code = 0
  case neg =>
    have hcb : (code != (0 : Int)) = true := by simpa using hc
    have hb4 := HV4.out _ HB5.out
    have hb5 := HV5.out _ HB5.out
    have s0 := hb4.cell 0
    have s1 := hb4.cell 1
    have s2 := hb4.cell 2
    have s3 := hb5.cell 0
    have f0 := hb4.frozen 0
    have f1 := hb4.frozen 1
    have f2 := hb4.frozen 2
    have f3 := hb5.frozen 0
    have z4 := hb4.lt
    have z5 := hb5.lt
    have hn45 : ¬ w.heap.size + 1 + 1 = w.heap.size + 1 + 1 + 1 := by omega
    have hn54 : ¬ w.heap.size + 1 + 1 + 1 = w.heap.size + 1 + 1 := by omega
    simp at s0 s1 s2 s3
    clear hb4 hb5
    have z6 : w.heap.size + 1 + 1 < w5.heap.size + 1 := by omega
    have z7 : w.heap.size + 1 + 1 + 1 < w5.heap.size + 1 := by omega
    go_wp2_with fail
    refine bodyPost_ret (v := .tuple #[.agg #[.int .i64 0, .int .i64 0, .slice none 0 0], .agg #[.slice none 0 0], .slice (some ⟨w5.heap.size + 1, 0, none⟩) 0 0, .int .i64 code]) (by simp [results, Tryz.results28, go_sem, World.cell?_alloc_lt, z4, z5, z6, z7, s0, s1, s2, s3, hn45, hn54]; try first | exact rfl | exact ⟨rfl, rfl⟩) rfl ?_
    exact sc_end (w := w) (W := w5) (by repeat' first | exact Own.Chg.refl _ _ | (refine chgA ?_ _) | (refine chgS ?_ (.inl rfl)) | (refine chgS ?_ (.inr rfl))) (HB0.out.later HB5.out) HST.out
  subst hc
  obtain ⟨V, hV⟩ : ∃ V, V = w5.alloc (.cells #[.slice TA gs.length tc] 26) := ⟨_, rfl⟩
  have HBV : Hid (Below WB.heap.size WB V) := by subst hV; exact HB5.out.later (Below.new _ _)
  have HNV : Hid (∀ W, Below V.heap.size V W → Nodes W W.heap.size TA gs.length gs) := fun W hW => by
    have h1 : Nodes V V.heap.size TA gs.length gs := by subst hV; exact hN5.later (Below.new _ _)
    exact h1.later hW
  have HX9 : Hid (Blk V w5.heap.size 26 #[.slice TA gs.length tc]) := by subst hV; exact heap_alloc_new _ _
  have HS9 : Hid (∀ W', Below V.heap.size V W' → W'.cell? ⟨w5.heap.size, 0, none⟩ = some (.slice TA gs.length tc) ∧ W'.cell? ⟨w.heap.size + 1, 2, none⟩ = some (.slice L m q)) := fun W' hW => ⟨(HX9.out.later hW HX9.out.lt).at 0 rfl, (HS.out _ (HBV.out.later hW)).2.2.2⟩
  have HSD : Hid (∀ W', Own.Chg (fun g => g = w.heap.size + 1 + 1 ∨ g = w.heap.size + 1 + 1 + 1) V W' → W'.cell? ⟨w5.heap.size, 0, none⟩ = some (.slice TA gs.length tc) ∧ W'.cell? ⟨w.heap.size + 1, 2, none⟩ = some (.slice L m q)) := fun W' hW => ⟨(Own.Blk.chg HX9.out hW (by have := HB5.out.size; omega)).at 0 rfl, (HSC.out _ ((Own.Chg.of_below HBV.out).trans hW)).2.2.2⟩
  obtain ⟨z0, z3⟩ := HS9.out _ (Below.refl _ _)
  clear hN5
  go_upto_region 10 with fail
  rw [← hV]
  clear hV
  have hwx := HX9.out.lt
  go_region_held3 (fun W' => W'.cell? ⟨w5.heap.size, 0, none⟩ = some (.slice TA gs.length tc) ∧ W'.cell? ⟨w.heap.size + 1, 2, none⟩ = some (.slice L m q))
    (first | (refine HSD.out _ ?_; (repeat (first | with_reducible exact Own.Chg.refl _ _ | with_reducible exact Own.Chg.of_below HB6.out | with_reducible exact Own.Chg.of_below HB7.out | with_reducible refine chgA ?_ _ | with_reducible refine chgD ?_ | with_reducible refine chgS ?_ (.inl rfl) | with_reducible refine chgS ?_ (.inr rfl))); done))
    (first
      | (go_at_call 88
         with_reducible refine (HK7.out TA gs.length tc gs _ (HNV.out _ (Below.refl _ _).drew) hrs).mono ?_
         rintro e w6 ⟨tv, rfl, htn, hb6'⟩
         obtain ⟨TB, tbc, rfl, _, _⟩ := htn.reads
         have HB6 := Lib.hid (undrew hb6')
         clear htn hb6')
      | (go_at_call 90
         with_reducible refine (HK6.out _ (HBV.out.later HB6.out)).mono ?_
         rintro e w7 ⟨cv, rfl, htn, hb7⟩
         obtain ⟨CA, cc, rfl, _, _⟩ := htn.reads
         have HB7 := Lib.hid (HB6.out.later hb7)
         have HBW := Lib.hid (HBV.out.later HB7.out)
         clear htn hb7
         have hb4 := HV4.out _ HBW.out
         have hb5 := HV5.out _ HBW.out
         have s0 := hb4.cell 0
         have s1 := hb4.cell 1
         have s2 := hb4.cell 2
         have s3 := hb5.cell 0
         have f0 := hb4.frozen 0
         have f1 := hb4.frozen 1
         have f2 := hb4.frozen 2
         have f3 := hb5.frozen 0
         have z4 := hb4.lt
         have z5 := hb5.lt
         have hn45 : ¬ w.heap.size + 1 + 1 = w.heap.size + 1 + 1 + 1 := by omega
         have hn54 : ¬ w.heap.size + 1 + 1 + 1 = w.heap.size + 1 + 1 := by omega
         simp at s0 s1 s2 s3))
  all_goals
    go_wp2_with fail
    refine bodyPost_ret (v := .tuple #[.agg #[.int .i64 0, .int .i64 0, .slice none 0 0], .agg #[.slice TB gs.length tbc], .slice CA (chgsOf l).length cc, .int .i64 0]) (by simp [results, Tryz.results28, go_sem, s0, s1, s2, s3, hn45, hn54]; try first | exact rfl | exact ⟨rfl, rfl⟩) rfl ?_
    exact sc_end (w := w) (W := w7) (by repeat' first | exact Own.Chg.refl _ _ | (refine chgA ?_ _) | (refine chgS ?_ (.inl rfl)) | (refine chgS ?_ (.inr rfl))) (HB0.out.later HBW.out) HST.out
end Go.Proofs.YtgmaamnofhmecaaGreatDoor
