import Derived.Test.YtgmaamnofhmecaaGreatDoorZ31
import Derived.Test.YtgmaamnofhmecaaGreatDoorZ32
import Derived.Deep.DeepCutAuto
set_option linter.unusedSimpArgs false
namespace Go.Proofs.YtgmaamnofhmecaaGreatDoor
open Go.RowKit
set_option linter.unusedVariables false
set_option linter.unusedSimpArgs false
def zeroT : TransD := ⟨0, 0, []⟩
noncomputable def noteEvB (fs : List NodeD) (x : TransD) (e : EvD) : Int × TransD :=
 if (treeB fs && (transB x && noteB e)) = false then (1, zeroT)
 else if x.depth = 0 then (17, zeroT)
 else if 60 ≤ x.evs.length then (4, zeroT)
 else if (viewB fs x.evs).1 ≠ 0 then ((viewB fs x.evs).1, zeroT)
 else if (readsB e && !sameE (againB (viewB fs x.evs).2 e) e) = true then (5, zeroT)
 else if turnsB e = true ∧ (doOneB (viewB fs x.evs).2 (chgOf e)).1 ≠ 0 then ((doOneB (viewB fs x.evs).2 (chgOf e)).1, zeroT)
 else (0, ⟨x.depth, x.rest, x.evs ++ [e]⟩)
def TrPost (r : Int × TransD) (w : World) (e : Ending) (w' : World) : Prop := ∃ v, e = .returned (.tuple #[.agg #[.int .i64 r.2.depth, .int .i64 r.2.rest, v], .int .i64 r.1]) ∧ EvsO w' w.heap.size v r.2.evs ∧ Below w.heap.size w w'
theorem evr_own {w : World} {base : Nat} {A : Option Addr} {m c : Nat} {d : EvD} (h : Own.SubO w base (.slice A m c) d.subs) : EvR w w.heap.size (.int .i64 d.kind) (.string d.name) (.slice A m c) (.string d.val) (.int .i64 d.n) d := by
 obtain ⟨A1, cap1, e1, hc1, hs1⟩ := Own.SubO.strs h
 injection e1 with e1 e2 e3
 subst e1 e2 e3
 exact ⟨rfl, rfl, ⟨_, _, _, rfl, hs1, hc1⟩, rfl, rfl⟩
def set3 (W : World) (r : Nat) (x0 x1 x2 : Value) : World := ((W.setCell ⟨r, 0, none⟩ x0).setCell ⟨r, 1, none⟩ x1).setCell ⟨r, 2, none⟩ x2
theorem TrPost.later {R : Int × TransD} {w W Y : World} {e : Ending} (h : TrPost R w e W) (hb : Below W.heap.size W Y) : TrPost R w e Y := by
 obtain ⟨v, h1, h2, h3⟩ := h
 exact ⟨v, h1, h2.later hb, h3.later hb⟩
theorem tr_end {w W Y : World} {r : Nat} {R : Int × TransD} {v : Value} {e : Ending} {cs : Array Value} (he : e = .returned (.tuple #[.agg #[.int .i64 R.2.depth, .int .i64 R.2.rest, v], .int .i64 R.1])) (hv : EvsO W w.heap.size v R.2.evs) (hr : Blk W r 58 cs) (hb : Below w.heap.size w W) (hwr : w.heap.size ≤ r) (x0 x1 x2 : Value) (hY : Y = set3 W r x0 x1 x2) : TrPost R w e Y := by
 subst hY
 have h1 := hr.set_ 0 x0
 have h2 := h1.set_ 1 x1
 exact ⟨v, he, ((hv.setBlk hr (by decide) (by decide)).setBlk h1 (by decide) (by decide)).setBlk h2 (by decide) (by decide), ((hb.setCell (p := ⟨r, 0, none⟩) hwr _).setCell (p := ⟨r, 1, none⟩) hwr _).setCell (p := ⟨r, 2, none⟩) hwr _⟩
theorem doAll_clean : ∀ (l : List EvD) (fs : List NodeD), cleanT fs → cleanEs l → cleanT (doAllB fs (chgsOf l)).2
 | [], fs, h, _ => h
 | e :: r, fs, h, he => by
   have hr : cleanEs r := fun x hx => he x (List.mem_cons_of_mem _ hx)
   by_cases ht : turnsB e = true
   · have e1 : chgsOf (e :: r) = chgOf e :: chgsOf r := by unfold chgsOf; rw [List.filter_cons_of_pos ht]; rfl
     rw [e1]
     unfold doAllB
     split
     · refine doAll_clean r _ ?_ hr
       unfold doOneB
       split
       · exact clean_do h (he e (by simp))
       · exact fun d hd => by cases hd
     · exact fun d hd => by cases hd
   · have e1 : chgsOf (e :: r) = chgsOf r := by unfold chgsOf; rw [List.filter_cons_of_neg ht]
     rw [e1]
     exact doAll_clean r fs h hr
theorem view_clean {fs : List NodeD} {l : List EvD} (h : cleanT fs) (he : cleanEs l) : cleanT (viewB fs l).2 := by
 unfold viewB doChangesB
 split
 · split
   · exact fun d hd => by cases hd
   · exact doAll_clean l fs h he
 · exact fun d hd => by cases hd
set_option maxRecDepth 100000 in
set_option maxHeartbeats 40000000 in
theorem specNoteEvent_any (A : Option Addr) (n c : Nat) (fs : List NodeD) (dp rs : Int) (L : Option Addr) (m q : Nat) (l : List EvD) (c0 c1 c2 c3 c4 : Value) (d : EvD) (w : World) (hN : Nodes w w.heap.size A n fs) (hnc : n ≤ c) (hs : smallNs fs) (hcl : cleanT fs) (hL : Evs w w.heap.size L m l) (hok : okEs l) (hce : cleanEs l) (h : EvR w w.heap.size c0 c1 c2 c3 c4 d) (hd : okE d) :
 Calls Tryz.prog 39 #[.agg #[.slice A n c], .agg #[.int .i64 dp, .int .i64 rs, .slice L m q], .agg #[c0, c1, c2, c3, c4]] w (TrPost (noteEvB fs ⟨dp, rs, l⟩ d) w) := by
 have hdr := h
 obtain ⟨rfl, rfl, ⟨SA, sn, scap, rfl, hsa, hsn⟩, rfl, rfl⟩ := h
 have hsml : smallEs l := ⟨hok.1, fun e he => (hok.2 e he).1⟩
 obtain ⟨WB, hWB⟩ : ∃ WB, WB = (((w.alloc (.cells #[.slice A n c] 26)).alloc (.cells #[.int .i64 dp, .int .i64 rs, .slice L m q] 58)).alloc (.cells #[.int .i64 d.kind, .string d.name, .slice SA sn scap, .string d.val, .int .i64 d.n] 55)).alloc (.cells #[.int .i64 0, .int .i64 0, .slice none 0 0] 58) := ⟨_, rfl⟩
 have HB0 : Hid (Below w.heap.size w WB) := by subst hWB; exact below_new4 w _ _ _ _
 have HT0 : Hid (Blk WB w.heap.size 26 #[.slice A n c]) := by subst hWB; exact heap_0of4 w _ _ _ _
 have HX0 : Hid (Blk WB (w.heap.size + 1) 58 #[.int .i64 dp, .int .i64 rs, .slice L m q]) := by subst hWB; exact heap_1of4 w _ _ _ _
 have HE0 : Hid (Blk WB (w.heap.size + 1 + 1) 55 #[.int .i64 d.kind, .string d.name, .slice SA sn scap, .string d.val, .int .i64 d.n]) := by subst hWB; exact heap_2of4 w _ _ _ _
 have HYY : Hid (Blk WB (w.heap.size + 1 + 1 + 1) 58 #[.int .i64 0, .int .i64 0, .slice none 0 0]) := by subst hWB; exact heap_3of4 w _ _ _ _
 have HS : Hid (∀ W', Below WB.heap.size WB W' → W'.cell? ⟨w.heap.size, 0, none⟩ = some (.slice A n c) ∧ W'.cell? ⟨w.heap.size + 1, 0, none⟩ = some (.int .i64 dp) ∧ W'.cell? ⟨w.heap.size + 1, 1, none⟩ = some (.int .i64 rs) ∧ W'.cell? ⟨w.heap.size + 1, 2, none⟩ = some (.slice L m q) ∧ W'.cell? ⟨w.heap.size + 1 + 1, 0, none⟩ = some (.int .i64 d.kind) ∧ W'.cell? ⟨w.heap.size + 1 + 1, 1, none⟩ = some (.string d.name) ∧ W'.cell? ⟨w.heap.size + 1 + 1, 2, none⟩ = some (.slice SA sn scap) ∧ W'.cell? ⟨w.heap.size + 1 + 1, 3, none⟩ = some (.string d.val) ∧ W'.cell? ⟨w.heap.size + 1 + 1, 4, none⟩ = some (.int .i64 d.n)) := fun W' hW => ⟨(HT0.out.later hW HT0.out.lt).at 0 rfl, (HX0.out.later hW HX0.out.lt).at 0 rfl, (HX0.out.later hW HX0.out.lt).at 1 rfl, (HX0.out.later hW HX0.out.lt).at 2 rfl, (HE0.out.later hW HE0.out.lt).at 0 rfl, (HE0.out.later hW HE0.out.lt).at 1 rfl, (HE0.out.later hW HE0.out.lt).at 2 rfl, (HE0.out.later hW HE0.out.lt).at 3 rfl, (HE0.out.later hW HE0.out.lt).at 4 rfl⟩
 have HNX : Hid (∀ W, Below WB.heap.size WB W → Nodes W W.heap.size A n fs) := fun W hW => hN.later (HB0.out.later hW)
 have HEV : Hid (∀ W, Below WB.heap.size WB W → Evs W W.heap.size L m l) := fun W hW => hL.later (HB0.out.later hW)
 have HER : Hid (∀ W, Below WB.heap.size WB W → EvR W W.heap.size (.int .i64 d.kind) (.string d.name) (.slice SA sn scap) (.string d.val) (.int .i64 d.n) d) := fun W hW => hdr.later (HB0.out.later hW)
 have HK1 := Lib.hid (fun W (hW : Below WB.heap.size WB W) => specTreeOk_any A n c fs W (HNX.out W hW) hs)
 have HK2 := Lib.hid (fun W (hW : Below WB.heap.size WB W) => specTransOk_any dp rs L m q l W (HEV.out W hW) hok)
 have HK3 := Lib.hid (fun W (hW : Below WB.heap.size WB W) => specNoteOk_any _ _ _ _ _ d W (HER.out W hW) hd.1 hd.2)
 have HK4 := Lib.hid (fun W (hW : Below WB.heap.size WB W) => l25View_any A n c L m q fs l W (HNX.out W hW) hs (HEV.out W hW) hsml)
 have HLM : Hid (l.length = m) := hL.1
 have HZ1 : Hid ((treeB fs && (transB ⟨dp, rs, l⟩ && noteB d)) = false → noteEvB fs ⟨dp, rs, l⟩ d = (1, zeroT)) := fun h1 => by unfold noteEvB; rw [if_pos h1]
 have HZ2 : Hid ((treeB fs && (transB ⟨dp, rs, l⟩ && noteB d)) = true → dp = 0 → noteEvB fs ⟨dp, rs, l⟩ d = (17, zeroT)) := fun h1 h2 => by unfold noteEvB; rw [if_neg (by rw [h1]; decide), if_pos h2]
 have HZ3 : Hid ((treeB fs && (transB ⟨dp, rs, l⟩ && noteB d)) = true → dp ≠ 0 → 60 ≤ l.length → noteEvB fs ⟨dp, rs, l⟩ d = (4, zeroT)) := fun h1 h2 h3 => by unfold noteEvB; rw [if_neg (by rw [h1]; decide), if_neg h2, if_pos h3]
 have HZ4 : Hid ((treeB fs && (transB ⟨dp, rs, l⟩ && noteB d)) = true → dp ≠ 0 → ¬ 60 ≤ l.length → (viewB fs l).1 ≠ 0 → noteEvB fs ⟨dp, rs, l⟩ d = ((viewB fs l).1, zeroT)) := fun h1 h2 h3 h4 => by unfold noteEvB; rw [if_neg (by rw [h1]; decide), if_neg h2, if_neg h3, if_pos h4]
 have HZ5 : Hid ((treeB fs && (transB ⟨dp, rs, l⟩ && noteB d)) = true → dp ≠ 0 → ¬ 60 ≤ l.length → (viewB fs l).1 = 0 → (readsB d && !sameE (againB (viewB fs l).2 d) d) = true → noteEvB fs ⟨dp, rs, l⟩ d = (5, zeroT)) := fun h1 h2 h3 h4 h5 => by unfold noteEvB; rw [if_neg (by rw [h1]; decide), if_neg h2, if_neg h3, if_neg (by rw [h4]; decide), if_pos h5]
 have HZ6 : Hid ((treeB fs && (transB ⟨dp, rs, l⟩ && noteB d)) = true → dp ≠ 0 → ¬ 60 ≤ l.length → (viewB fs l).1 = 0 → (readsB d && !sameE (againB (viewB fs l).2 d) d) = false → turnsB d = true → (doOneB (viewB fs l).2 (chgOf d)).1 ≠ 0 → noteEvB fs ⟨dp, rs, l⟩ d = ((doOneB (viewB fs l).2 (chgOf d)).1, zeroT)) := fun h1 h2 h3 h4 h5 h6 h7 => by unfold noteEvB; rw [if_neg (by rw [h1]; decide), if_neg h2, if_neg h3, if_neg (by rw [h4]; decide), if_neg (by rw [h5]; decide), if_pos ⟨h6, h7⟩]
 have HZ7 : Hid ((treeB fs && (transB ⟨dp, rs, l⟩ && noteB d)) = true → dp ≠ 0 → ¬ 60 ≤ l.length → (viewB fs l).1 = 0 → (readsB d && !sameE (againB (viewB fs l).2 d) d) = false → (turnsB d = true → (doOneB (viewB fs l).2 (chgOf d)).1 = 0) → noteEvB fs ⟨dp, rs, l⟩ d = (0, ⟨dp, rs, l ++ [d]⟩)) := fun h1 h2 h3 h4 h5 h6 => by unfold noteEvB; rw [if_neg (by rw [h1]; decide), if_neg h2, if_neg h3, if_neg (by rw [h4]; decide), if_neg (by rw [h5]; decide), if_neg (fun hx => hx.2 (h6 hx.1))]
 have HVT : Hid ((viewB fs l).1 = 0 → treeB (viewB fs l).2 = true) := fun h0 => doChanges_tree h0
 have HVC : Hid (cleanT (viewB fs l).2) := view_clean hcl hce
 have HWD : Hid (noteB d = true → whereB d = true) := fun h0 => (note_parts h0).1
 generalize noteEvB fs ⟨dp, rs, l⟩ d = NB at *
 have HPZ : Hid (∀ code W Y e, NB = (code, zeroT) → e = .returned (.tuple #[.agg #[.int .i64 0, .int .i64 0, .slice none 0 0], .int .i64 code]) → Blk W (w.heap.size + 1 + 1 + 1) 58 #[.int .i64 0, .int .i64 0, .slice none 0 0] → Below w.heap.size w W → Y = set3 W (w.heap.size + 1 + 1 + 1) (.int .i64 0) (.int .i64 0) (.slice none 0 0) → TrPost NB w e Y) := fun code W Y e h1 h2 h3 h4 h5 => by
  subst h1
  exact tr_end h2 (evsO_nil _ _) h3 h4 (by omega) _ _ _ h5
 have HPW : Hid (∀ W Y e v, NB = (0, ⟨dp, rs, l ++ [d]⟩) → e = .returned (.tuple #[.agg #[.int .i64 dp, .int .i64 rs, v], .int .i64 0]) → EvsO W w.heap.size v (l ++ [d]) → Blk W (w.heap.size + 1 + 1 + 1) 58 #[.int .i64 0, .int .i64 0, .slice none 0 0] → Below w.heap.size w W → Y = set3 W (w.heap.size + 1 + 1 + 1) (.int .i64 dp) (.int .i64 rs) v → TrPost NB w e Y) := fun W Y e v h1 h2 h0 h3 h4 h5 => by
  subst h1
  exact tr_end h2 h0 h3 h4 (by omega) _ _ _ h5
 have HPL : Hid (∀ e W o, TrPost NB w e W → TrPost NB w e (W.alloc o)) := fun e W o h => h.later (Below.new _ _)
 generalize TrPost NB w = POST at *
 generalize viewB fs l = VB at *
 obtain ⟨vcode, vs⟩ := VB
 dsimp only at HZ4 HZ5 HZ6 HZ7 HVT HVC
 generalize htb : treeB fs = tb at *
 generalize hxb : transB ⟨dp, rs, l⟩ = xb at *
 generalize hnb : noteB d = nb at *
 have hdsm := hd.1.2.1.1
 clear hN hL hdr hsa htb hxb hnb hs hcl hce hok
 obtain ⟨z0, z1, z2, z3, z4, z5, z6, z7, z8⟩ := HS.out _ (Below.refl _ _)
 go_enter Tryz.func39, Tryz.ntmps39
 go_wp2_with fail
 rw [← hWB]
 clear hWB
 refine (HK1.out _ (Below.refl _ _)).mono ?_
 rintro e w1 ⟨rfl, hb1⟩
 have HB1 := Lib.hid hb1
 clear hb1 HK1 z0 z1 z2 z3 z4 z5 z6 z7 z8
 cases tb
 case false =>
  have hb9 := HYY.out.later HB1.out HYY.out.lt
  have s0 := hb9.cell 0
  have s1 := hb9.cell 1
  have s2 := hb9.cell 2
  have f0 := hb9.frozen 0
  have f1 := hb9.frozen 1
  have f2 := hb9.frozen 2
  have fz := hb9.lt
  simp at s0 s1 s2
  go_wp2_with fail
  refine bodyPost_ret (v := .tuple #[.agg #[.int .i64 0, .int .i64 0, .slice none 0 0], .int .i64 1]) (by simp [results, Tryz.results39, go_sem, s0, s1, s2]; try first | exact rfl | exact ⟨rfl, rfl⟩) rfl ?_
  exact HPZ.out 1 _ _ _ (HZ1.out (by first | rfl | trivial)) rfl hb9 (HB0.out.later HB1.out) rfl
 obtain ⟨z0, z1, z2, z3, z4, z5, z6, z7, z8⟩ := HS.out _ HB1.out
 go_wp2_with fail
 refine (HK2.out _ HB1.out).mono ?_
 rintro e w2 ⟨rfl, hb2⟩
 have HB2 := Lib.hid (HB1.out.later hb2)
 clear hb2 HK2 z0 z1 z2 z3 z4 z5 z6 z7 z8
 cases xb
 case false =>
  have hb9 := HYY.out.later HB2.out HYY.out.lt
  have s0 := hb9.cell 0
  have s1 := hb9.cell 1
  have s2 := hb9.cell 2
  have f0 := hb9.frozen 0
  have f1 := hb9.frozen 1
  have f2 := hb9.frozen 2
  have fz := hb9.lt
  simp at s0 s1 s2
  go_wp2_with fail
  refine bodyPost_ret (v := .tuple #[.agg #[.int .i64 0, .int .i64 0, .slice none 0 0], .int .i64 1]) (by simp [results, Tryz.results39, go_sem, s0, s1, s2]; try first | exact rfl | exact ⟨rfl, rfl⟩) rfl ?_
  exact HPZ.out 1 _ _ _ (HZ1.out (by first | rfl | trivial)) rfl hb9 (HB0.out.later HB2.out) rfl
 obtain ⟨z0, z1, z2, z3, z4, z5, z6, z7, z8⟩ := HS.out _ HB2.out
 go_wp2_with fail
 refine (HK3.out _ HB2.out).mono ?_
 rintro e w3 ⟨rfl, hb3⟩
 have HB3 := Lib.hid (HB2.out.later hb3)
 clear hb3 HK3 z0 z1 z2 z3 z4 z5 z6 z7 z8
 cases nb
 case false =>
  have hb9 := HYY.out.later HB3.out HYY.out.lt
  have s0 := hb9.cell 0
  have s1 := hb9.cell 1
  have s2 := hb9.cell 2
  have f0 := hb9.frozen 0
  have f1 := hb9.frozen 1
  have f2 := hb9.frozen 2
  have fz := hb9.lt
  simp at s0 s1 s2
  go_wp2_with fail
  refine bodyPost_ret (v := .tuple #[.agg #[.int .i64 0, .int .i64 0, .slice none 0 0], .int .i64 1]) (by simp [results, Tryz.results39, go_sem, s0, s1, s2]; try first | exact rfl | exact ⟨rfl, rfl⟩) rfl ?_
  exact HPZ.out 1 _ _ _ (HZ1.out (by first | rfl | trivial)) rfl hb9 (HB0.out.later HB3.out) rfl
 obtain ⟨z0, z1, z2, z3, z4, z5, z6, z7, z8⟩ := HS.out _ HB3.out
 by_cases hdp : dp = 0
 case pos =>
  subst hdp
  have hb9 := HYY.out.later HB3.out HYY.out.lt
  have s0 := hb9.cell 0
  have s1 := hb9.cell 1
  have s2 := hb9.cell 2
  have f0 := hb9.frozen 0
  have f1 := hb9.frozen 1
  have f2 := hb9.frozen 2
  have fz := hb9.lt
  simp at s0 s1 s2
  go_wp2_with fail
  refine bodyPost_ret (v := .tuple #[.agg #[.int .i64 0, .int .i64 0, .slice none 0 0], .int .i64 17]) (by simp [results, Tryz.results39, go_sem, s0, s1, s2]; try first | exact rfl | exact ⟨rfl, rfl⟩) rfl ?_
  exact HPZ.out 17 _ _ _ (HZ2.out (by first | rfl | trivial) (by first | rfl | trivial)) rfl hb9 (HB0.out.later HB3.out) rfl
 have hdp2 : (dp == (0 : Int)) = false := beq_eq_false_iff_ne.2 hdp
 by_cases hm60 : 60 ≤ m
 case pos =>
  have hmi : (60 : Int) ≤ (m : Int) := by omega
  have hb9 := HYY.out.later HB3.out HYY.out.lt
  have s0 := hb9.cell 0
  have s1 := hb9.cell 1
  have s2 := hb9.cell 2
  have f0 := hb9.frozen 0
  have f1 := hb9.frozen 1
  have f2 := hb9.frozen 2
  have fz := hb9.lt
  simp at s0 s1 s2
  go_wp2_with fail
  refine bodyPost_ret (v := .tuple #[.agg #[.int .i64 0, .int .i64 0, .slice none 0 0], .int .i64 4]) (by simp [results, Tryz.results39, go_sem, s0, s1, s2]; try first | exact rfl | exact ⟨rfl, rfl⟩) rfl ?_
  exact HPZ.out 4 _ _ _ (HZ3.out (by first | rfl | trivial) hdp (by rw [HLM.out]; exact hm60)) rfl hb9 (HB0.out.later HB3.out) rfl
 have hmi : ¬ (60 : Int) ≤ (m : Int) := by omega
 have hl60 : ¬ 60 ≤ l.length := by rw [HLM.out]; exact hm60
 go_wp2_with fail
 refine (HK4.out _ HB3.out).mono ?_
 rintro e w5 ⟨v5, rfl, hn5, hb5⟩
 obtain ⟨A6, cap6, rfl, hcap6, hNv⟩ := hn5.reads
 have HB5 := Lib.hid (HB3.out.later hb5)
 clear hb5 hn5 HK4 z0 z1 z2 z3 z4 z5 z6 z7 z8
 obtain ⟨W6, hW6⟩ : ∃ W6, W6 = w5.alloc (.cells #[.slice A6 vs.length cap6] 26) := ⟨_, rfl⟩
 have HB6 : Hid (Below WB.heap.size WB W6) := by subst hW6; exact HB5.out.later (Below.new _ _)
 have HQ6 : Hid (Blk W6 w5.heap.size 26 #[.slice A6 vs.length cap6]) := by subst hW6; exact heap_alloc_new _ _
 have HNV : Hid (∀ W, Below W6.heap.size W6 W → Nodes W W.heap.size A6 vs.length vs) := fun W hW => by
  have h1 : Nodes W6 W6.heap.size A6 vs.length vs := by subst hW6; exact hNv.later (Below.new _ _)
  exact h1.later hW
 clear hNv
 by_cases hvc : vcode = 0
 case neg =>
  have hvn : (vcode != (0 : Int)) = true := by simpa using hvc
  obtain ⟨z0, z1, z2, z3, z4, z5, z6, z7, z8⟩ := HS.out _ HB5.out
  have hb9 := HYY.out.later HB5.out HYY.out.lt
  have s0 := hb9.cell 0
  have s1 := hb9.cell 1
  have s2 := hb9.cell 2
  have f0 := hb9.frozen 0
  have f1 := hb9.frozen 1
  have f2 := hb9.frozen 2
  have fz := hb9.lt
  simp at s0 s1 s2
  go_wp2_with fail
  refine bodyPost_ret (v := .tuple #[.agg #[.int .i64 0, .int .i64 0, .slice none 0 0], .int .i64 vcode]) (by simp [results, Tryz.results39, go_sem, World.cell?_alloc_lt, fz, s0, s1, s2]; try first | exact rfl | exact ⟨rfl, rfl⟩) rfl ?_
  first
    | exact HPL.out _ _ _ (HPZ.out vcode _ _ _ (HZ4.out (by first | rfl | trivial | assumption) hdp hl60 hvc) rfl hb9 (HB0.out.later HB5.out) rfl)
    | exact HPZ.out vcode _ _ _ (HZ4.out (by first | rfl | trivial | assumption) hdp hl60 hvc) rfl (hb9.alloc _) ((HB0.out.later HB5.out).later (Below.new _ _)) rfl
 subst hvc
 have HVTR := HVT.out rfl
 have hrk := (rfl : readsB d = readsB d)
 have HKRD := Lib.hid (fun W (hW : Below W6.heap.size W6 W) => specReadsOf_any _ _ _ _ _ d W (HER.out W (HB6.out.later hW)))
 have HKAG := Lib.hid (fun (h0 : readsB d = true) W (hW : Below W6.heap.size W6 W) => l25Again_any A6 vs.length cap6 vs _ _ _ _ _ d W (HNV.out W hW) HVTR HVC.out (HER.out W (HB6.out.later hW)) hd.1 (HWD.out (by first | rfl | trivial)) h0)
 have HASB : Hid ((againB vs d).subs = d.subs) := by unfold Hid againB; (repeat' split) <;> rfl
 have HKSM := Lib.hid (fun SQ sqc W (hW : Below W6.heap.size W6 W) (hr : EvR W W.heap.size (.int .i64 (againB vs d).kind) (.string (againB vs d).name) (.slice SQ (againB vs d).subs.length sqc) (.string (againB vs d).val) (.int .i64 (againB vs d).n) (againB vs d)) => l25SameEvent_any _ _ _ _ _ _ _ _ _ _ (againB vs d) d W hr (HER.out W (HB6.out.later hW)) (by rw [HASB.out]; exact hdsm) hdsm)
 have HKTU := Lib.hid (fun W (hW : Below WB.heap.size WB W) => specTurnsOf_any _ _ _ _ _ d W (HER.out W hW))
 have HKTN := Lib.hid (fun W (hW : Below W6.heap.size W6 W) => l25Turn_any A6 vs.length cap6 vs _ _ _ _ _ d W (HNV.out W hW) hcap6 (tree_small HVTR) (HER.out W (HB6.out.later hW)) hd.1)
 have HS10 : Hid (∀ W, Below W6.heap.size W6 W → (W.cell? ⟨w.heap.size, 0, none⟩ = some (.slice A n c) ∧ W.cell? ⟨w.heap.size + 1, 0, none⟩ = some (.int .i64 dp) ∧ W.cell? ⟨w.heap.size + 1, 1, none⟩ = some (.int .i64 rs) ∧ W.cell? ⟨w.heap.size + 1, 2, none⟩ = some (.slice L m q) ∧ W.cell? ⟨w.heap.size + 1 + 1, 0, none⟩ = some (.int .i64 d.kind) ∧ W.cell? ⟨w.heap.size + 1 + 1, 1, none⟩ = some (.string d.name) ∧ W.cell? ⟨w.heap.size + 1 + 1, 2, none⟩ = some (.slice SA sn scap) ∧ W.cell? ⟨w.heap.size + 1 + 1, 3, none⟩ = some (.string d.val) ∧ W.cell? ⟨w.heap.size + 1 + 1, 4, none⟩ = some (.int .i64 d.n) ∧ W.cell? ⟨w5.heap.size, 0, none⟩ = some (.slice A6 vs.length cap6))) := fun W hW => by
  obtain ⟨z0, z1, z2, z3, z4, z5, z6, z7, z8⟩ := HS.out W (HB6.out.later hW)
  exact ⟨z0, z1, z2, z3, z4, z5, z6, z7, z8, (HQ6.out.later hW HQ6.out.lt).at 0 rfl⟩
 generalize hbd : (readsB d && !sameE (againB vs d) d) = bad at *
 have HBD := Lib.hid hbd
 clear hbd
 generalize hrd : readsB d = rd at *
 obtain ⟨z0, z1, z2, z3, z4, z5, z6, z7, z8⟩ := HS.out _ HB5.out
 go_upto_region 10 with fail
 rw [← hW6]
 clear hW6
 go_cut [56] (fun v wx => v = .bool bad ∧ Hid (Below W6.heap.size W6 wx))
 case first => as_aux_lemma =>
  clear z0 z1 z2 z3 z4 z5 z6 z7 z8
  cases rd
  · have hbE : bad = false := by rw [← HBD.out]; rfl
    subst hbE
    refine wpEnd_begin (S := fun W => (W.cell? ⟨w.heap.size, 0, none⟩ = some (.slice A n c) ∧ W.cell? ⟨w.heap.size + 1, 0, none⟩ = some (.int .i64 dp) ∧ W.cell? ⟨w.heap.size + 1, 1, none⟩ = some (.int .i64 rs) ∧ W.cell? ⟨w.heap.size + 1, 2, none⟩ = some (.slice L m q) ∧ W.cell? ⟨w.heap.size + 1 + 1, 0, none⟩ = some (.int .i64 d.kind) ∧ W.cell? ⟨w.heap.size + 1 + 1, 1, none⟩ = some (.string d.name) ∧ W.cell? ⟨w.heap.size + 1 + 1, 2, none⟩ = some (.slice SA sn scap) ∧ W.cell? ⟨w.heap.size + 1 + 1, 3, none⟩ = some (.string d.val) ∧ W.cell? ⟨w.heap.size + 1 + 1, 4, none⟩ = some (.int .i64 d.n) ∧ W.cell? ⟨w5.heap.size, 0, none⟩ = some (.slice A6 vs.length cap6))) 9 (by kernel_rfl) ?hSrn (fun hHeld => ?rgrn)
    case hSrn => exact HS10.out _ (Below.refl _ _).drew
    refine wt 0 ?rna1 [2, 1] ?rnb2 ?rnc3
    case rnb2 => intro w hSw; (try dsimp only at hSw); obtain ⟨s0, s1, s2, s3, s4, s5, s6, s7, s8, s9⟩ := hSw; go_simp; (try with_reducible rfl)
    try simp only [Act.put, List.setIfInBounds_toArray, List.set_cons_zero, List.set_cons_succ, List.getElem_toArray, List.getElem_cons_zero]
    refine wpEnd_ready (rs := [1]) (by kernel_rfl) (by simp) ?_
    refine AllReadyE.cons rfl (fun KW hK => ?rnst4) AllReadyE.nil
    go_simp
    refine (HKRD.out _ (Below.refl _ _).drew).mono ?_
    rintro e wb ⟨rfl, hbx⟩
    have HBX := Lib.hid (undrew hbx)
    clear hbx
    try go_wp2_with fail
    refine hK.out _ _ (fun _ => ?rnke5) (fun hHeld' => ?rnrs6)
    case rnke5 => exact HS10.out _ HBX.out
    have hHeld := hHeld' (by decide)
    clear hHeld'
    clear hK KW
    try simp only [Act.put, List.setIfInBounds_toArray, List.set_cons_zero, List.set_cons_succ, List.getElem_toArray, List.getElem_cons_succ, List.getElem_cons_zero]
    refine wt 2 ?rna7 [] ?rnb8 ?rnc9
    case rnb8 => intro w hSw; (try dsimp only at hSw); obtain ⟨s0, s1, s2, s3, s4, s5, s6, s7, s8, s9⟩ := hSw; go_simp; (try with_reducible rfl)
    try simp only [Act.put, List.setIfInBounds_toArray, List.set_cons_zero, List.set_cons_succ, List.getElem_toArray, List.getElem_cons_succ, List.getElem_cons_zero]
    refine wu 3 [8, 7, 5] ?rnc10
    try simp only [Act.put, List.setIfInBounds_toArray, List.set_cons_zero, List.set_cons_succ, List.getElem_toArray, List.getElem_cons_succ, List.getElem_cons_zero]
    refine wu 4 [8, 7, 5] ?rnc11
    try simp only [Act.put, List.setIfInBounds_toArray, List.set_cons_zero, List.set_cons_succ, List.getElem_toArray, List.getElem_cons_succ, List.getElem_cons_zero]
    refine wu 5 [8, 7] ?rnc12
    try simp only [Act.put, List.setIfInBounds_toArray, List.set_cons_zero, List.set_cons_succ, List.getElem_toArray, List.getElem_cons_succ, List.getElem_cons_zero]
    refine wu 6 [8, 7] ?rnc13
    try simp only [Act.put, List.setIfInBounds_toArray, List.set_cons_zero, List.set_cons_succ, List.getElem_toArray, List.getElem_cons_succ, List.getElem_cons_zero]
    refine wu 7 [8] ?rnc14
    try simp only [Act.put, List.setIfInBounds_toArray, List.set_cons_zero, List.set_cons_succ, List.getElem_toArray, List.getElem_cons_succ, List.getElem_cons_zero]
    refine wu 8 [] ?rnc15
    try simp only [Act.put, List.setIfInBounds_toArray, List.set_cons_zero, List.set_cons_succ, List.getElem_toArray, List.getElem_cons_succ, List.getElem_cons_zero]
    refine wpEnd_ready (rs := [9]) (by kernel_rfl) (by simp) ?_
    refine AllReadyE.cons rfl (fun KW hK => ?rnst16) AllReadyE.nil
    go_simp
    refine hK.out _ _ (fun h => absurd rfl h) (fun hHeld => ?rnrs18)
    clear hK KW
    try simp only [Act.put, List.setIfInBounds_toArray, List.set_cons_zero, List.set_cons_succ, List.getElem_toArray, List.getElem_cons_succ, List.getElem_cons_zero]
    refine wpEnd_done (by kernel_rfl) ?_ _
    go_wp2_with fail
    go_meet
    case rel => exact ⟨rfl, HBX.out⟩
  · have hrdT := hrd
    have hbE : bad = !sameE (againB vs d) d := by rw [← HBD.out]; rfl
    subst hbE
    refine wpEnd_begin (S := fun W => (W.cell? ⟨w.heap.size, 0, none⟩ = some (.slice A n c) ∧ W.cell? ⟨w.heap.size + 1, 0, none⟩ = some (.int .i64 dp) ∧ W.cell? ⟨w.heap.size + 1, 1, none⟩ = some (.int .i64 rs) ∧ W.cell? ⟨w.heap.size + 1, 2, none⟩ = some (.slice L m q) ∧ W.cell? ⟨w.heap.size + 1 + 1, 0, none⟩ = some (.int .i64 d.kind) ∧ W.cell? ⟨w.heap.size + 1 + 1, 1, none⟩ = some (.string d.name) ∧ W.cell? ⟨w.heap.size + 1 + 1, 2, none⟩ = some (.slice SA sn scap) ∧ W.cell? ⟨w.heap.size + 1 + 1, 3, none⟩ = some (.string d.val) ∧ W.cell? ⟨w.heap.size + 1 + 1, 4, none⟩ = some (.int .i64 d.n) ∧ W.cell? ⟨w5.heap.size, 0, none⟩ = some (.slice A6 vs.length cap6))) 9 (by kernel_rfl) ?hSry (fun hHeld => ?rgry)
    case hSry => exact HS10.out _ (Below.refl _ _).drew
    refine wt 0 ?rya1 [2, 1] ?ryb2 ?ryc3
    case ryb2 => intro w hSw; (try dsimp only at hSw); obtain ⟨s0, s1, s2, s3, s4, s5, s6, s7, s8, s9⟩ := hSw; go_simp; (try with_reducible rfl)
    try simp only [Act.put, List.setIfInBounds_toArray, List.set_cons_zero, List.set_cons_succ, List.getElem_toArray, List.getElem_cons_zero]
    refine wpEnd_ready (rs := [1]) (by kernel_rfl) (by simp) ?_
    refine AllReadyE.cons rfl (fun KW hK => ?ryst4) AllReadyE.nil
    go_simp
    refine (HKRD.out _ (Below.refl _ _).drew).mono ?_
    rintro e wb ⟨rfl, hbx⟩
    have HBX := Lib.hid (undrew hbx)
    clear hbx
    try go_wp2_with fail
    refine hK.out _ _ (fun _ => ?ryke5) (fun hHeld' => ?ryrs6)
    case ryke5 => exact HS10.out _ HBX.out
    have hHeld := hHeld' (by decide)
    clear hHeld'
    clear hK KW
    try simp only [Act.put, List.setIfInBounds_toArray, List.set_cons_zero, List.set_cons_succ, List.getElem_toArray, List.getElem_cons_succ, List.getElem_cons_zero]
    refine wt 2 ?rya7 [] ?ryb8 ?ryc9
    case ryb8 => intro w hSw; (try dsimp only at hSw); obtain ⟨s0, s1, s2, s3, s4, s5, s6, s7, s8, s9⟩ := hSw; go_simp; (try with_reducible rfl)
    try simp only [Act.put, List.setIfInBounds_toArray, List.set_cons_zero, List.set_cons_succ, List.getElem_toArray, List.getElem_cons_succ, List.getElem_cons_zero]
    refine wt 3 ?rya10 [8, 7, 5] ?ryb11 ?ryc12
    case ryb11 => intro w hSw; (try dsimp only at hSw); obtain ⟨s0, s1, s2, s3, s4, s5, s6, s7, s8, s9⟩ := hSw; go_simp; (try with_reducible rfl)
    try simp only [Act.put, List.setIfInBounds_toArray, List.set_cons_zero, List.set_cons_succ, List.getElem_toArray, List.getElem_cons_succ, List.getElem_cons_zero]
    refine wt 4 ?rya13 [8, 7, 5] ?ryb14 ?ryc15
    case ryb14 => intro w hSw; (try dsimp only at hSw); obtain ⟨s0, s1, s2, s3, s4, s5, s6, s7, s8, s9⟩ := hSw; go_simp; (try with_reducible rfl)
    try simp only [Act.put, List.setIfInBounds_toArray, List.set_cons_zero, List.set_cons_succ, List.getElem_toArray, List.getElem_cons_succ, List.getElem_cons_zero]
    refine wt 6 ?rya16 [8, 7] ?ryb17 ?ryc18
    case ryb17 => intro w hSw; (try dsimp only at hSw); obtain ⟨s0, s1, s2, s3, s4, s5, s6, s7, s8, s9⟩ := hSw; go_simp; (try with_reducible rfl)
    try simp only [Act.put, List.setIfInBounds_toArray, List.set_cons_zero, List.set_cons_succ, List.getElem_toArray, List.getElem_cons_succ, List.getElem_cons_zero]
    refine wpEnd_ready (rs := [5]) (by kernel_rfl) (by simp) ?_
    refine AllReadyE.cons rfl (fun KW hK => ?ryst19) AllReadyE.nil
    go_simp
    refine (HKAG.out (by first | rfl | trivial | assumption) _ HBX.out).mono ?_
    rintro e wb ⟨va, rfl, hsa, hba⟩
    obtain ⟨SQ, sqc, rfl, _, _⟩ := Own.SubO.strs hsa
    have HBY := Lib.hid (HBX.out.later hba)
    have HRQ := Lib.hid (evr_own hsa)
    clear hsa hba
    try go_wp2_with fail
    refine hK.out _ _ (fun _ => ?ryke20) (fun hHeld' => ?ryrs21)
    case ryke20 => exact HS10.out _ HBY.out
    have hHeld := hHeld' (by decide)
    clear hHeld'
    clear hK KW
    try simp only [Act.put, List.setIfInBounds_toArray, List.set_cons_zero, List.set_cons_succ, List.getElem_toArray, List.getElem_cons_succ, List.getElem_cons_zero]
    refine wpEnd_ready (rs := [7]) (by kernel_rfl) (by simp) ?_
    refine AllReadyE.cons rfl (fun KW hK => ?ryst22) AllReadyE.nil
    go_simp
    refine (HKSM.out _ _ _ HBY.out HRQ.out).mono ?_
    rintro e wb ⟨rfl, hbs⟩
    have HBZ := Lib.hid (HBY.out.later hbs)
    clear hbs
    try go_wp2_with fail
    refine hK.out _ _ (fun _ => ?ryke23) (fun hHeld' => ?ryrs24)
    case ryke23 => exact HS10.out _ HBZ.out
    have hHeld := hHeld' (by decide)
    clear hHeld'
    clear hK KW
    try simp only [Act.put, List.setIfInBounds_toArray, List.set_cons_zero, List.set_cons_succ, List.getElem_toArray, List.getElem_cons_succ, List.getElem_cons_zero]
    refine wt 8 ?rya25 [] ?ryb26 ?ryc27
    case ryb26 => intro w hSw; (try dsimp only at hSw); obtain ⟨s0, s1, s2, s3, s4, s5, s6, s7, s8, s9⟩ := hSw; go_simp; (try with_reducible rfl)
    try simp only [Act.put, List.setIfInBounds_toArray, List.set_cons_zero, List.set_cons_succ, List.getElem_toArray, List.getElem_cons_succ, List.getElem_cons_zero]
    refine wpEnd_ready (rs := [9]) (by kernel_rfl) (by simp) ?_
    refine AllReadyE.cons rfl (fun KW hK => ?ryst28) AllReadyE.nil
    go_simp
    refine hK.out _ _ (fun h => absurd rfl h) (fun hHeld => ?ryrs30)
    clear hK KW
    try simp only [Act.put, List.setIfInBounds_toArray, List.set_cons_zero, List.set_cons_succ, List.getElem_toArray, List.getElem_cons_succ, List.getElem_cons_zero]
    refine wpEnd_done (by kernel_rfl) ?_ _
    go_wp2_with fail
    go_meet
    case rel => exact ⟨rfl, HBZ.out⟩
 case rest =>
 obtain ⟨rfl, HBC⟩ := hcut
 have HBC6 := Lib.hid (HB6.out.later HBC.out)
 clear z0 z1 z2 z3 z4 z5 z6 z7 z8
 cases bad
 case true =>
  have hb9 := HYY.out.later HBC6.out HYY.out.lt
  have s0 := hb9.cell 0
  have s1 := hb9.cell 1
  have s2 := hb9.cell 2
  have f0 := hb9.frozen 0
  have f1 := hb9.frozen 1
  have f2 := hb9.frozen 2
  have fz := hb9.lt
  simp at s0 s1 s2
  go_wp2_with fail
  refine bodyPost_ret (v := .tuple #[.agg #[.int .i64 0, .int .i64 0, .slice none 0 0], .int .i64 5]) (by simp [results, Tryz.results39, go_sem, s0, s1, s2]; try first | exact rfl | exact ⟨rfl, rfl⟩) rfl ?_
  exact HPZ.out 5 _ _ _ (HZ5.out (by first | rfl | trivial | assumption) hdp hl60 (by first | rfl | trivial | assumption) (by first | rfl | trivial | assumption)) rfl hb9 (HB0.out.later HBC6.out) rfl
 obtain ⟨z0, z1, z2, z3, z4, z5, z6, z7, z8⟩ := HS.out _ HBC6.out
 go_wp2_with fail
 refine (HKTU.out _ HBC6.out).mono ?_
 rintro e w7 ⟨rfl, hb7⟩
 have HB7 := Lib.hid (HBC6.out.later hb7)
 have HV7 := Lib.hid (HBC.out.later hb7)
 clear hb7 z0 z1 z2 z3 z4 z5 z6 z7 z8
 generalize turnsB d = tu at *
 cases tu
 case false =>
  have HFIN := Lib.hid (HZ7.out (by first | rfl | trivial) hdp hl60 (by first | rfl | trivial) (by first | rfl | trivial) (by first | trivial | (intro h; cases h)))
  have hbo := HB7.out
  obtain ⟨z0, z1, z2, z3, z4, z5, z6, z7, z8⟩ := HS.out _ hbo
  have HKO := Lib.hid (fun W' (hW : Below WB.heap.size WB W') => l25OwnAll_any L m q l W' (HEV.out _ hW) hsml)
  obtain ⟨WT, hWT⟩ : ∃ WT, WT = w7 := ⟨_, rfl⟩
  have HBT : Hid (Below WB.heap.size WB WT) := by subst hWT; exact hbo
  have HBTn : Hid (Below WB.heap.size WB (WT.alloc (.cells #[.int .i64 0, .int .i64 0, .slice none 0 0] 58))) := HBT.out.later (Below.new _ _)
  have HQ0 : Hid (Blk (WT.alloc (.cells #[.int .i64 0, .int .i64 0, .slice none 0 0] 58)) WT.heap.size 58 #[.int .i64 0, .int .i64 0, .slice none 0 0]) := heap_last rfl
  go_upto_region 16 with fail
  (try rw [← hWT])
  clear hWT hbo
  go_cut [12] (fun v wx => ∃ (qo : Nat) (A7 : Option Addr) (c7 : Nat), v = .pointer (some ⟨qo, 0, none⟩) ∧ WT.heap.size ≤ qo ∧ Hid (Blk wx qo 58 #[.int .i64 dp, .int .i64 rs, .slice A7 l.length c7]) ∧ Hid (EvsO wx WT.heap.size (.slice A7 l.length c7) l) ∧ Hid (Below WT.heap.size WT wx))
  case first => as_aux_lemma =>
   go_region_held3 (fun W' => W'.cell? ⟨w.heap.size, 0, none⟩ = some (.slice A n c) ∧ W'.cell? ⟨w.heap.size + 1, 0, none⟩ = some (.int .i64 dp) ∧ W'.cell? ⟨w.heap.size + 1, 1, none⟩ = some (.int .i64 rs) ∧ W'.cell? ⟨w.heap.size + 1, 2, none⟩ = some (.slice L m q) ∧ W'.cell? ⟨w.heap.size + 1 + 1, 0, none⟩ = some (.int .i64 d.kind) ∧ W'.cell? ⟨w.heap.size + 1 + 1, 1, none⟩ = some (.string d.name) ∧ W'.cell? ⟨w.heap.size + 1 + 1, 2, none⟩ = some (.slice SA sn scap) ∧ W'.cell? ⟨w.heap.size + 1 + 1, 3, none⟩ = some (.string d.val) ∧ W'.cell? ⟨w.heap.size + 1 + 1, 4, none⟩ = some (.int .i64 d.n))
    (first | exact HS.out _ HBT.out.drew | exact HS.out _ HBTn.out.drew | exact HS.out _ HBTn.out | exact HS.out _ (HBT.out.later HBY.out) | exact HS.out _ ((HBT.out.later HBY.out).later (Below.new _ _)) | exact HS.out _ ((((HBT.out.later HBY.out).setCell (p := ⟨WT.heap.size, 0, none⟩) HBT.out.size _).setCell (p := ⟨WT.heap.size, 1, none⟩) HBT.out.size _).setCell (p := ⟨WT.heap.size, 2, none⟩) HBT.out.size _))
    (first
      | (go_at_call 87; refine (HKO.out _ HBT.out.drew).mono ?_; rintro e w4 ⟨v', rfl, hsub, hb4'⟩; obtain ⟨AC, cc, rfl, hcc, _⟩ := hsub.reads; have HBY := Lib.hid (undrew hb4'); have HSUB := Lib.hid hsub; clear hsub hb4')
      | (go_at_call 87; refine (HKO.out _ HBTn.out.drew).mono ?_; rintro e w4 ⟨v', rfl, hsub, hb4'⟩; obtain ⟨AC, cc, rfl, hcc, _⟩ := hsub.reads; have HBX := Lib.hid (undrew hb4'); have HBY := Lib.hid ((Below.new WT (.cells #[.int .i64 0, .int .i64 0, .slice none 0 0] 58)).later HBX.out); have HQ := Lib.hid (Blk.later HQ0.out HBX.out (by simp)); have q0 := (Blk.cell HQ.out 0); have q1 := (Blk.cell HQ.out 1); have q2 := (Blk.cell HQ.out 2); have qf0 := Blk.frozen HQ.out 0; have qf1 := Blk.frozen HQ.out 1; have qf2 := Blk.frozen HQ.out 2; have qz := Blk.lt HQ.out; have HSUB := Lib.hid hsub; simp at q0 q1 q2; clear hsub hb4'))
   all_goals
    go_wp2_with fail
    go_meet
   all_goals
    first
      | (case rel =>
          exact ⟨WT.heap.size, AC, cc, rfl, Nat.le_refl _, by unfold Hid; have h := ((HQ.out.set_ 0 (.int .i64 dp)).set_ 1 (.int .i64 rs)).set_ 2 (.slice AC l.length cc); simpa using h, ((HSUB.out.setBlk HQ.out (by decide) (by decide)).setBlk (HQ.out.set_ 0 _) (by decide) (by decide)).setBlk ((HQ.out.set_ 0 _).set_ 1 _) (by decide) (by decide) |>.base (by simp), ((HBY.out.setCell (Nat.le_refl _) _).setCell (Nat.le_refl _) _).setCell (Nat.le_refl _) _⟩)
      | (case rel =>
          exact ⟨w4.heap.size, AC, cc, rfl, HBY.out.size, heap_last rfl, HSUB.out.later (Below.new _ _), HBY.out.later (Below.new _ _)⟩)
  case rest =>
   obtain ⟨qo, A7, c7, rfl, hqo, HQO, HEO, HBC2⟩ := hcut
   obtain ⟨us, hol⟩ := HEO.out
   have HOL := Lib.hid hol
   have HBV := Lib.hid (HBT.out.later HBC2.out)
   have HKW := Lib.hid (fun W' (hW : Below WB.heap.size WB W') => l25Own_any _ _ _ _ _ d W' (HER.out _ hW) hd.1.2.1.1)
   clear hol z0 z1 z2 z3 z4 z5 z6 z7 z8
   obtain ⟨z0, z1, z2, z3, z4, z5, z6, z7, z8⟩ := HS.out _ HBV.out
   have q0 := HQO.out.cell 0
   have q1 := HQO.out.cell 1
   have q2 := HQO.out.cell 2
   have qf := HQO.out.frozen 2
   have qz := HQO.out.lt
   have hwz := HBT.out.size
   have hyz := HYY.out.lt
   simp at q0 q1 q2
   obtain ⟨i0, hi, hz0, hz1, hz2⟩ := info_parts infoEvD
   go_wp2_with fail
   go_region_law (first
    | (refine step_append_lies _ (by rfl) _ _ _ (by rfl) WT.heap.size 55 i0 _ 5 72 Tryz.underlying51 hi hz0 hz1 hz2 rfl (by omega) (.slice A7 l.length c7) l.length (Own.flat evK l us) (by rfl) (by exact HRA.out)
        ⟨w9.heap.size, 0, none⟩ 1 1 (evK.cells d (.slice SO d.subs.length so)) (by rfl) (by rfl) (by exact cells_newN w9 #[.int .i64 d.kind, .string d.name, .slice SO d.subs.length so, .string d.val, .int .i64 d.n] _) (by simp [evK, Value.oneCell']) (by omega) (by unfold maxLen; omega) (by omega) (by simp; have := HW9.out.size; omega) (w9.heap.size + 1) (by simp) ?_
       intro gg cap' w10 hown10 hg10 hat hlt2
       have HN10 := Lib.hid ((HO9.out.later (Below.new _ (.cells #[.int .i64 d.kind, .string d.name, .slice SO d.subs.length so, .string d.val, .int .i64 d.n] 55))).snoc (d := d) (sub_later HSB9.out (Below.new _ _)) HAP9.out hown10 hg10 (by decide))
       have hq10 := (HQ9.out.alloc (.cells #[.int .i64 d.kind, .string d.name, .slice SO d.subs.length so, .string d.val, .int .i64 d.n] 55)).grown hg10 (fun e => Own.own_blk_ne HRA.out (HQ9.out.alloc _) (by decide) e.symm)
       have HQ10 := Lib.hid hq10
       have HB10 := Lib.hid ((HW9.out.later (Below.new _ (.cells #[.int .i64 d.kind, .string d.name, .slice SO d.subs.length so, .string d.val, .int .i64 d.n] 55))).grown hg10 (by simp; have := HW9.out.size; omega) (fun g e => by have := (HRA.out.lt g e).1; omega))
       have y0 := hq10.cell 0
       have y1 := hq10.cell 1
       have y2 := hq10.cell 2
       have yf := hq10.frozen 2
       have yz := hq10.lt
       simp at y0 y1 y2
       clear hown10 hg10 hq10)
    | (go_simp
       go_at_call 108
       refine (HKW.out _ HBV.out.drew).mono ?_
       rintro e w9 ⟨v9, rfl, hs9, hb9'⟩
       obtain ⟨SO, so, rfl, _, _⟩ := Own.SubO.strs hs9
       have hb9 := undrew hb9'
       have HW9 := Lib.hid (HBV.out.later hb9)
       have HQ9 := Lib.hid (HQO.out.later hb9 HQO.out.lt)
       have HO9 := Lib.hid (HOL.out.later hb9)
       have HSB9 := Lib.hid (Own.own_base hs9 (show WT.heap.size ≤ wc.heap.size from HBC2.out.size))
       have HAP9 := Lib.hid (HOL.out.fresh hs9 (Nat.le_refl _))
       have j2 := HQ9.out.cell 2
       have j2' := (HQ9.out.alloc (.cells #[.int .i64 d.kind, .string d.name, .slice SO d.subs.length so, .string d.val, .int .i64 d.n] 55)).cell 2
       have jz := HQ9.out.lt
       simp at j2 j2'
       have HRA : Hid ((w9.alloc (.cells #[.int .i64 d.kind, .string d.name, .slice SO d.subs.length so, .string d.val, .int .i64 d.n] 55)).ownsRow WT.heap.size 55 5 (.slice A7 l.length c7) l.length (Own.flat evK l us)) := by
        have h := (HO9.out.later (Below.new _ (.cells #[.int .i64 d.kind, .string d.name, .slice SO d.subs.length so, .string d.val, .int .i64 d.n] 55))).row
        exact h
       clear hb9 hb9' hs9))
   all_goals
    have hw0 := HB0.out.size
    have hr10 := HYY.out.later HB10.out HYY.out.lt
    have s0 := hr10.cell 0
    have s1 := hr10.cell 1
    have s2 := hr10.cell 2
    have f0 := hr10.frozen 0
    have f1 := hr10.frozen 1
    have f2 := hr10.frozen 2
    have fz := hr10.lt
    have hnr : ¬ w.heap.size + 1 + 1 + 1 = qo := by omega
    have hnr' : ¬ qo = w.heap.size + 1 + 1 + 1 := by omega
    simp at s0 s1 s2
    go_wp2_with fail
    refine bodyPost_ret (v := .tuple #[.agg #[.int .i64 dp, .int .i64 rs, .slice (some ⟨gg, 0, none⟩) (l.length + 1) cap'], .int .i64 0]) (by simp [results, Tryz.results39, go_sem, s0, s1, s2, hnr, hnr']; try first | exact rfl | exact ⟨rfl, rfl⟩) rfl ?_
    exact HPW.out (w10.setCell ⟨qo, 2, none⟩ (.slice (some ⟨gg, 0, none⟩) (l.length + 1) cap')) _ _ _ HFIN.out rfl (EvsO.base (EvsO.setBlk ⟨_, HN10.out⟩ HQ10.out (by decide) (by decide)) (show w.heap.size ≤ WT.heap.size by omega)) (hr10.far (p := ⟨qo, 2, none⟩) (show w.heap.size + 1 + 1 + 1 ≠ qo by omega) _) ((HB0.out.later HB10.out).setCell (p := ⟨qo, 2, none⟩) (show w.heap.size ≤ qo by omega) _) rfl
 obtain ⟨z0, z1, z2, z3, z4, z5, z6, z7, z8⟩ := HS.out _ HB7.out
 obtain ⟨_, _, _, _, _, _, _, _, _, z9⟩ := HS10.out _ HV7.out
 generalize doOneB vs (chgOf d) = DD at *
 obtain ⟨tcode, ts⟩ := DD
 dsimp only at HZ6 HZ7
 go_wp2_with fail
 refine (HKTN.out _ HV7.out).mono ?_
 rintro e w8 ⟨v8, rfl, hn8, hb8⟩
 obtain ⟨A8, cap8, rfl, _, _⟩ := hn8.reads
 have HB8 := Lib.hid (HB7.out.later hb8)
 clear hb8 hn8 z0 z1 z2 z3 z4 z5 z6 z7 z8 z9
 by_cases htc : tcode = 0
 case neg =>
  have htn : (tcode != (0 : Int)) = true := by simpa using htc
  obtain ⟨z0, z1, z2, z3, z4, z5, z6, z7, z8⟩ := HS.out _ HB8.out
  have hb9 := HYY.out.later HB8.out HYY.out.lt
  have s0 := hb9.cell 0
  have s1 := hb9.cell 1
  have s2 := hb9.cell 2
  have f0 := hb9.frozen 0
  have f1 := hb9.frozen 1
  have f2 := hb9.frozen 2
  have fz := hb9.lt
  simp at s0 s1 s2
  go_wp2_with fail
  refine bodyPost_ret (v := .tuple #[.agg #[.int .i64 0, .int .i64 0, .slice none 0 0], .int .i64 tcode]) (by simp [results, Tryz.results39, go_sem, World.cell?_alloc_lt, fz, s0, s1, s2]; try first | exact rfl | exact ⟨rfl, rfl⟩) rfl ?_
  first
    | exact HPL.out _ _ _ (HPZ.out tcode _ _ _ (HZ6.out (by first | rfl | trivial | assumption) hdp hl60 (by first | rfl | trivial | assumption) (by first | rfl | trivial | assumption) (by first | rfl | trivial) htc) rfl hb9 (HB0.out.later HB8.out) rfl)
    | exact HPZ.out tcode _ _ _ (HZ6.out (by first | rfl | trivial | assumption) hdp hl60 (by first | rfl | trivial | assumption) (by first | rfl | trivial | assumption) (by first | rfl | trivial) htc) rfl (hb9.alloc _) ((HB0.out.later HB8.out).later (Below.new _ _)) rfl
 subst htc
 have HB9 : Hid (Below WB.heap.size WB (w8.alloc (.cells #[.slice A8 ts.length cap8] 26))) := HB8.out.later (Below.new _ _)
 have HFIN := Lib.hid (HZ7.out (by first | rfl | trivial) hdp hl60 (by first | rfl | trivial) (by first | rfl | trivial) (by first | trivial | (intro h; rfl)))
 have hbo := HB9.out
 obtain ⟨z0, z1, z2, z3, z4, z5, z6, z7, z8⟩ := HS.out _ hbo
 have HKO := Lib.hid (fun W' (hW : Below WB.heap.size WB W') => l25OwnAll_any L m q l W' (HEV.out _ hW) hsml)
 obtain ⟨WT, hWT⟩ : ∃ WT, WT = (w8.alloc (.cells #[.slice A8 ts.length cap8] 26)) := ⟨_, rfl⟩
 have HBT : Hid (Below WB.heap.size WB WT) := by subst hWT; exact hbo
 have HBTn : Hid (Below WB.heap.size WB (WT.alloc (.cells #[.int .i64 0, .int .i64 0, .slice none 0 0] 58))) := HBT.out.later (Below.new _ _)
 have HQ0 : Hid (Blk (WT.alloc (.cells #[.int .i64 0, .int .i64 0, .slice none 0 0] 58)) WT.heap.size 58 #[.int .i64 0, .int .i64 0, .slice none 0 0]) := heap_last rfl
 go_upto_region 16 with fail
 (try rw [← hWT])
 clear hWT hbo
 go_cut [12] (fun v wx => ∃ (qo : Nat) (A7 : Option Addr) (c7 : Nat), v = .pointer (some ⟨qo, 0, none⟩) ∧ WT.heap.size ≤ qo ∧ Hid (Blk wx qo 58 #[.int .i64 dp, .int .i64 rs, .slice A7 l.length c7]) ∧ Hid (EvsO wx WT.heap.size (.slice A7 l.length c7) l) ∧ Hid (Below WT.heap.size WT wx))
 case first => as_aux_lemma =>
  go_region_held3 (fun W' => W'.cell? ⟨w.heap.size, 0, none⟩ = some (.slice A n c) ∧ W'.cell? ⟨w.heap.size + 1, 0, none⟩ = some (.int .i64 dp) ∧ W'.cell? ⟨w.heap.size + 1, 1, none⟩ = some (.int .i64 rs) ∧ W'.cell? ⟨w.heap.size + 1, 2, none⟩ = some (.slice L m q) ∧ W'.cell? ⟨w.heap.size + 1 + 1, 0, none⟩ = some (.int .i64 d.kind) ∧ W'.cell? ⟨w.heap.size + 1 + 1, 1, none⟩ = some (.string d.name) ∧ W'.cell? ⟨w.heap.size + 1 + 1, 2, none⟩ = some (.slice SA sn scap) ∧ W'.cell? ⟨w.heap.size + 1 + 1, 3, none⟩ = some (.string d.val) ∧ W'.cell? ⟨w.heap.size + 1 + 1, 4, none⟩ = some (.int .i64 d.n))
   (first | exact HS.out _ HBT.out.drew | exact HS.out _ HBTn.out.drew | exact HS.out _ HBTn.out | exact HS.out _ (HBT.out.later HBY.out) | exact HS.out _ ((HBT.out.later HBY.out).later (Below.new _ _)) | exact HS.out _ ((((HBT.out.later HBY.out).setCell (p := ⟨WT.heap.size, 0, none⟩) HBT.out.size _).setCell (p := ⟨WT.heap.size, 1, none⟩) HBT.out.size _).setCell (p := ⟨WT.heap.size, 2, none⟩) HBT.out.size _))
   (first
     | (go_at_call 87; refine (HKO.out _ HBT.out.drew).mono ?_; rintro e w4 ⟨v', rfl, hsub, hb4'⟩; obtain ⟨AC, cc, rfl, hcc, _⟩ := hsub.reads; have HBY := Lib.hid (undrew hb4'); have HSUB := Lib.hid hsub; clear hsub hb4')
     | (go_at_call 87; refine (HKO.out _ HBTn.out.drew).mono ?_; rintro e w4 ⟨v', rfl, hsub, hb4'⟩; obtain ⟨AC, cc, rfl, hcc, _⟩ := hsub.reads; have HBX := Lib.hid (undrew hb4'); have HBY := Lib.hid ((Below.new WT (.cells #[.int .i64 0, .int .i64 0, .slice none 0 0] 58)).later HBX.out); have HQ := Lib.hid (Blk.later HQ0.out HBX.out (by simp)); have q0 := (Blk.cell HQ.out 0); have q1 := (Blk.cell HQ.out 1); have q2 := (Blk.cell HQ.out 2); have qf0 := Blk.frozen HQ.out 0; have qf1 := Blk.frozen HQ.out 1; have qf2 := Blk.frozen HQ.out 2; have qz := Blk.lt HQ.out; have HSUB := Lib.hid hsub; simp at q0 q1 q2; clear hsub hb4'))
  all_goals
   go_wp2_with fail
   go_meet
  all_goals
   first
     | (case rel =>
         exact ⟨WT.heap.size, AC, cc, rfl, Nat.le_refl _, by unfold Hid; have h := ((HQ.out.set_ 0 (.int .i64 dp)).set_ 1 (.int .i64 rs)).set_ 2 (.slice AC l.length cc); simpa using h, ((HSUB.out.setBlk HQ.out (by decide) (by decide)).setBlk (HQ.out.set_ 0 _) (by decide) (by decide)).setBlk ((HQ.out.set_ 0 _).set_ 1 _) (by decide) (by decide) |>.base (by simp), ((HBY.out.setCell (Nat.le_refl _) _).setCell (Nat.le_refl _) _).setCell (Nat.le_refl _) _⟩)
     | (case rel =>
         exact ⟨w4.heap.size, AC, cc, rfl, HBY.out.size, heap_last rfl, HSUB.out.later (Below.new _ _), HBY.out.later (Below.new _ _)⟩)
 case rest =>
  obtain ⟨qo, A7, c7, rfl, hqo, HQO, HEO, HBC2⟩ := hcut
  obtain ⟨us, hol⟩ := HEO.out
  have HOL := Lib.hid hol
  have HBV := Lib.hid (HBT.out.later HBC2.out)
  have HKW := Lib.hid (fun W' (hW : Below WB.heap.size WB W') => l25Own_any _ _ _ _ _ d W' (HER.out _ hW) hd.1.2.1.1)
  clear hol z0 z1 z2 z3 z4 z5 z6 z7 z8
  obtain ⟨z0, z1, z2, z3, z4, z5, z6, z7, z8⟩ := HS.out _ HBV.out
  have q0 := HQO.out.cell 0
  have q1 := HQO.out.cell 1
  have q2 := HQO.out.cell 2
  have qf := HQO.out.frozen 2
  have qz := HQO.out.lt
  have hwz := HBT.out.size
  have hyz := HYY.out.lt
  simp at q0 q1 q2
  obtain ⟨i0, hi, hz0, hz1, hz2⟩ := info_parts infoEvD
  go_wp2_with fail
  go_region_law (first
   | (refine step_append_lies _ (by rfl) _ _ _ (by rfl) WT.heap.size 55 i0 _ 5 72 Tryz.underlying51 hi hz0 hz1 hz2 rfl (by omega) (.slice A7 l.length c7) l.length (Own.flat evK l us) (by rfl) (by exact HRA.out)
       ⟨w9.heap.size, 0, none⟩ 1 1 (evK.cells d (.slice SO d.subs.length so)) (by rfl) (by rfl) (by exact cells_newN w9 #[.int .i64 d.kind, .string d.name, .slice SO d.subs.length so, .string d.val, .int .i64 d.n] _) (by simp [evK, Value.oneCell']) (by omega) (by unfold maxLen; omega) (by omega) (by simp; have := HW9.out.size; omega) (w9.heap.size + 1) (by simp) ?_
      intro gg cap' w10 hown10 hg10 hat hlt2
      have HN10 := Lib.hid ((HO9.out.later (Below.new _ (.cells #[.int .i64 d.kind, .string d.name, .slice SO d.subs.length so, .string d.val, .int .i64 d.n] 55))).snoc (d := d) (sub_later HSB9.out (Below.new _ _)) HAP9.out hown10 hg10 (by decide))
      have hq10 := (HQ9.out.alloc (.cells #[.int .i64 d.kind, .string d.name, .slice SO d.subs.length so, .string d.val, .int .i64 d.n] 55)).grown hg10 (fun e => Own.own_blk_ne HRA.out (HQ9.out.alloc _) (by decide) e.symm)
      have HQ10 := Lib.hid hq10
      have HB10 := Lib.hid ((HW9.out.later (Below.new _ (.cells #[.int .i64 d.kind, .string d.name, .slice SO d.subs.length so, .string d.val, .int .i64 d.n] 55))).grown hg10 (by simp; have := HW9.out.size; omega) (fun g e => by have := (HRA.out.lt g e).1; omega))
      have y0 := hq10.cell 0
      have y1 := hq10.cell 1
      have y2 := hq10.cell 2
      have yf := hq10.frozen 2
      have yz := hq10.lt
      simp at y0 y1 y2
      clear hown10 hg10 hq10)
   | (go_simp
      go_at_call 108
      refine (HKW.out _ HBV.out.drew).mono ?_
      rintro e w9 ⟨v9, rfl, hs9, hb9'⟩
      obtain ⟨SO, so, rfl, _, _⟩ := Own.SubO.strs hs9
      have hb9 := undrew hb9'
      have HW9 := Lib.hid (HBV.out.later hb9)
      have HQ9 := Lib.hid (HQO.out.later hb9 HQO.out.lt)
      have HO9 := Lib.hid (HOL.out.later hb9)
      have HSB9 := Lib.hid (Own.own_base hs9 (show WT.heap.size ≤ wc.heap.size from HBC2.out.size))
      have HAP9 := Lib.hid (HOL.out.fresh hs9 (Nat.le_refl _))
      have j2 := HQ9.out.cell 2
      have j2' := (HQ9.out.alloc (.cells #[.int .i64 d.kind, .string d.name, .slice SO d.subs.length so, .string d.val, .int .i64 d.n] 55)).cell 2
      have jz := HQ9.out.lt
      simp at j2 j2'
      have HRA : Hid ((w9.alloc (.cells #[.int .i64 d.kind, .string d.name, .slice SO d.subs.length so, .string d.val, .int .i64 d.n] 55)).ownsRow WT.heap.size 55 5 (.slice A7 l.length c7) l.length (Own.flat evK l us)) := by
       have h := (HO9.out.later (Below.new _ (.cells #[.int .i64 d.kind, .string d.name, .slice SO d.subs.length so, .string d.val, .int .i64 d.n] 55))).row
       exact h
      clear hb9 hb9' hs9))
  all_goals
   have hw0 := HB0.out.size
   have hr10 := HYY.out.later HB10.out HYY.out.lt
   have s0 := hr10.cell 0
   have s1 := hr10.cell 1
   have s2 := hr10.cell 2
   have f0 := hr10.frozen 0
   have f1 := hr10.frozen 1
   have f2 := hr10.frozen 2
   have fz := hr10.lt
   have hnr : ¬ w.heap.size + 1 + 1 + 1 = qo := by omega
   have hnr' : ¬ qo = w.heap.size + 1 + 1 + 1 := by omega
   simp at s0 s1 s2
   go_wp2_with fail
   refine bodyPost_ret (v := .tuple #[.agg #[.int .i64 dp, .int .i64 rs, .slice (some ⟨gg, 0, none⟩) (l.length + 1) cap'], .int .i64 0]) (by simp [results, Tryz.results39, go_sem, s0, s1, s2, hnr, hnr']; try first | exact rfl | exact ⟨rfl, rfl⟩) rfl ?_
   exact HPW.out (w10.setCell ⟨qo, 2, none⟩ (.slice (some ⟨gg, 0, none⟩) (l.length + 1) cap')) _ _ _ HFIN.out rfl (EvsO.base (EvsO.setBlk ⟨_, HN10.out⟩ HQ10.out (by decide) (by decide)) (show w.heap.size ≤ WT.heap.size by omega)) (hr10.far (p := ⟨qo, 2, none⟩) (show w.heap.size + 1 + 1 + 1 ≠ qo by omega) _) ((HB0.out.later HB10.out).setCell (p := ⟨qo, 2, none⟩) (show w.heap.size ≤ qo by omega) _) rfl
end Go.Proofs.YtgmaamnofhmecaaGreatDoor
