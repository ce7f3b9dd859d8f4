/-
  Tables of the program: DeleteRow. Tables of the program: DeleteRow. Tables of the program: ContainsFunc at nodes; the function that InsertRow hands over. Tables of the program: RowOk.
-/
import Derived.Test.YtfpcjhajjejpdaaGreatDoorZ37
import Derived.Test.YtfpcjhajjejpdaaGreatDoorZ15
import Derived.Test.YtfpcjhajjejpdaaGreatDoorZ26
import Derived.Deep.RegionHeld3
namespace Go.Proofs.YtfpcjhajjejpdaaGreatDoor
open Go.RowKit
set_option linter.unusedVariables false

theorem rowAt_right {fs : List NodeD} {b : TableD} {key : ByteArray} (h : (rowAtOfB fs b key).1 = 0) : tabB b = true ∧ rowB b.cols (rowAtOfB fs b key).2 = true := by
  unfold rowAtOfB at h ⊢
  split at h
  · next hc =>
    rw [if_pos hc]
    simp only [Bool.and_eq_true] at hc
    refine ⟨hc.2, ?_⟩
    unfold rowAtB at h ⊢
    split at h
    · cases h
    · next hn =>
      rw [if_neg hn]
      generalize hu : unpackB b.cols key ((rowsN b.glob fs).getD (atI (rowsN b.glob fs) key).toNat default).val = u at *
      cases u with
      | none => exact absurd h (by decide)
      | some r =>
        show rowB b.cols r = true
        unfold unpackB at hu
        split at hu
        · cases hu
        · next hq =>
          injection hu with hu
          subst hu
          cases hrb : rowB b.cols (rowOfKV b.cols key ((rowsN b.glob fs).getD (atI (rowsN b.glob fs) key).toNat default).val) with
          | true => rfl
          | false => rw [hrb] at hq; simp at hq
  · cases h
theorem row_facts {cols r : List ByteArray} (h : rowB cols r = true) : r.length = cols.length ∧ (∀ s ∈ r, s.size ≤ 11) := by
  unfold rowB at h
  simp only [Bool.and_eq_true, decide_eq_true_eq, List.all_eq_true] at h
  refine ⟨h.1, fun s hs => ?_⟩
  have h2 := h.2.2 s hs
  unfold cellB at h2
  rw [Bool.and_eq_true] at h2
  exact of_decide_eq_true h2.2
theorem OwnL.two {W w3 : World} {base : Nat} {v v3 v4 v5 : Value} {D : ChgD} {gs : List ChgD} {us : List Value} {w5 : World} (h : Own.OwnL chgK W base 88 v [D] [v3]) (k : Own.OwnL chgK W w3.heap.size 88 v4 gs us) (h3 : Own.SubO w3 base v3 D.subs) (hb : base ≤ w3.heap.size)
    (hrow : w5.ownsRow base 88 4 v5 (1 + gs.length) (Own.flat chgK [D] [v3] ++ Own.flat chgK gs us)) (hg : W.grownBy w5 v.ownBlock) : ChgsO w5 base v5 (D :: gs) :=
  ⟨[v3] ++ us, OwnL.app h (k.base hb) (fun a ha c hc => by
    rw [List.mem_singleton.1 ha]
    obtain ⟨j, hj, rfl⟩ := Own.mem_getD hc
    exact Own.apart_new h3 (k.subs j (by rw [← k.len]; exact hj)) (Nat.le_refl _)) hrow hg (by decide)⟩
/-- The changes that a node's change and the changes of its nodes in the indexes make. -/
theorem del_eq {fs : List NodeD} {b : TableD} {key : ByteArray} : delB fs b key = if (rowAtOfB fs b key).1 = 0 then (0, nodeChg 2 b.glob (rowAtOfB fs b key).2 :: idxsC 2 b (rowAtOfB fs b key).2) else ((rowAtOfB fs b key).1, []) := rfl
end Go.Proofs.YtfpcjhajjejpdaaGreatDoor
namespace Go.Proofs.YtfpcjhajjejpdaaGreatDoor
open Go.RowKit
set_option linter.unusedVariables false

set_option maxRecDepth 100000 in
set_option maxHeartbeats 16000000 in
theorem DeleteRow_any (A : Option Addr) (n c : Nat) (b0 b1 b2 b3 : Value) (fs : List NodeD) (b : TableD) (key : ByteArray) (w : World) (htab : tabT w) (ht : Nodes w w.heap.size A n fs) (hb : TableR w w.heap.size b0 b1 b2 b3 b) (hts : smallNs fs) (hbs : b.small) (hk : key.size ≤ 1048576) :
    Calls Tryz.prog 30 #[.agg #[.slice A n c], .agg #[b0, b1, b2, b3], .string key] w (ChgsPost (delB fs b key) w) := by
  obtain ⟨i0, hi0, hz0, hz1, hz2⟩ := info_parts infoChgD
  have HK1 := Lib.hid (fun W (hW : Below w.heap.size w W) => RowAt_any A n c b0 b1 b2 b3 fs b key W (tab_later htab hW) (ht.later hW) (hb.later hW) hts hbs hk)
  have HRT := Lib.hid (rowAt_right (fs := fs) (b := b) (key := key))
  have HKN : Hid (tabB b = true → ∀ rs r0, rowB b.cols rs = true → ∀ W (hW : Below w.heap.size w W), RowR W W.heap.size r0 rs → Calls Tryz.prog 76 #[.agg #[b0, b1, b2, b3], .int .i64 2, .agg #[r0]] W (ChgPost (nodeChg 2 b.glob rs) W)) := fun h1 rs r0 h2 W hW hr => by
    obtain ⟨f1, f2, f3, f4, f5⟩ := tab_facts h1
    obtain ⟨g1, g2⟩ := row_facts h2
    exact rowNode_any b0 b1 b2 b3 r0 b rs 2 W (hb.later hW) hr ⟨by omega, fun s hs => by have := g2 s hs; omega⟩ (by omega)
  have HKX : Hid (tabB b = true → ∀ rs r0, rowB b.cols rs = true → ∀ W (hW : Below w.heap.size w W), RowR W W.heap.size r0 rs → Calls Tryz.prog 77 #[.agg #[b0, b1, b2, b3], .int .i64 2, .agg #[r0]] W (ChgsOnly (idxsC 2 b rs) W)) := fun h1 rs r0 h2 W hW hr => by
    obtain ⟨f1, f2, f3, f4, f5⟩ := tab_facts h1
    obtain ⟨g1, g2⟩ := row_facts h2
    exact indexNodes_any b0 b1 b2 b3 r0 b rs 2 W (hb.later hW) hr hbs (by omega) (fun x hx => ⟨by have := f5 x hx; omega, by have := (placeI_bd b.cols x).2; have := f5 x hx; omega⟩)
  have HIL : Hid (tabB b = true → ∀ rs, (idxsC 2 b rs).length ≤ 1000) := fun h1 rs => by
    have f := tab_facts h1
    have := idxs_len (b := b) (r := rs) 2
    omega
  have HR := Lib.hid (del_eq (fs := fs) (b := b) (key := key))
  obtain ⟨rfl, rfl, ⟨A2, n2, p2, rfl, s2, k2⟩, ⟨A3, n3, p3, rfl, s3, k3⟩⟩ := hb
  clear s2 s3 ht hts hbs hk
  generalize delB fs b key = RR at *
  generalize rowAtOfB fs b key = rt at *
  obtain ⟨code, rs⟩ := rt
  obtain ⟨WB, hWB⟩ : ∃ WB, WB = (w.alloc (.cells #[.slice A n c] 26)).alloc (.cells #[.string b.name, .string b.glob, .slice A2 n2 p2, .slice A3 n3 p3] 29) := ⟨_, rfl⟩
  have HX0 : Hid (Blk WB w.heap.size 26 #[.slice A n c]) := by subst hWB; exact heap_two0 _ _ _
  have HX1 : Hid (Blk WB (w.heap.size + 1) 29 #[.string b.name, .string b.glob, .slice A2 n2 p2, .slice A3 n3 p3]) := by subst hWB; exact heap_two1 _ _ _
  have HBB : Hid (Below w.heap.size w WB) := by subst hWB; exact (Below.new _ _).later (Below.new _ _)
  have hwz := HBB.out.size
  have x0 := HX0.out.cell 0
  have y0 := HX1.out.cell 0
  have y1 := HX1.out.cell 1
  have y2 := HX1.out.cell 2
  have y3 := HX1.out.cell 3
  simp at x0 y0 y1 y2 y3
  go_enter Tryz.func30, Tryz.ntmps30
  go_wp2_with fail
  rw [← hWB]
  clear hWB
  refine (HK1.out _ HBB.out).mono ?_
  rintro e w1 ⟨v, rfl, hsub, hb1⟩
  obtain ⟨A5, cap5, e5, hcap5, hrs⟩ := Own.SubO.strs hsub
  subst e5
  have HRS := Lib.hid hrs
  have HB1 := Lib.hid (HBB.out.later hb1)
  have HY1 := Lib.hid (HX1.out.later hb1 HX1.out.lt)
  clear hb1 hsub hrs x0 y0 y1 y2 y3 HK1 HX0
  dsimp only at HRS hcap5
  by_cases hc : code = 0
  · have hrt := HRT.out hc
    have HE : Hid (RR = (0, nodeChg 2 b.glob rs :: idxsC 2 b rs)) := by unfold Hid; rw [HR.out, if_pos hc]
    obtain ⟨hr1, hr2⟩ := hrt
    obtain ⟨WX, hWX⟩ : ∃ WX, WX = w1.alloc (.cells #[.slice A5 rs.length cap5] 40) := ⟨_, rfl⟩
    have HQ : Hid (Blk WX w1.heap.size 40 #[.slice A5 rs.length cap5]) := by subst hWX; exact heap_alloc_new _ _
    have HBX : Hid (Below w.heap.size w WX) := by subst hWX; exact HB1.out.later (Below.new _ _)
    have HYX : Hid (Blk WX (w.heap.size + 1) 29 #[.string b.name, .string b.glob, .slice A2 n2 p2, .slice A3 n3 p3]) := by subst hWX; exact HY1.out.alloc _
    have HRX : Hid (∀ W, Below WX.heap.size WX W → RowR W W.heap.size (.slice A5 rs.length cap5) rs) := fun W hW => by
      have h1 : Strs WX WX.heap.size A5 rs.length rs := by subst hWX; exact HRS.out.later (Below.new _ _)
      exact ⟨A5, _, cap5, rfl, h1.later hW, hcap5⟩
    have HKn := Lib.hid (fun W (hW : Below WX.heap.size WX W) => HKN.out hr1 rs _ hr2 W (HBX.out.later hW) (HRX.out W hW))
    have HKx := Lib.hid (fun W (hW : Below WX.heap.size WX W) => HKX.out hr1 rs _ hr2 W (HBX.out.later hW) (HRX.out W hW))
    have HSX : Hid (∀ W, Below WX.heap.size WX W → (W.cell? ⟨w.heap.size + 1, 0, none⟩ = some (.string b.name) ∧ W.cell? ⟨w.heap.size + 1, 1, none⟩ = some (.string b.glob) ∧ W.cell? ⟨w.heap.size + 1, 2, none⟩ = some (.slice A2 n2 p2) ∧ W.cell? ⟨w.heap.size + 1, 3, none⟩ = some (.slice A3 n3 p3) ∧ W.cell? ⟨w1.heap.size, 0, none⟩ = some (.slice A5 rs.length cap5))) := fun W hW => ⟨(HYX.out.later hW HYX.out.lt).at 0 rfl, (HYX.out.later hW HYX.out.lt).at 1 rfl, (HYX.out.later hW HYX.out.lt).at 2 rfl, (HYX.out.later hW HYX.out.lt).at 3 rfl, (HQ.out.later hW HQ.out.lt).at 0 rfl⟩
    have hil := HIL.out hr1 rs
    have hwx := HBX.out.size
    clear HKN HKX HRT HIL HR hr1 hr2 HRX HB1 HY1 HRS
    subst hc
    generalize nodeChg 2 b.glob rs = D at *
    generalize idxsC 2 b rs = gs at *
    generalize b.name = nm at *
    generalize b.glob = gl at *
    go_wp2_with fail
    rw [← hWX]
    clear hWX
    go_region_held3 (fun W => W.cell? ⟨w.heap.size + 1, 0, none⟩ = some (.string nm) ∧ W.cell? ⟨w.heap.size + 1, 1, none⟩ = some (.string gl) ∧ W.cell? ⟨w.heap.size + 1, 2, none⟩ = some (.slice A2 n2 p2) ∧ W.cell? ⟨w.heap.size + 1, 3, none⟩ = some (.slice A3 n3 p3) ∧ W.cell? ⟨w1.heap.size, 0, none⟩ = some (.slice A5 rs.length cap5))
      (first | exact HSX.out _ H5.out | exact HSX.out _ H4.out | exact HSX.out _ (H4.out.later (Below.new _ _)) | exact HSX.out _ H3.out | exact HSX.out _ (H3.out.later (Below.new _ _)) | exact HSX.out _ (Below.refl _ _).drew | go_keep)
      (first
        | (go_at_call 76
           refine (HKn.out _ (by exact (Below.refl _ _).drew)).mono ?_
           rintro e w3 ⟨v3, rfl, hs3, hb3'⟩
           obtain ⟨A6, cap6, rfl, _, _, _⟩ := Own.own_slice hs3
           have H3 := Lib.hid (undrew hb3')
           have HV3 : Hid (Own.SubO w3 WX.heap.size (.slice A6 D.subs.length cap6) D.subs) := hs3
           have hw3 := H3.out.size
           clear hs3 hb3')
        | (go_at_call 77
           with_reducible refine (HKx.out w3 ?_).mono ?_
           · exact H3.out
           rintro e w4 ⟨v4, rfl, ⟨us, hown4⟩, hb4⟩
           obtain ⟨A4, cap4, rfl, _, _, _⟩ := Own.own_slice hown4.row
           have H4 := Lib.hid (H3.out.later hb4)
           have hw4 := hb4.size
           have HO4 : Hid (Own.OwnL chgK (w4.alloc (.cells #[.int .i64 D.kind, .string D.name, .slice A6 D.subs.length cap6, .string D.val] 88)) w3.heap.size 88 (.slice A4 gs.length cap4) gs us) := hown4.later (Below.new _ _)
           have HLT : Hid (Own.OwnL chgK (w4.alloc (.cells #[.int .i64 D.kind, .string D.name, .slice A6 D.subs.length cap6, .string D.val] 88)) WX.heap.size 88 (.slice (some ⟨w4.heap.size, 0, none⟩) 1 1) [D] [.slice A6 D.subs.length cap6]) := chgs_one (sub_later HV3.out hb4) (by omega)
           have HBE := Lib.hid (H4.out.later (Below.new w4 (.cells #[.int .i64 D.kind, .string D.name, .slice A6 D.subs.length cap6, .string D.val] 88)))
           clear hb4 hown4)
        | (go_at_call 77
           with_reducible refine (HKx.out (w3.alloc (.cells #[.int .i64 D.kind, .string D.name, .slice A6 D.subs.length cap6, .string D.val] 88)) ?_).mono ?_
           · exact H3.out.later (Below.new _ _)
           rintro e w4 ⟨v4, rfl, ⟨us, hown4⟩, hb4⟩
           obtain ⟨A4, cap4, rfl, _, _, _⟩ := Own.own_slice hown4.row
           have H4 := Lib.hid ((H3.out.later (Below.new w3 (.cells #[.int .i64 D.kind, .string D.name, .slice A6 D.subs.length cap6, .string D.val] 88))).later hb4)
           have hw4 := hb4.size
           have HO4 : Hid (Own.OwnL chgK w4 w3.heap.size 88 (.slice A4 gs.length cap4) gs us) := hown4.base (by simp)
           have HLT : Hid (Own.OwnL chgK w4 WX.heap.size 88 (.slice (some ⟨w3.heap.size, 0, none⟩) 1 1) [D] [.slice A6 D.subs.length cap6]) := (chgs_one HV3.out (by omega)).later hb4
           have HBE := H4
           simp at hw4
           clear hb4 hown4)
        | (refine step_append_any _ (by rfl) _ _ _ (by rfl) WX.heap.size 88 i0 _ 4 64 Tryz.underlying61 hi0 hz0 hz1 hz2 rfl (by omega) _ 1 (Own.flat chgK [D] [.slice A6 D.subs.length cap6]) (by rfl) (by exact HLT.out.row)
              _ A4 gs.length cap4 (Own.flat chgK gs us) (by rfl) (by exact Reads.of_own HO4.out.row) (by exact ownC_one HO4.out)
              (by unfold maxLen; omega) (by omega) (by first | omega | (simp; omega)) ?_
           intro v5 w5 hown5 hgrow5 _
           have HC5 := Lib.hid (OwnL.two HLT.out HO4.out HV3.out hw3 hown5 hgrow5)
           have H5 : Hid (Below WX.heap.size WX w5) := HBE.out.grown hgrow5 (by first | omega | (simp; omega)) (fun g hg => (World.ownsRow.lt HLT.out.row g hg).1)
           clear hown5 hgrow5))
    all_goals
      obtain ⟨A7, cap7, rfl, _, _⟩ := HC5.out.reads
      go_wp2_with fail
      refine bodyPost_ret (v := .tuple #[.slice A7 _ cap7, .int .i64 0]) (by simp [results, Tryz.results30, go_sem]; try first | exact rfl | exact ⟨rfl, rfl⟩) rfl ?_
      exact ⟨_, by rw [HE.out], by rw [HE.out]; exact HC5.out.base hwx, HBX.out.later H5.out⟩
  · have HE : Hid (RR = (code, [])) := by unfold Hid; rw [HR.out, if_neg hc]
    have hc2 : (code == (0 : Int)) = false := beq_eq_false_iff_ne.2 hc
    have hc3 : (code != (0 : Int)) = true := by simp [bne, hc2]
    dsimp only
    go_wp2_with fail
    refine bodyPost_ret (v := .tuple #[.slice none 0 0, .int .i64 code]) (by simp [results, Tryz.results30, go_sem]; try first | exact rfl | exact ⟨rfl, rfl⟩) rfl ?_
    exact ⟨_, by rw [HE.out], by rw [HE.out]; exact chgsO_nil _ _, HB1.out.later (Below.new _ _)⟩
end Go.Proofs.YtfpcjhajjejpdaaGreatDoor
namespace Go.Proofs.YtfpcjhajjejpdaaGreatDoor
open Go.RowKit
set_option linter.unusedVariables false

set_option maxHeartbeats 400000 in
theorem ContainsFuncNode_any (g : Nat) (lb : Array Value) (p : NodeD → Bool) (A : Option Addr) (n c : Nat) (fs : List NodeD) (w : World) (h : Nodes w w.heap.size A n fs) (hn : n ≤ 1048576)
    (eg : ∀ args w, (callFunc g args).run Tryz.prog w = .ok (.enter g args) w) (hg : PredNode g lb p fs w) :
    Calls Tryz.prog 74 #[.slice A n c, .func (.func g) #[] lb] w fun e w' => e = .returned (.bool (fs.any p)) ∧ Below w.heap.size w w' := by
  have HK := Lib.hid (IndexFuncNode_any g lb p A n c fs w h hn eg hg)
  have hE := idxF_any p fs 0
  clear h hg eg
  generalize fs.any p = R at *
  generalize idxF p fs 0 = x at *
  have HE := Lib.hid hE
  clear hE
  go_enter Tryz.func74, Tryz.ntmps74
  go_wp2_with fail
  refine HK.out.mono ?_
  rintro e w' ⟨rfl, hb1⟩
  have HB1 := Lib.hid hb1
  clear hb1
  go_wp2_with fail
  go_ret
  exact ⟨ret_bool HE.out, HB1.out⟩
set_option maxRecDepth 100000 in
set_option maxHeartbeats 1000000 in
theorem InsertRow1_any (q rb ro nr cr : Nat) (key : ByteArray) (c0 c1 c2 : Value) (d : NodeD) (w : World) (h : NodeR w w.heap.size c0 c1 c2 d) (h2 : d.subs.length = 2) (hq : w.cell? ⟨q, 0, none⟩ = some (.slice (some ⟨rb, ro, none⟩) nr cr)) (hpos : 0 < nr) (hk : w.cell? ⟨rb, ro, none⟩ = some (.string key)) (hqz : q < w.heap.size) (hrz : rb < w.heap.size) :
    Calls Tryz.prog 75 #[.agg #[c0, c1, c2], .pointer (some ⟨q, 0, none⟩)] w fun e w' => e = .returned (.bool (keyP key d)) ∧ Below w.heap.size w w' := by
  obtain ⟨rfl, ⟨A1, n1, p1, rfl, s1, k1⟩, rfl⟩ := h
  rw [s1.1] at h2
  subst h2
  obtain ⟨b, o, rfl, hb, hc⟩ := s1.2 (by omega)
  have hc1 := hc 1 (by omega)
  have HR : Hid (keyP key d = decide (d.subs.getD 1 ByteArray.empty = key)) := rfl
  clear s1 hc
  generalize keyP key d = R at *
  generalize d.subs.getD 1 ByteArray.empty = sb at *
  generalize d.name = dn at *
  generalize d.val = dv at *
  have hpi : (0 : Int) < (nr : Int) := by omega
  go_enter Tryz.func75, Tryz.ntmps75
  by_cases he : sb = key
  · have HE : Hid (R = true) := by unfold Hid; rw [HR.out, decide_eq_true he]
    subst he
    go_wp2_with fail
    first | go_quiet (fail) | skip
    go_wp2_with fail
    go_ret
    exact ⟨ret_bool (by rw [HE.out]), by first | exact below_drewN (Below.new _ _) _ | exact (Below.new _ _).drew | exact Below.new _ _⟩
  · have HE : Hid (R = false) := by unfold Hid; rw [HR.out, decide_eq_false he]
    have hbe := str_beq he
    go_wp2_with fail
    first | go_quiet (fail) | skip
    go_wp2_with fail
    go_ret
    exact ⟨ret_bool (by rw [HE.out]), by first | exact below_drewN (Below.new _ _) _ | exact (Below.new _ _).drew | exact Below.new _ _⟩
end Go.Proofs.YtfpcjhajjejpdaaGreatDoor
namespace Go.Proofs.YtfpcjhajjejpdaaGreatDoor
open Go.RowKit
set_option linter.unusedVariables false

set_option maxRecDepth 100000 in
set_option maxHeartbeats 2000000 in
theorem RowOk_any (b0 b1 b2 b3 r0 : Value) (b : TableD) (r : List ByteArray) (w : World) (hb : TableR w w.heap.size b0 b1 b2 b3 b) (h : RowR w w.heap.size r0 r) (hbs : b.small) (hsm : smallR r) :
    Calls Tryz.prog 73 #[.agg #[b0, b1, b2, b3], .agg #[r0]] w fun e w' => e = .returned (.bool (tabB b && rowB b.cols r)) ∧ Below w.heap.size w w' := by
  have HK1 := Lib.hid (fun W (hW : Below w.heap.size w W) => TableOk_any b0 b1 b2 b3 b W (hb.later hW) hbs)
  have HK2 := Lib.hid (fun (h1 : tabB b = true) W (hW : Below w.heap.size w W) => rowOk_any b0 b1 b2 b3 r0 b r W (hb.later hW) (h.later hW) hsm (by have := (tab_facts h1).2.1; omega))
  obtain ⟨rfl, rfl, ⟨A2, n2, p2, rfl, s2, k2⟩, ⟨A3, n3, p3, rfl, s3, k3⟩⟩ := hb
  obtain ⟨A4, n4, p4, rfl, hrs, k4⟩ := h
  clear s2 s3 hrs hbs hsm
  generalize tabB b = xb at *
  generalize rowB b.cols r = xr at *
  generalize b.name = nm at *
  generalize b.glob = gl at *
  obtain ⟨WB, hWB⟩ : ∃ WB, WB = (w.alloc (.cells #[.string nm, .string gl, .slice A2 n2 p2, .slice A3 n3 p3] 29)).alloc (.cells #[.slice A4 n4 p4] 40) := ⟨_, rfl⟩
  have HX0 : Hid (Blk WB w.heap.size 29 #[.string nm, .string gl, .slice A2 n2 p2, .slice A3 n3 p3]) := by subst hWB; exact heap_two0 _ _ _
  have HX1 : Hid (Blk WB (w.heap.size + 1) 40 #[.slice A4 n4 p4]) := by subst hWB; exact heap_two1 _ _ _
  have HBB : Hid (Below w.heap.size w WB) := by subst hWB; exact (Below.new _ _).later (Below.new _ _)
  go_enter Tryz.func73, Tryz.ntmps73
  go_wp2_with fail
  rw [← hWB]
  clear hWB
  refine (HK1.out _ HBB.out).mono ?_
  rintro e w1 ⟨rfl, hb1⟩
  have HB1 := Lib.hid (HBB.out.later hb1)
  have x0 := (HX0.out.later hb1 HX0.out.lt).cell 0
  have x1 := (HX0.out.later hb1 HX0.out.lt).cell 1
  have x2 := (HX0.out.later hb1 HX0.out.lt).cell 2
  have x3 := (HX0.out.later hb1 HX0.out.lt).cell 3
  have x4 := (HX1.out.later hb1 HX1.out.lt).cell 0
  simp at x0 x1 x2 x3 x4
  clear hb1
  cases xb
  · go_wp2_with fail
    go_ret
    exact ⟨rfl, HB1.out⟩
  · have HK := Lib.hid (HK2.out (by first | rfl | trivial))
    go_wp2_with fail
    refine (HK.out _ HB1.out).mono ?_
    rintro e w2 ⟨rfl, hb2⟩
    have HB2 := Lib.hid (HB1.out.later hb2)
    clear hb2 x0 x1 x2 x3 x4
    go_wp2_with fail
    go_ret
    exact ⟨by simp, HB2.out⟩
end Go.Proofs.YtfpcjhajjejpdaaGreatDoor
