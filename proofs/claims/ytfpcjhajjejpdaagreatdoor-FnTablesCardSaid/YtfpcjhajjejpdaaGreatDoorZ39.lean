/-
  Tables of the program: InsertRow. Laws of tables: c2Big; SameRows at equal rows. Laws of tables: c2Changes at equal changes.
-/
import Derived.Test.YtfpcjhajjejpdaaGreatDoorZ38
import Derived.Test.YtfpcjhajjejpdaaGreatDoorZ32
import Derived.Test.YtfpcjhajjejpdaaGreatDoorZ33
import Derived.Test.YtfpcjhajjejpdaaGreatDoorZ07
import Derived.Test.YtfpcjhajjejpdaaGreatDoorZ25
import Derived.Deep.RegionHeld3
namespace Go.Proofs.YtfpcjhajjejpdaaGreatDoor
open Go.RowKit
set_option linter.unusedVariables false

set_option maxRecDepth 100000 in
set_option maxHeartbeats 16000000 in
theorem InsertRow_any (A : Option Addr) (n c : Nat) (b0 b1 b2 b3 r0 : Value) (fs : List NodeD) (b : TableD) (r : List ByteArray) (w : World) (htab : tabT w) (ht : Nodes w w.heap.size A n fs) (hb : TableR w w.heap.size b0 b1 b2 b3 b) (h : RowR w w.heap.size r0 r) (hts : smallNs fs) (hbs : b.small) (hsm : smallR r) :
    Calls Tryz.prog 24 #[.agg #[.slice A n c], .agg #[b0, b1, b2, b3], .agg #[r0]] w (ChgsPost (insB fs b r) w) := by
  obtain ⟨i0, hi0, hz0, hz1, hz2⟩ := info_parts infoChgD
  have HK1 := Lib.hid (fun W (hW : Below w.heap.size w W) => TreeOk_any A n c fs W (ht.later hW) (tab_later htab hW) hts)
  have HK2 := Lib.hid (fun W (hW : Below w.heap.size w W) => RowOk_any b0 b1 b2 b3 r0 b r W (hb.later hW) (h.later hW) hbs hsm)
  have HK4 := Lib.hid (fun W (hW : Below w.heap.size w W) => rowNodes_any A n c b0 b1 b2 b3 fs b W (ht.later hW) (hb.later hW) hts)
  have HKN : Hid ((tabB b && rowB b.cols r) = true → ∀ W (hW : Below w.heap.size w W), Calls Tryz.prog 76 #[.agg #[b0, b1, b2, b3], .int .i64 1, .agg #[r0]] W (ChgPost (nodeChg 1 b.glob r) W)) := fun h0 W hW => by
    rw [Bool.and_eq_true] at h0
    obtain ⟨f1, f2, f3, f4, f5⟩ := tab_facts h0.1
    obtain ⟨g1, g2⟩ := row_facts h0.2
    exact rowNode_any b0 b1 b2 b3 r0 b r 1 W (hb.later hW) (h.later hW) hsm (by omega)
  have HKX : Hid ((tabB b && rowB b.cols r) = true → ∀ W (hW : Below w.heap.size w W), Calls Tryz.prog 77 #[.agg #[b0, b1, b2, b3], .int .i64 1, .agg #[r0]] W (ChgsOnly (idxsC 1 b r) W)) := fun h0 W hW => by
    rw [Bool.and_eq_true] at h0
    obtain ⟨f1, f2, f3, f4, f5⟩ := tab_facts h0.1
    obtain ⟨g1, g2⟩ := row_facts h0.2
    exact indexNodes_any b0 b1 b2 b3 r0 b r 1 W (hb.later hW) (h.later hW) hbs (by omega) (fun x hx => ⟨by have := f5 x hx; omega, by have := (placeI_bd b.cols x).2; have := f5 x hx; omega⟩)
  have HIL : Hid ((tabB b && rowB b.cols r) = true → (idxsC 1 b r).length ≤ 1000 ∧ 0 < r.length) := fun h0 => by
    rw [Bool.and_eq_true] at h0
    have f := tab_facts h0.1
    obtain ⟨g1, g2⟩ := row_facts h0.2
    have := idxs_len (b := b) (r := r) 1
    omega
  have HL := Lib.hid (rows_len (g := b.glob) hts)
  have H2 := Lib.hid (rows_two (g := b.glob) (fs := fs))
  have HR : Hid (insB fs b r = if (treeB fs && (tabB b && rowB b.cols r)) = true then
    (if 0 ≤ atI (rowsN b.glob fs) (r.getD 0 ByteArray.empty) then (5, []) else if 24 ≤ (rowsN b.glob fs).length then (4, []) else (0, nodeChg 1 b.glob r :: idxsC 1 b r)) else (1, [])) := rfl
  have HAT : Hid (decide (0 ≤ atI (rowsN b.glob fs) (r.getD 0 ByteArray.empty)) = (rowsN b.glob fs).any (keyP (r.getD 0 ByteArray.empty))) := idxF_any (keyP (r.getD 0 ByteArray.empty)) (rowsN b.glob fs) 0
  obtain ⟨rfl, rfl, ⟨A2, n2, p2, rfl, s2, k2⟩, ⟨A3, n3, p3, rfl, s3, k3⟩⟩ := hb
  obtain ⟨A4, n4, p4, rfl, hrs, k4⟩ := h
  have HRS := Lib.hid hrs
  have HRL := Lib.hid hrs.1
  clear s2 s3 ht hts hbs hrs hsm
  generalize insB fs b r = RR at *
  generalize nodeChg 1 b.glob r = D at *
  generalize idxsC 1 b r = gs at *
  generalize treeB fs = xt at *
  generalize (tabB b && rowB b.cols r) = xb at *
  generalize rowsN b.glob fs = ns at *
  generalize b.name = nm at *
  generalize b.glob = gl at *
  obtain ⟨WB, hWB⟩ : ∃ WB, WB = ((w.alloc (.cells #[.slice A n c] 26)).alloc (.cells #[.string nm, .string gl, .slice A2 n2 p2, .slice A3 n3 p3] 29)).alloc (.cells #[.slice A4 n4 p4] 40) := ⟨_, rfl⟩
  have HX0 : Hid (Blk WB w.heap.size 26 #[.slice A n c]) := by subst hWB; exact heap_new0 _ _ _ _
  have HX1 : Hid (Blk WB (w.heap.size + 1) 29 #[.string nm, .string gl, .slice A2 n2 p2, .slice A3 n3 p3]) := by subst hWB; exact heap_new1 _ _ _ _
  have HX2 : Hid (Blk WB (w.heap.size + 1 + 1) 40 #[.slice A4 n4 p4]) := by subst hWB; exact heap_new2 _ _ _ _
  have HBB : Hid (Below w.heap.size w WB) := by subst hWB; exact below_new3 w _ _ _
  have HS1 : Hid (∀ W', Below WB.heap.size WB W' → (W'.cell? ⟨w.heap.size, 0, none⟩ = some (.slice A n c) ∧ W'.cell? ⟨w.heap.size + 1, 0, none⟩ = some (.string nm) ∧ W'.cell? ⟨w.heap.size + 1, 1, none⟩ = some (.string gl) ∧ W'.cell? ⟨w.heap.size + 1, 2, none⟩ = some (.slice A2 n2 p2) ∧ W'.cell? ⟨w.heap.size + 1, 3, none⟩ = some (.slice A3 n3 p3) ∧ W'.cell? ⟨w.heap.size + 1 + 1, 0, none⟩ = some (.slice A4 n4 p4))) := fun W' hW => ⟨(HX0.out.later hW HX0.out.lt).at 0 rfl, (HX1.out.later hW HX1.out.lt).at 0 rfl, (HX1.out.later hW HX1.out.lt).at 1 rfl, (HX1.out.later hW HX1.out.lt).at 2 rfl, (HX1.out.later hW HX1.out.lt).at 3 rfl, (HX2.out.later hW HX2.out.lt).at 0 rfl⟩
  have hz2' := HX2.out.lt
  go_enter Tryz.func24, Tryz.ntmps24
  go_wp2_with fail
  rw [← hWB]
  clear hWB
  refine (HK1.out _ HBB.out).mono ?_
  rintro e w1 ⟨rfl, hb1⟩
  have HB1 := Lib.hid hb1
  clear hb1
  cases xt
  · have HE : Hid (RR = (1, [])) := by unfold Hid; rw [HR.out]; rfl
    go_wp2_with fail
    refine bodyPost_ret (v := .tuple #[.slice none 0 0, .int .i64 1]) (by simp [results, Tryz.results24, go_sem]; try first | exact rfl | exact ⟨rfl, rfl⟩) rfl ?_
    exact ⟨_, by rw [HE.out], by rw [HE.out]; exact chgsO_nil _ _, HBB.out.later HB1.out⟩
  obtain ⟨x0, x1, x2, x3, x4, x5⟩ := HS1.out _ HB1.out
  go_wp2_with fail
  refine (HK2.out _ (HBB.out.later HB1.out)).mono ?_
  rintro e w2 ⟨rfl, hb2⟩
  have HB2 := Lib.hid (HB1.out.later hb2)
  clear hb2 x0 x1 x2 x3 x4 x5
  cases xb
  · have HE : Hid (RR = (1, [])) := by unfold Hid; rw [HR.out]; rfl
    go_wp2_with fail
    refine bodyPost_ret (v := .tuple #[.slice none 0 0, .int .i64 1]) (by simp [results, Tryz.results24, go_sem]; try first | exact rfl | exact ⟨rfl, rfl⟩) rfl ?_
    exact ⟨_, by rw [HE.out], by rw [HE.out]; exact chgsO_nil _ _, HBB.out.later HB2.out⟩
  obtain ⟨hil, hpos⟩ := HIL.out (by first | rfl | trivial)
  have HKN' := Lib.hid (HKN.out (by first | rfl | trivial))
  have HKX' := Lib.hid (HKX.out (by first | rfl | trivial))
  have HRB : Hid (RR = if 0 ≤ atI ns (r.getD 0 ByteArray.empty) then (5, []) else if 24 ≤ ns.length then (4, []) else (0, D :: gs)) := by unfold Hid; rw [HR.out]; rfl
  clear HR HKN HKX HIL HK1 HK2
  rw [HRL.out] at hpos
  obtain ⟨rb, ro, rfl, hrb, hrc⟩ := HRS.out.2 hpos
  have hrb0 := hrc 0 hpos
  rw [Nat.add_zero] at hrb0
  clear hrc
  obtain ⟨x0, x1, x2, x3, x4, x5⟩ := HS1.out _ HB2.out
  go_wp2_with fail
  refine (HK4.out _ (HBB.out.later HB2.out)).mono ?_
  rintro e w4 ⟨v, cs, rfl, ho, hc, hb4⟩
  obtain ⟨A5, cap5, rfl, hcap5, hN5⟩ := nodes_of_row ho rfl hc hb4
  have HB4 := Lib.hid (HB2.out.later hb4)
  have HCF := Lib.hid (ContainsFuncNode_any 75 #[.pointer (some ⟨w.heap.size + 1 + 1, 0, none⟩)] (keyP (r.getD 0 ByteArray.empty)) A5 ns.length cap5 ns w4 hN5 HL.out (enters_of Tryz.func75 (by kernel_rfl) rfl) (fun d hd c0 c1 c2 W hW hr => InsertRow1_any (w.heap.size + 1 + 1) rb ro n4 p4 _ c0 c1 c2 d W hr (H2.out d hd) (HS1.out W (HB4.out.later hW)).2.2.2.2.2 hpos (((HBB.out.later (HB4.out.later hW)).cell (p := ⟨rb, ro, none⟩) hrb).trans hrb0) (Nat.lt_of_lt_of_le hz2' (HB4.out.later hW).size) (Nat.lt_of_lt_of_le hrb (HBB.out.later (HB4.out.later hW)).size)))
  clear hb4 ho hc hN5 x0 x1 x2 x3 x4 x5 HK4
  rw [← HAT.out] at HCF
  have hnl2 := HL.out
  generalize atI ns (r.getD 0 ByteArray.empty) = ix at *
  generalize ns.length = nl at *
  go_wp2_with fail
  refine HCF.out.mono ?_
  rintro e w5 ⟨rfl, hb5⟩
  have HB5 := Lib.hid (HB4.out.later hb5)
  clear hb5 HCF
  by_cases h0 : 0 ≤ ix
  · have HE : Hid (RR = (5, [])) := by unfold Hid; rw [HRB.out, if_pos h0]
    have hd0 := decide_eq_true h0
    rw [hd0]
    go_wp2_with fail
    refine bodyPost_ret (v := .tuple #[.slice none 0 0, .int .i64 5]) (by simp [results, Tryz.results24, go_sem]; try first | exact rfl | exact ⟨rfl, rfl⟩) rfl ?_
    exact ⟨_, by rw [HE.out], by rw [HE.out]; exact chgsO_nil _ _, HBB.out.later HB5.out⟩
  have hd0 := decide_eq_false h0
  rw [hd0]
  by_cases h24 : 24 ≤ nl
  · have HE : Hid (RR = (4, [])) := by unfold Hid; rw [HRB.out, if_neg h0, if_pos h24]
    go_wp2_with fail
    refine bodyPost_ret (v := .tuple #[.slice none 0 0, .int .i64 4]) (by simp [results, Tryz.results24, go_sem]; try first | exact rfl | exact ⟨rfl, rfl⟩) rfl ?_
    exact ⟨_, by rw [HE.out], by rw [HE.out]; exact chgsO_nil _ _, HBB.out.later HB5.out⟩
  have HE : Hid (RR = (0, D :: gs)) := by unfold Hid; rw [HRB.out, if_neg h0, if_neg h24]
  obtain ⟨WX, hWX⟩ : ∃ WX, WX = w5 := ⟨_, rfl⟩
  subst hWX
  have HBX := Lib.hid (HBB.out.later HB5.out)
  have HKn := Lib.hid (fun W (hW : Below WX.heap.size WX W) => HKN'.out W (HBX.out.later hW))
  have HKx := Lib.hid (fun W (hW : Below WX.heap.size WX W) => HKX'.out W (HBX.out.later hW))
  have HSX := Lib.hid (fun W (hW : Below WX.heap.size WX W) => (HS1.out W (HB5.out.later hW)).2)
  have hwx := HBX.out.size
  go_wp2_with fail
  go_region_held3 (fun W => W.cell? ⟨w.heap.size + 1, 0, none⟩ = some (.string nm) ∧ W.cell? ⟨w.heap.size + 1, 1, none⟩ = some (.string gl) ∧ W.cell? ⟨w.heap.size + 1, 2, none⟩ = some (.slice A2 n2 p2) ∧ W.cell? ⟨w.heap.size + 1, 3, none⟩ = some (.slice A3 n3 p3) ∧ W.cell? ⟨w.heap.size + 1 + 1, 0, none⟩ = some (.slice (some ⟨rb, ro, none⟩) n4 p4))
    (first | exact HSX.out _ H5.out | exact HSX.out _ H4.out | exact HSX.out _ (H4.out.later (Below.new _ _)) | exact HSX.out _ H3.out | exact HSX.out _ (H3.out.later (Below.new _ _)) | exact HSX.out _ (Below.refl _ _).drew | go_keep)
    (first
      | (go_at_call 76
         refine (HKn.out _ (by exact (Below.refl _ _).drew)).mono ?_
         rintro e w3 ⟨v3, rfl, hs3, hb3'⟩
         obtain ⟨A6, cap6, rfl, _, _, _⟩ := Own.own_slice hs3
         have H3 := Lib.hid (undrew hb3')
         have HV3 : Hid (Own.SubO w3 WX.heap.size (.slice A6 D.subs.length cap6) D.subs) := hs3
         have hw3 := H3.out.size
         clear hs3 hb3')
      | (go_at_call 77
         with_reducible refine (HKx.out w3 ?_).mono ?_
         · exact H3.out
         rintro e w4 ⟨v4, rfl, ⟨us, hown4⟩, hb4⟩
         obtain ⟨A4, cap4, rfl, _, _, _⟩ := Own.own_slice hown4.row
         have H4 := Lib.hid (H3.out.later hb4)
         have hw4 := hb4.size
         have HO4 : Hid (Own.OwnL chgK (w4.alloc (.cells #[.int .i64 D.kind, .string D.name, .slice A6 D.subs.length cap6, .string D.val] 88)) w3.heap.size 88 (.slice A4 gs.length cap4) gs us) := hown4.later (Below.new _ _)
         have HLT : Hid (Own.OwnL chgK (w4.alloc (.cells #[.int .i64 D.kind, .string D.name, .slice A6 D.subs.length cap6, .string D.val] 88)) WX.heap.size 88 (.slice (some ⟨w4.heap.size, 0, none⟩) 1 1) [D] [.slice A6 D.subs.length cap6]) := chgs_one (sub_later HV3.out hb4) (by omega)
         have HBE := Lib.hid (H4.out.later (Below.new w4 (.cells #[.int .i64 D.kind, .string D.name, .slice A6 D.subs.length cap6, .string D.val] 88)))
         clear hb4 hown4)
      | (go_at_call 77
         with_reducible refine (HKx.out (w3.alloc (.cells #[.int .i64 D.kind, .string D.name, .slice A6 D.subs.length cap6, .string D.val] 88)) ?_).mono ?_
         · exact H3.out.later (Below.new _ _)
         rintro e w4 ⟨v4, rfl, ⟨us, hown4⟩, hb4⟩
         obtain ⟨A4, cap4, rfl, _, _, _⟩ := Own.own_slice hown4.row
         have H4 := Lib.hid ((H3.out.later (Below.new w3 (.cells #[.int .i64 D.kind, .string D.name, .slice A6 D.subs.length cap6, .string D.val] 88))).later hb4)
         have hw4 := hb4.size
         have HO4 : Hid (Own.OwnL chgK w4 w3.heap.size 88 (.slice A4 gs.length cap4) gs us) := hown4.base (by simp)
         have HLT : Hid (Own.OwnL chgK w4 WX.heap.size 88 (.slice (some ⟨w3.heap.size, 0, none⟩) 1 1) [D] [.slice A6 D.subs.length cap6]) := (chgs_one HV3.out (by omega)).later hb4
         have HBE := H4
         simp at hw4
         clear hb4 hown4)
      | (refine step_append_any _ (by rfl) _ _ _ (by rfl) WX.heap.size 88 i0 _ 4 64 Tryz.underlying61 hi0 hz0 hz1 hz2 rfl (by omega) _ 1 (Own.flat chgK [D] [.slice A6 D.subs.length cap6]) (by rfl) (by exact HLT.out.row)
            _ A4 gs.length cap4 (Own.flat chgK gs us) (by rfl) (by exact Reads.of_own HO4.out.row) (by exact ownC_one HO4.out)
            (by unfold maxLen; omega) (by omega) (by first | omega | (simp; omega)) ?_
         intro v5 w5 hown5 hgrow5 _
         have HC5 := Lib.hid (OwnL.two HLT.out HO4.out HV3.out hw3 hown5 hgrow5)
         have H5 : Hid (Below WX.heap.size WX w5) := HBE.out.grown hgrow5 (by first | omega | (simp; omega)) (fun g hg => (World.ownsRow.lt HLT.out.row g hg).1)
         clear hown5 hgrow5))
  all_goals
    obtain ⟨A7, cap7, rfl, _, _⟩ := HC5.out.reads
    go_wp2_with fail
    refine bodyPost_ret (v := .tuple #[.slice A7 _ cap7, .int .i64 0]) (by simp [results, Tryz.results24, go_sem]; try first | exact rfl | exact ⟨rfl, rfl⟩) rfl ?_
    exact ⟨_, by rw [HE.out], by rw [HE.out]; exact HC5.out.base hwx, HBX.out.later H5.out⟩
end Go.Proofs.YtfpcjhajjejpdaaGreatDoor
namespace Go.Proofs.YtfpcjhajjejpdaaGreatDoor
open Go.RowKit
set_option linter.unusedVariables false

theorem c2Big_any (A : Option Addr) (n c : Nat) (w : World) (hn : n ≤ 9223372036854775807) :
    Calls Tryz.prog 7 #[.slice A n c, .slice none 0 0] w fun e w' => e = .returned (.bool (decide (1048576 < n))) ∧ w = w' := by
  by_cases h : 1048576 < n
  all_goals
    go_enter Tryz.func7, Tryz.ntmps7
    go_wp2_with fail
    go_ret
    exact ⟨ret_bool (by first | (simp [h]; done) | (simp [h]; omega)), rfl⟩
theorem getD_memR (rs : List (List ByteArray)) (k : Nat) (h : k < rs.length) : rs.getD k default ∈ rs := by
  rw [List.getD_eq_getElem?_getD, List.getElem?_eq_getElem h]; simp
set_option maxRecDepth 100000 in
set_option maxHeartbeats 4000000 in
theorem SameRows_same (A A' : Option Addr) (n c c' : Nat) (rs : List (List ByteArray)) (w : World) (h : RowsRd w w.heap.size A n rs) (h' : RowsRd w w.heap.size A' n rs) (hn : n ≤ 1048576) (hsm : ∀ r ∈ rs, r.length ≤ 1048576) :
    Calls Tryz.prog 11 #[.slice A n c, .slice A' n c'] w fun e w' => e = .returned (.bool true) ∧ Below w.heap.size w w' := by
  have H1 := Lib.hid h
  have H2 := Lib.hid h'
  have HL := Lib.hid h.1
  have HZ := Lib.hid hsm
  clear h h' hsm
  go_enter Tryz.func11, Tryz.ntmps11
  go_wp2_with fail
  go_loopw [5] (fun i wr => ∃ k : Nat, k ≤ n ∧ i = .int .i64 k ∧ Below w.heap.size w wr) (fun i _ => n - (intOf i).toNat)
  case atStart => exact ⟨0, Nat.zero_le _, rfl, Below.refl _ _⟩
  case round =>
    obtain ⟨k, hk, rfl, hb⟩ := hrel
    have HB := Lib.hid hb
    clear hb
    by_cases hlt : k < n
    · obtain ⟨b1, o1, rfl, hb1, hc1⟩ := (H1.out.later HB.out).2 (by omega)
      obtain ⟨b2, o2, rfl, hb2, hc2⟩ := (H2.out.later HB.out).2 (by omega)
      obtain ⟨v1, k1, A1, n1, p1, rfl, s1, q1⟩ := hc1 k hlt
      obtain ⟨v2, k2, A2, n2, p2, rfl, s2, q2⟩ := hc2 k hlt
      have hz := HZ.out _ (getD_memR rs k (by rw [HL.out]; exact hlt))
      have HK := Lib.hid (fun W (hW : Below wr.heap.size wr W) => l24Texts_any A1 A2 n1 p1 n2 p2 _ _ W (s1.later hW) (s2.later hW) (by rw [← s1.1]; exact hz) (by rw [← s2.1]; exact hz))
      have HEQ : Hid (eqS (rs.getD k default) (rs.getD k default) = true) := Own.eqS_same _
      clear hc1 hc2 s1 s2 hz
      generalize rs.getD k default = r at *
      have hki : (k : Int) < (n : Int) := by omega
      go_wp2_with fail
      go_region_held3 (fun w' => w'.cell? ⟨b1, o1 + k, none⟩ = some (.slice A1 n1 p1) ∧ w'.cell? ⟨b2, o2 + k, none⟩ = some (.slice A2 n2 p2))
        (first | with_reducible exact ⟨k1, k2⟩ | exact ⟨cell_later H5.out k1, cell_later H5.out k2⟩ | go_keep)
        ((go_at_call 51
          refine (HK.out _ (by exact (Below.refl _ _).drew)).mono ?_
          rintro e w3 ⟨he, qn, rfl⟩
          have H5 : Hid (Below wr.heap.size wr (wr.drew.drewN qn)) := below_drewN (Below.refl _ _).drew _
          rw [HEQ.out] at he
          subst he))
      go_wp2_with fail
      go_roundw
      case rel => exact ⟨k + 1, by omega, by go_num, below_drewN HB.out _⟩
      case measure => simp [intOf]; omega
    · obtain rfl : k = n := by omega
      go_wp2_with fail
      go_ret
      exact ⟨rfl, HB.out⟩
end Go.Proofs.YtfpcjhajjejpdaaGreatDoor
namespace Go.Proofs.YtfpcjhajjejpdaaGreatDoor
open Go.RowKit
set_option linter.unusedVariables false

set_option maxRecDepth 100000 in
set_option maxHeartbeats 16000000 in
theorem c2Changes_same (A A' : Option Addr) (n c c' : Nat) (cs : List ChgD) (w : World) (h : Chgs w w.heap.size A n cs) (h' : Chgs w w.heap.size A' n cs) (hn : n ≤ 1048576) (hsm : ∀ d ∈ cs, d.small) :
    Calls Tryz.prog 26 #[.slice A n c, .slice A' n c'] w fun e w' => e = .returned (.bool true) ∧ Below w.heap.size w w' := by
  have H1 := Lib.hid h
  have H2 := Lib.hid h'
  have HL := Lib.hid h.1
  have HZ := Lib.hid hsm
  clear h h' hsm
  go_enter Tryz.func26, Tryz.ntmps26
  go_wp2_with fail
  go_loopw [5] (fun i wr => ∃ k : Nat, k ≤ n ∧ i = .int .i64 k ∧ Below w.heap.size w wr) (fun i _ => n - (intOf i).toNat)
  case atStart => exact ⟨0, Nat.zero_le _, rfl, Below.refl _ _⟩
  case round =>
    obtain ⟨k, hk, rfl, hb⟩ := hrel
    have HB := Lib.hid hb
    clear hb
    by_cases hlt : k < n
    · obtain ⟨b1, o1, rfl, hb1, hc1⟩ := (H1.out.later HB.out).2 (by omega)
      obtain ⟨b2, o2, rfl, hb2, hc2⟩ := (H2.out.later HB.out).2 (by omega)
      obtain ⟨x0, x1, x2, x3, k0, k1, k2, k3, rfl, rfl, ⟨A1, n1, p1, rfl, s1, q1⟩, rfl⟩ := hc1 k hlt
      obtain ⟨y0, y1, y2, y3, l0, l1, l2, l3, rfl, rfl, ⟨A2, n2, p2, rfl, s2, q2⟩, rfl⟩ := hc2 k hlt
      have hz := (HZ.out _ (getD_memC cs k (by rw [HL.out]; exact hlt))).2.1.1
      have HK := Lib.hid (fun W (hW : Below wr.heap.size wr W) => SameSubs_any A1 A2 n1 p1 n2 p2 _ _ W (s1.later hW) (s2.later hW) (by rw [← s1.1]; exact hz) (by rw [← s2.1]; exact hz))
      have HEQ : Hid (eqS (cs.getD k default).subs (cs.getD k default).subs = true) := Own.eqS_same _
      clear hc1 hc2 s1 s2 hz
      generalize cs.getD k default = d at *
      obtain ⟨kd, nm, ss, vl⟩ := d
      dsimp only at k0 k1 k2 k3 l0 l1 l2 l3 HK HEQ
      have hki : (k : Int) < (n : Int) := by omega
      go_wp2_with fail
      go_region_held3 (fun w' => w'.cell? ⟨b1, o1 + k * 4, none⟩ = some (.int .i64 kd) ∧ w'.cell? ⟨b1, o1 + k * 4 + 1, none⟩ = some (.string nm) ∧ w'.cell? ⟨b1, o1 + k * 4 + 2, none⟩ = some (.slice A1 n1 p1) ∧ w'.cell? ⟨b1, o1 + k * 4 + 3, none⟩ = some (.string vl) ∧
          w'.cell? ⟨b2, o2 + k * 4, none⟩ = some (.int .i64 kd) ∧ w'.cell? ⟨b2, o2 + k * 4 + 1, none⟩ = some (.string nm) ∧ w'.cell? ⟨b2, o2 + k * 4 + 2, none⟩ = some (.slice A2 n2 p2) ∧ w'.cell? ⟨b2, o2 + k * 4 + 3, none⟩ = some (.string vl))
        (first | with_reducible exact ⟨k0, k1, k2, k3, l0, l1, l2, l3⟩ | exact ⟨cell_later H5.out k0, cell_later H5.out k1, cell_later H5.out k2, cell_later H5.out k3, cell_later H5.out l0, cell_later H5.out l1, cell_later H5.out l2, cell_later H5.out l3⟩ | go_keep)
        ((go_at_call 82
          refine (HK.out _ (by exact (Below.refl _ _).drew)).mono ?_
          rintro e w3 ⟨he, qn, rfl⟩
          have H5 : Hid (Below wr.heap.size wr (wr.drew.drewN qn)) := below_drewN (Below.refl _ _).drew _
          rw [HEQ.out] at he
          subst he))
      go_wp2_with fail
      go_roundw
      case rel => exact ⟨k + 1, by omega, by go_num, below_drewN HB.out _⟩
      case measure => simp [intOf]; omega
    · obtain rfl : k = n := by omega
      go_wp2_with fail
      go_ret
      exact ⟨rfl, HB.out⟩
end Go.Proofs.YtfpcjhajjejpdaaGreatDoor
