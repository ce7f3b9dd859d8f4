/-
  Plans of the program: the row with a key: just what the reference's l29RowAt makes. Tables of the program: RowAt.
-/
import Derived.Test.YtfpcjhajjejpdaaGreatDoorZ29
import Derived.Test.YtfpcjhajjejpdaaGreatDoorZ20
import Derived.Test.YtfpcjhajjejpdaaGreatDoorZ12
import Derived.Test.YtfpcjhajjejpdaaGreatDoorZ15
import Derived.Test.YtfpcjhajjejpdaaGreatDoorZ33
import Derived.Test.YtfpcjhajjejpdaaGreatDoorZ13
import Derived.Test.YtfpcjhajjejpdaaGreatDoorZ28
import Derived.Test.YtfpcjhajjejpdaaGreatDoorZ32
import Derived.Test.YtfpcjhajjejpdaaGreatDoorZ18
import Derived.Test.YtfpcjhajjejpdaaGreatDoorZ00
import Derived.Deep.AppendLies
import Derived.Deep.DeepCutAuto
import Derived.Deep.RegionHeld3
namespace Go.Proofs.YtfpcjhajjejpdaaGreatDoor
open Go.RowKit
set_option linter.unusedVariables false

set_option maxRecDepth 100000 in
set_option maxHeartbeats 4000000 in
theorem rowAt_any (A : Option Addr) (n c : Nat) (b0 b1 b2 b3 : Value) (fs : List NodeD) (b : TableD) (key : ByteArray) (w : World) (ht : Nodes w w.heap.size A n fs) (hb : TableR w w.heap.size b0 b1 b2 b3 b) (hts : smallNs fs) (htr : treeB fs = true) (hpos : 0 < b.cols.length) (hn5 : b.cols.length ≤ 5) (hk : key.size ≤ 1048576) :
    Calls Tryz.prog 53 #[.agg #[.slice A n c], .agg #[b0, b1, b2, b3], .string key] w (RowAtPost (rowAtB b.cols (rowsN b.glob fs) key) w) := by
  have HK3 := Lib.hid (fun W (hW : Below w.heap.size w W) => rowNodes_any A n c b0 b1 b2 b3 fs b W (ht.later hW) (hb.later hW) hts)
  have HKU := Lib.hid (fun W (hW : Below w.heap.size w W) val hv => unpacked_any b0 b1 b2 b3 b key val W (hb.later hW) hpos hn5 hk hv)
  have HL := Lib.hid (rows_len (g := b.glob) hts)
  have HNV : Hid (∀ d ∈ rowsN b.glob fs, d.subs.length = 2 ∧ d.val.size ≤ 64) := fun d hd => ⟨rows_two d hd, val_small htr d (rows_mem hd)⟩
  have HR : Hid (rowAtB b.cols (rowsN b.glob fs) key = if idxF (keyP key) (rowsN b.glob fs) 0 < 0 then (3, []) else (codeU (unpackB b.cols key ((rowsN b.glob fs).getD (idxF (keyP key) (rowsN b.glob fs) 0).toNat default).val), (unpackB b.cols key ((rowsN b.glob fs).getD (idxF (keyP key) (rowsN b.glob fs) 0).toNat default).val).getD [])) := rfl
  obtain ⟨rfl, rfl, ⟨A2, n2, p2, rfl, s2, k2⟩, ⟨A3, n3, p3, rfl, s3, k3⟩⟩ := hb
  clear s2 s3 ht hts htr hpos hn5 hk
  generalize rowAtB b.cols (rowsN b.glob fs) key = R at *
  generalize rowsN b.glob fs = ns at *
  generalize hup : unpackB b.cols key = up at *
  clear hup
  generalize b.name = nm at *
  generalize b.glob = gl at *
  have HB0 := Lib.hid (below_new3 w (.cells #[.slice A n c] 26) (.cells #[.string nm, .string gl, .slice A2 n2 p2, .slice A3 n3 p3] 29) (.cells #[.slice none 0 0] 40))
  have HX1 := Lib.hid (heap_new1 w (.cells #[.slice A n c] 26) (.cells #[.string nm, .string gl, .slice A2 n2 p2, .slice A3 n3 p3] 29) (.cells #[.slice none 0 0] 40))
  have HX2 := Lib.hid (heap_new2 w (.cells #[.slice A n c] 26) (.cells #[.string nm, .string gl, .slice A2 n2 p2, .slice A3 n3 p3] 29) (.cells #[.slice none 0 0] 40))
  go_enter Tryz.func53, Tryz.ntmps53
  go_wp2_with fail
  refine (HK3.out _ HB0.out).mono ?_
  rintro e w3 ⟨v, ncs, rfl, ho, hc, hb3⟩
  obtain ⟨A4, cap4, rfl, _, hN4⟩ := nodes_of_row ho rfl hc hb3
  have HN4 := Lib.hid hN4
  have HB3 := Lib.hid (HB0.out.later hb3)
  have HY1 := Lib.hid (Blk.later HX1.out hb3 (by first | (simp; done) | (simp; omega)))
  have HY2 := Lib.hid (Blk.later HX2.out hb3 (by first | (simp; done) | (simp; omega)))
  have hw3 := HY1.out.lt
  have hw4 := HY2.out.lt
  clear ho hc hb3 hN4 HX1 HX2 HK3
  generalize hm : ns.length = m at *
  have HM := Lib.hid hm
  have hml : m ≤ 1048576 := HL.out
  clear hm
  go_wp2_with fail
  go_loopw [14] (fun i wr => ∃ (k : Nat), k ≤ m ∧ i = .int .i64 k ∧ Below w3.heap.size w3 wr ∧ Hid (idxF (keyP key) ns 0 = idxF (keyP key) (ns.drop k) k)) (fun i _ => m - (intOf i).toNat)
  case atStart => exact ⟨0, Nat.zero_le _, rfl, Below.refl _ _, rfl⟩
  case round =>
    obtain ⟨k, hk, rfl, hb, hS⟩ := hrel
    have HB := Lib.hid hb
    have HBw := Lib.hid (HB3.out.later hb)
    clear hb
    by_cases hlt : k < m
    · have hl : k < ns.length := by rw [HM.out]; exact hlt
      obtain ⟨bb, o, rfl, hbB, hcn⟩ := (HN4.out.later HB.out).2 (by omega)
      obtain ⟨c0, c1, c2, k0, k1, k2', hr⟩ := hcn k hlt
      clear hcn
      obtain ⟨hd2, hdv⟩ := HNV.out _ (getD_memD ns k hl)
      have HST := Lib.hid (idxF_step (keyP key) ns k hl)
      have HGD : Hid (ns.getD k default = ns.getD k default) := rfl
      clear hl
      obtain ⟨d, hd⟩ : ∃ d, d = ns.getD k default := ⟨_, rfl⟩
      rw [← hd] at hr hd2 hdv HST
      have HD := Lib.hid hd
      clear hd HGD
      obtain ⟨rfl, ⟨A1, n1, cap1, rfl, hs1, hcap1⟩, rfl⟩ := hr
      obtain rfl : n1 = 2 := by rw [← hs1.1]; exact hd2
      obtain ⟨sb, so, rfl, hsb, hsc⟩ := hs1.2 (by omega)
      have hck := hsc 1 (by omega)
      have HKK := Lib.hid (fun W hW => HKU.out W hW d.val hdv)
      have HKP : Hid (keyP key d = decide (d.subs.getD 1 ByteArray.empty = key)) := rfl
      have HVL : Hid (ns.getD k default = d) := HD.out.symm
      clear hsc hs1 hdv hd2 HD
      have y0 := (HY1.out.later HB.out hw3).cell 0
      have y1 := (HY1.out.later HB.out hw3).cell 1
      have y2 := (HY1.out.later HB.out hw3).cell 2
      have y3 := (HY1.out.later HB.out hw3).cell 3
      simp at y0 y1 y2 y3
      have hz1 := (HY1.out.later HB.out hw3).lt
      have i1 : (k : Int) < (m : Int) := by omega
      generalize keyP key d = kp at *
      generalize d.subs.getD 1 ByteArray.empty = kk at *
      have HVV : Hid ((ns.getD k default).val = d.val) := by unfold Hid; rw [HVL.out]
      clear HVL
      generalize d.val = val at *
      generalize d.name = dn at *
      have HBq := Lib.hid (Below.new wr (.cells #[.string dn, .slice (some ⟨sb, so, none⟩) 2 cap1, .string val] 83))
      have HNB : Hid (Blk (wr.alloc (.cells #[.string dn, .slice (some ⟨sb, so, none⟩) 2 cap1, .string val] 83)) wr.heap.size 83 #[.string dn, .slice (some ⟨sb, so, none⟩) 2 cap1, .string val]) := heap_last rfl
      have z0 := HBw.out.size
      have hck' := cell_later HBq.out hck
      by_cases hkey : kk = key
      · obtain rfl : kp = true := by rw [HKP.out, decide_eq_true hkey]
        have HE : Hid (R = (codeU (up val), (up val).getD [])) := by
          unfold Hid
          rw [HR.out, hS.out, HST.out, if_pos rfl, if_neg (by omega)]
          simp only [Int.toNat_natCast]
          rw [HVV.out]
        subst hkey
        clear HKP HST hS HR
        generalize up val = o' at *
        go_wp2_with fail
        refine (HKK.out _ (HBw.out.later HBq.out)).mono ?_
        rintro e w4 ⟨v', rfl, hsub, hb4⟩
        obtain ⟨AC, cc, rfl, hcc, hmc, hac⟩ := Own.own_slice hsub
        have HSUB := Lib.hid hsub
        have HB4 := Lib.hid ((HBw.out.later HBq.out).later hb4)
        have HQ := Lib.hid ((HY2.out.later HB.out hw4).later (HBq.out.later hb4) (HY2.out.later HB.out hw4).lt)
        have q0 := HQ.out.cell 0
        have qf := HQ.out.frozen 0
        have qz := HQ.out.lt
        simp at q0
        clear hsub hb4 hac
        have z4 := (HBw.out.later HBq.out).size
        go_wp2_with fail
        refine bodyPost_ret (v := .tuple #[.agg #[.slice AC _ cc], .int .i64 _]) (by simp [results, Tryz.results53, go_sem, q0]; try first | exact rfl | exact ⟨rfl, rfl⟩) rfl ?_
        rw [HE.out]
        refine ⟨_, rfl, ?_, HB4.out.setCell (by first | (simp; done) | (simp; omega) | (show w.heap.size ≤ _; omega)) _⟩
        have hS2 := Own.own_base HSUB.out (base := w.heap.size) z4
        exact World.ownsRow.kept hS2 (row := some (w.heap.size + 1 + 1)) (Own.grown_set _ _ _ _) (.inr (fun e => by have h1 := (HSUB.out.lt _ e).1; have h2 := hw4; have h3 := HB.out.size; simp at h1; omega))
      · obtain rfl : kp = false := by rw [HKP.out, decide_eq_false hkey]
        have hS2 : Hid (idxF (keyP key) ns 0 = idxF (keyP key) (ns.drop (k + 1)) (k + 1)) := by unfold Hid; rw [hS.out, HST.out]; rfl
        clear HKP HST hS HR
        have j1 := str_beq hkey
        go_wp2_with fail
        go_roundw
        case rel => exact ⟨k + 1, by omega, by go_num, HB.out.later HBq.out, hS2.out⟩
        case measure => simp [intOf]; omega
    · have HE : Hid (R = (3, [])) := by
        unfold Hid
        rw [HR.out, hS.out, List.drop_of_length_le (by rw [HM.out]; omega)]
        rfl
      have HQ := Lib.hid (HY2.out.later HB.out hw4)
      have q0 := HQ.out.cell 0
      have qf := HQ.out.frozen 0
      have qz := HQ.out.lt
      simp at q0
      clear HR hS HKU HNV
      go_wp2_with fail
      refine bodyPost_ret (v := .tuple #[.agg #[.slice none 0 0], .int .i64 3]) (by simp [results, Tryz.results53, go_sem, q0]) rfl ?_
      rw [HE.out]
      exact ⟨_, rfl, Own.sub_nil _ _, HBw.out.setCell (by first | (simp; done) | (simp; omega) | (show w.heap.size ≤ _; omega)) _⟩
end Go.Proofs.YtfpcjhajjejpdaaGreatDoor
namespace Go.Proofs.YtfpcjhajjejpdaaGreatDoor
open Go.RowKit
set_option linter.unusedVariables false

set_option maxRecDepth 100000 in
set_option maxHeartbeats 4000000 in
theorem RowAt_any (A : Option Addr) (n c : Nat) (b0 b1 b2 b3 : Value) (fs : List NodeD) (b : TableD) (key : ByteArray) (w : World) (htab : tabT w) (ht : Nodes w w.heap.size A n fs) (hb : TableR w w.heap.size b0 b1 b2 b3 b) (hts : smallNs fs) (hbs : b.small) (hk : key.size ≤ 1048576) :
    Calls Tryz.prog 12 #[.agg #[.slice A n c], .agg #[b0, b1, b2, b3], .string key] w (RowAtPost (rowAtOfB fs b key) w) := by
  have HK1 := Lib.hid (fun W (hW : Below w.heap.size w W) => TreeOk_any A n c fs W (ht.later hW) (tab_later htab hW) hts)
  have HK2 := Lib.hid (fun W (hW : Below w.heap.size w W) => TableOk_any b0 b1 b2 b3 b W (hb.later hW) hbs)
  have HK3 : Hid (treeB fs = true → tabB b = true → ∀ W (hW : Below w.heap.size w W), Calls Tryz.prog 53 #[.agg #[.slice A n c], .agg #[b0, b1, b2, b3], .string key] W (RowAtPost (rowAtB b.cols (rowsN b.glob fs) key) W)) := fun h0 h1 W hW => by
    obtain ⟨f1, f2, f3, f4, f5⟩ := tab_facts h1
    exact rowAt_any A n c b0 b1 b2 b3 fs b key W (ht.later hW) (hb.later hW) hts h0 (by omega) f3 hk
  have HR : Hid (rowAtOfB fs b key = if (treeB fs && tabB b) = true then rowAtB b.cols (rowsN b.glob fs) key else (1, [])) := rfl
  obtain ⟨rfl, rfl, ⟨A2, n2, p2, rfl, s2, k2⟩, ⟨A3, n3, p3, rfl, s3, k3⟩⟩ := hb
  clear s2 s3 ht hts hbs hk
  generalize rowAtOfB fs b key = R at *
  generalize treeB fs = xt at *
  generalize tabB b = xb at *
  generalize rowAtB b.cols (rowsN b.glob fs) key = rt at *
  generalize b.name = nm at *
  generalize b.glob = gl at *
  obtain ⟨WB, hWB⟩ : ∃ WB, WB = ((w.alloc (.cells #[.slice A n c] 26)).alloc (.cells #[.string nm, .string gl, .slice A2 n2 p2, .slice A3 n3 p3] 29)).alloc (.cells #[.slice none 0 0] 40) := ⟨_, rfl⟩
  have HX0 : Hid (Blk WB w.heap.size 26 #[.slice A n c]) := by subst hWB; exact heap_new0 _ _ _ _
  have HX1 : Hid (Blk WB (w.heap.size + 1) 29 #[.string nm, .string gl, .slice A2 n2 p2, .slice A3 n3 p3]) := by subst hWB; exact heap_new1 _ _ _ _
  have HX2 : Hid (Blk WB (w.heap.size + 1 + 1) 40 #[.slice none 0 0]) := by subst hWB; exact heap_new2 _ _ _ _
  have HBB : Hid (Below w.heap.size w WB) := by subst hWB; exact below_new3 w _ _ _
  have HS1 : Hid (∀ W', Below WB.heap.size WB W' → (W'.cell? ⟨w.heap.size, 0, none⟩ = some (.slice A n c) ∧ W'.cell? ⟨w.heap.size + 1, 0, none⟩ = some (.string nm) ∧ W'.cell? ⟨w.heap.size + 1, 1, none⟩ = some (.string gl) ∧ W'.cell? ⟨w.heap.size + 1, 2, none⟩ = some (.slice A2 n2 p2) ∧ W'.cell? ⟨w.heap.size + 1, 3, none⟩ = some (.slice A3 n3 p3))) := fun W' hW => ⟨(HX0.out.later hW HX0.out.lt).at 0 rfl, (HX1.out.later hW HX1.out.lt).at 0 rfl, (HX1.out.later hW HX1.out.lt).at 1 rfl, (HX1.out.later hW HX1.out.lt).at 2 rfl, (HX1.out.later hW HX1.out.lt).at 3 rfl⟩
  go_enter Tryz.func12, Tryz.ntmps12
  go_wp2_with fail
  rw [← hWB]
  clear hWB
  refine (HK1.out _ HBB.out).mono ?_
  rintro e w1 ⟨rfl, hb1⟩
  have HB1 := Lib.hid hb1
  have HQ1 := Lib.hid (HX2.out.later hb1 HX2.out.lt)
  clear hb1
  have q0 := HQ1.out.cell 0
  have qf := HQ1.out.frozen 0
  have qz := HQ1.out.lt
  simp at q0
  cases xt
  · have HE : Hid (R = (1, [])) := by unfold Hid; rw [HR.out]; rfl
    go_wp2_with fail
    refine bodyPost_ret (v := .tuple #[.agg #[.slice none 0 0], .int .i64 1]) (by simp [results, Tryz.results12, go_sem, q0]) rfl ?_
    exact ⟨_, by rw [HE.out], by rw [HE.out]; exact Own.sub_nil _ _, (HBB.out.later HB1.out).setCell (show w.heap.size ≤ w.heap.size + 1 + 1 by omega) _⟩
  obtain ⟨x0, x1, x2, x3, x4⟩ := HS1.out _ HB1.out
  clear q0 qf qz
  go_wp2_with fail
  refine (HK2.out _ (HBB.out.later HB1.out)).mono ?_
  rintro e w2 ⟨rfl, hb2⟩
  have HB2 := Lib.hid (HB1.out.later hb2)
  have HQ2 := Lib.hid (HQ1.out.later hb2 HQ1.out.lt)
  clear hb2 x0 x1 x2 x3 x4
  have q0 := HQ2.out.cell 0
  have qf := HQ2.out.frozen 0
  have qz := HQ2.out.lt
  simp at q0
  cases xb
  · have HE : Hid (R = (1, [])) := by unfold Hid; rw [HR.out]; rfl
    go_wp2_with fail
    refine bodyPost_ret (v := .tuple #[.agg #[.slice none 0 0], .int .i64 1]) (by simp [results, Tryz.results12, go_sem, q0]) rfl ?_
    exact ⟨_, by rw [HE.out], by rw [HE.out]; exact Own.sub_nil _ _, (HBB.out.later HB2.out).setCell (show w.heap.size ≤ w.heap.size + 1 + 1 by omega) _⟩
  obtain ⟨x0, x1, x2, x3, x4⟩ := HS1.out _ HB2.out
  have HE : Hid (R = rt) := by unfold Hid; rw [HR.out]; rfl
  have HK := Lib.hid (HK3.out (by first | rfl | trivial) (by first | rfl | trivial))
  clear HR HK3 q0 qf qz
  go_wp2_with fail
  refine (HK.out _ (HBB.out.later HB2.out)).mono ?_
  rintro e w3 ⟨v3, rfl, hs3, hb3⟩
  obtain ⟨A5, cap5, rfl, _, _, _⟩ := Own.own_slice hs3
  have HO3 : Hid (Own.SubO w3 w.heap.size (.slice A5 rt.2.length cap5) rt.2) := Own.own_base hs3 (HBB.out.later HB2.out).size
  have HB3 := Lib.hid ((HBB.out.later HB2.out).later hb3)
  have HQ3 := Lib.hid (HQ2.out.later hb3 HQ2.out.lt)
  clear hs3 hb3 x0 x1 x2 x3 x4
  have q0 := HQ3.out.cell 0
  have qf := HQ3.out.frozen 0
  have qz := HQ3.out.lt
  simp at q0
  go_wp2_with fail
  refine bodyPost_ret (v := .tuple #[.agg #[.slice A5 _ cap5], .int .i64 _]) (by simp [results, Tryz.results12, go_sem, q0]; try first | exact rfl | exact ⟨rfl, rfl⟩) rfl ?_
  exact ⟨_, by rw [HE.out], by rw [HE.out]; exact HO3.out.setBlk HQ3.out (by decide), HB3.out.setCell (show w.heap.size ≤ w.heap.size + 1 + 1 by omega) _⟩
end Go.Proofs.YtfpcjhajjejpdaaGreatDoor
