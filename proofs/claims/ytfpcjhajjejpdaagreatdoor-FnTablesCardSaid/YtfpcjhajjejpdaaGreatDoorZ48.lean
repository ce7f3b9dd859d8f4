/-
  FnTables returns true at all bytes: the walk.
-/
import Derived.Test.YtfpcjhajjejpdaaGreatDoorZ39
import Derived.Test.YtfpcjhajjejpdaaGreatDoorZ47
namespace Go.Proofs.YtfpcjhajjejpdaaGreatDoor
open Go.RowKit
set_option linter.unusedVariables false

theorem del_small {fs : List NodeD} {b : TableD} {key : ByteArray} : (∀ d ∈ (delB fs b key).2, d.small) ∧ (delB fs b key).2.length ≤ 1048576 := by
  rw [del_eq]
  split
  · next h0 =>
    obtain ⟨h1, h2⟩ := rowAt_right h0
    obtain ⟨f1, f2, f3, f4, f5⟩ := tab_facts h1
    refine ⟨fun d hd => ?_, ?_⟩
    · rcases List.mem_cons.1 hd with h | h
      · rw [h]
        have hx := setR_ok h1 h2
        have hs := chg_smallB hx
        exact ⟨hs.1, hs.2.1, by show (if (2 : Int) = 1 then packB (rowAtOfB fs b key).2 else (⟨#[]⟩ : ByteArray)).size ≤ 1048576; rw [if_neg (by decide)]; decide⟩
      · exact chg_smallB (idxs_ok 2 (.inr rfl) h1 h2 d h).1
    · have h3 := idxs_len (b := b) (r := (rowAtOfB fs b key).2) 2
      show (nodeChg 2 b.glob (rowAtOfB fs b key).2 :: idxsC 2 b (rowAtOfB fs b key).2).length ≤ _
      rw [List.length_cons]
      omega
  · exact ⟨fun d hd => by simp at hd, by simp⟩
theorem rowsOf_zero {fs : List NodeD} {b : TableD} (h : (rowsOfB fs b).1 = 0) : (rowsOfB fs b).2.length ≤ 24 ∧ ∀ r ∈ (rowsOfB fs b).2, smallR r := by
  unfold rowsOfB at h ⊢
  split at h
  · next hc =>
    rw [if_pos hc]
    rw [Bool.and_eq_true] at hc
    obtain ⟨g1, g2⟩ := rowsT_zero (tab_facts hc.2).2.2.1 h
    exact ⟨g1, fun r hr => (g2 r hr).1⟩
  · cases h
theorem rows_one {Z : World} {g : Nat} {v : Value} {rs : List ByteArray} (hg : Z.heap.size = g) (h : RowR Z Z.heap.size v rs) : RowsRd (Z.alloc (.cells #[v] 40)) (Z.alloc (.cells #[v] 40)).heap.size (some ⟨g, 0, none⟩) 1 [rs] := by
  subst hg
  refine ⟨rfl, fun _ => ⟨_, 0, rfl, by simp, fun j hj => ?_⟩⟩
  obtain rfl : j = 0 := by omega
  exact ⟨v, (Blk.cell (t := 40) (heap_alloc_new Z _) 0).trans rfl, h.later (Below.new _ _)⟩
set_option maxRecDepth 100000 in
set_option maxHeartbeats 40000000 in
theorem fnTb_walk (A : Option Addr) (n c : Nat) (w : World) (htab : tabT w) (h : BytesR w w.heap.size A n) (hn : n ≤ 9223372036854775807) :
    Calls Tryz.prog 5 #[.slice A n c] w fun e w' => e = .returned (.bool true) ∧ Below w.heap.size w w' := by
  have HK1 := Lib.hid (c2Big_any A n c w hn)
  by_cases hbig : 1048576 < n
  · rw [decide_eq_true hbig] at HK1
    clear h htab
    go_enter Tryz.func5, Tryz.ntmps5
    go_wp2_with fail
    refine HK1.out.mono ?_
    rintro e w1 ⟨rfl, rfl⟩
    go_wp2_with fail
    go_ret
    exact ⟨rfl, Below.refl _ _⟩
  rw [decide_eq_false hbig] at HK1
  have HK2 := Lib.hid (DrawInsertRow_any A n c w h (by omega))
  have HTB := Lib.hid htab
  clear h htab
  go_enter Tryz.func5, Tryz.ntmps5
  go_wp2_with fail
  refine HK1.out.mono ?_
  rintro e w1 ⟨rfl, rfl⟩
  go_wp2_with fail
  refine HK2.out.mono ?_
  rintro e w1 ⟨v, fs, c0, c1, c2, c3, d, rv, rs, rfl, ⟨hN, hT, hR, hb1⟩, htr, htn, hpos, hlen, hall⟩
  obtain ⟨A1, cap1, rfl, hcap1, hN⟩ := hN.reads
  obtain ⟨A4, cap4, rfl, hcap4, hRs⟩ := Own.SubO.strs hR
  have hTR := hT.reads
  obtain ⟨e0, e1, ⟨A2, n2, p2, e2, s2, k2⟩, ⟨A3, n3, p3, e3, s3, k3⟩⟩ := hTR
  subst e0 e1 e2 e3
  have HTR := Lib.hid htr
  have hds := tinyT_small htn (by decide)
  have hsm : smallR rs := ⟨by omega, fun s hs => by have := hall s hs; omega⟩
  have hts := tree_small htr
  obtain ⟨WX, hWX⟩ : ∃ WX, WX = ((w1.alloc (.cells #[.slice A1 fs.length cap1] 26)).alloc (.cells #[.string d.name, .string d.glob, .slice A2 n2 p2, .slice A3 n3 p3] 29)).alloc (.cells #[.slice A4 rs.length cap4] 40) := ⟨_, rfl⟩
  have HBX : Hid (Below w1.heap.size w1 WX) := by subst hWX; exact below_new3 w1 _ _ _
  have HX0 : Hid (Blk WX w1.heap.size 26 #[.slice A1 fs.length cap1]) := by subst hWX; exact heap_new0 _ _ _ _
  have HX1 : Hid (Blk WX (w1.heap.size + 1) 29 #[.string d.name, .string d.glob, .slice A2 n2 p2, .slice A3 n3 p3]) := by subst hWX; exact heap_new1 _ _ _ _
  have HX2 : Hid (Blk WX (w1.heap.size + 1 + 1) 40 #[.slice A4 rs.length cap4]) := by subst hWX; exact heap_new2 _ _ _ _
  have HS1 : Hid (∀ W', Below WX.heap.size WX W' → (W'.cell? ⟨w1.heap.size, 0, none⟩ = some (.slice A1 fs.length cap1) ∧ W'.cell? ⟨w1.heap.size + 1, 0, none⟩ = some (.string d.name) ∧ W'.cell? ⟨w1.heap.size + 1, 1, none⟩ = some (.string d.glob) ∧ W'.cell? ⟨w1.heap.size + 1, 2, none⟩ = some (.slice A2 n2 p2) ∧ W'.cell? ⟨w1.heap.size + 1, 3, none⟩ = some (.slice A3 n3 p3) ∧ W'.cell? ⟨w1.heap.size + 1 + 1, 0, none⟩ = some (.slice A4 rs.length cap4))) := fun W' hW => ⟨(HX0.out.later hW HX0.out.lt).at 0 rfl, (HX1.out.later hW HX1.out.lt).at 0 rfl, (HX1.out.later hW HX1.out.lt).at 1 rfl, (HX1.out.later hW HX1.out.lt).at 2 rfl, (HX1.out.later hW HX1.out.lt).at 3 rfl, (HX2.out.later hW HX2.out.lt).at 0 rfl⟩
  have HNX : Hid (∀ W, Below WX.heap.size WX W → Nodes W W.heap.size A1 fs.length fs) := fun W hW => hN.later (HBX.out.later hW)
  have HTX : Hid (∀ W, Below WX.heap.size WX W → TableR W W.heap.size (.string d.name) (.string d.glob) (.slice A2 n2 p2) (.slice A3 n3 p3) d) := fun W hW => hT.reads.later (HBX.out.later hW)
  have HRX : Hid (∀ W, Below WX.heap.size WX W → RowR W W.heap.size (.slice A4 rs.length cap4) rs) := fun W hW => ⟨A4, _, cap4, rfl, hRs.later (HBX.out.later hW), hcap4⟩
  have HBW : Hid (Below w.heap.size w WX) := hb1.later HBX.out
  have HTT : Hid (∀ W, Below WX.heap.size WX W → tabT W) := fun W hW => tab_later HTB.out (HBW.out.later hW)
  have HKI := Lib.hid (fun W (hW : Below WX.heap.size WX W) => InsertRow_any A1 fs.length cap1 _ _ _ _ _ fs d rs W (HTT.out W hW) (HNX.out W hW) (HTX.out W hW) (HRX.out W hW) hts hds hsm)
  have HKS := Lib.hid (fun W (hW : Below WX.heap.size WX W) => specInsertRow_any A1 fs.length cap1 _ _ _ _ _ fs d rs W (HNX.out W hW) (HTX.out W hW) (HRX.out W hW) hts hds hsm)
  have HKB := Lib.hid (fun W (hW : Below WX.heap.size WX W) => specRowsOf_any A1 fs.length cap1 _ _ _ _ fs d W (HNX.out W hW) (HTX.out W hW) hts hds)
  have HIS := Lib.hid (ins_small (fs := fs) (b := d) (r := rs))
  have HPL : Hid ((insB fs d rs).1 = 0 → (rowsOfB fs d).1 = 0 → TabIs fs d rs) := fun h1 h2 => tables_is h1 h2
  clear hN hT hRs hR hb1 hcap4 HTB
  generalize hIB : insB fs d rs = IB at *
  obtain ⟨icode, L⟩ := IB
  obtain ⟨x0, x1, x2, x3, x4, x5⟩ := HS1.out _ (Below.refl _ _)
  go_wp2_with fail
  rw [← hWX]
  clear hWX
  refine (HKI.out _ (Below.refl _ _)).mono ?_
  rintro e w2 ⟨lv, rfl, hl2, hb2⟩
  obtain ⟨A5, cap5, rfl, _, hC5⟩ := hl2.reads
  have HB2 := Lib.hid hb2
  have HC2 : Hid (∀ W, Below w2.heap.size w2 W → Chgs W W.heap.size A5 L.length L) := fun W hW => hC5.later hW
  clear hb2 hl2 hC5 x0 x1 x2 x3 x4 x5 HKI
  obtain ⟨x0, x1, x2, x3, x4, x5⟩ := HS1.out _ HB2.out
  go_wp2_with fail
  refine (HKS.out _ HB2.out).mono ?_
  rintro e w3 ⟨wv, rfl, hl3, hb3⟩
  obtain ⟨A6, cap6, rfl, _, hC6⟩ := hl3.reads
  have HB23 := Lib.hid hb3
  have HB3 := Lib.hid (HB2.out.later hb3)
  have HC3 : Hid (∀ W, Below w3.heap.size w3 W → Chgs W W.heap.size A6 L.length L) := fun W hW => hC6.later hW
  clear hb3 hl3 hC6 x0 x1 x2 x3 x4 x5 HKS
  obtain ⟨x0, x1, x2, x3, x4, x5⟩ := HS1.out _ HB3.out
  have HKC := Lib.hid (c2Changes_same A5 A6 L.length cap5 cap6 L w3 (HC2.out _ HB23.out) (HC3.out _ (Below.refl _ _)) HIS.out.2 HIS.out.1)
  have hneq : ((icode != icode) : Bool) = false := by simp
  go_wp2_with fail
  refine HKC.out.mono ?_
  rintro e w4 ⟨rfl, hb4⟩
  have HB4 := Lib.hid (HB3.out.later hb4)
  have HB24 := Lib.hid (HB23.out.later hb4)
  clear hb4 x0 x1 x2 x3 x4 x5 HKC HC3 HB23
  obtain ⟨x0, x1, x2, x3, x4, x5⟩ := HS1.out _ HB4.out
  go_wp2_with fail
  refine (HKB.out _ HB4.out).mono ?_
  generalize hRB : rowsOfB fs d = RB at *
  obtain ⟨bcode, BR⟩ := RB
  rintro e w5 ⟨bv, rfl, hr5, hb5⟩
  obtain ⟨A7, cap7, rfl, _, hRR⟩ := rowsI_rd hr5
  have HB5 := Lib.hid (HB4.out.later hb5)
  have HB25 := Lib.hid (HB24.out.later hb5)
  have HR5 : Hid (∀ W, Below w5.heap.size w5 W → RowsRd W W.heap.size A7 BR.length BR) := fun W hW => hRR.later hW
  clear hb5 hr5 hRR x0 x1 x2 x3 x4 x5 HKB HB24
  obtain ⟨x0, x1, x2, x3, x4, x5⟩ := HS1.out _ HB5.out
  by_cases hi0 : icode = 0
  case neg =>
    have hb0 : (icode == (0 : Int)) = false := beq_eq_false_iff_ne.2 hi0
    have hn0 : (icode != (0 : Int)) = true := by simp [bne, hb0]
    go_wp2_with fail
    go_ret
    exact ⟨rfl, HBW.out.later HB5.out⟩
  subst hi0
  by_cases hr0 : bcode = 0
  case neg =>
    have hb0 : (bcode == (0 : Int)) = false := beq_eq_false_iff_ne.2 hr0
    have hn0 : (bcode != (0 : Int)) = true := by simp [bne, hb0]
    go_wp2_with fail
    go_ret
    exact ⟨rfl, HBW.out.later HB5.out⟩
  subst hr0
  have HP : Hid (TabIsL fs d rs (doChangesB fs L)) := by
    have h := HPL.out rfl rfl
    unfold TabIs at h
    rw [hIB] at h
    exact h
  have HKD := Lib.hid (DoChanges_any A1 fs.length cap1 A5 L.length cap5 fs L w5 (HNX.out _ HB5.out) hts (HC2.out _ HB25.out) HIS.out.2 HIS.out.1)
  have HDT : Hid ((doChangesB fs L).1 = 0 → treeB (doChangesB fs L).2 = true) := doChanges_tree
  generalize doChangesB fs L = DB at *
  obtain ⟨one, XS⟩ := DB
  go_wp2_with fail
  refine HKD.out.mono ?_
  rintro e w6 ⟨xv, rfl, hn6, hb6⟩
  obtain ⟨A8, cap8, rfl, _, hN6⟩ := hn6.reads
  have HB6 := Lib.hid (HB5.out.later hb6)
  have HB56 := Lib.hid hb6
  clear hb6 hn6 HKD HC2 HB25 HIS HPL hIB x0 x1 x2 x3 x4 x5
  obtain ⟨WY, hWY⟩ : ∃ WY, WY = w6.alloc (.cells #[.slice A8 XS.length cap8] 26) := ⟨_, rfl⟩
  have HQY : Hid (Blk WY w6.heap.size 26 #[.slice A8 XS.length cap8]) := by subst hWY; exact heap_alloc_new _ _
  have HBY : Hid (Below WX.heap.size WX WY) := by subst hWY; exact HB6.out.later (Below.new _ _)
  have HNY : Hid (∀ W, Below WY.heap.size WY W → Nodes W W.heap.size A8 XS.length XS) := fun W hW => by
    have h1 : Nodes WY WY.heap.size A8 XS.length XS := by subst hWY; exact hN6.later (Below.new _ _)
    exact h1.later hW
  have HR6 : Hid (∀ W, Below WY.heap.size WY W → RowsRd W W.heap.size A7 BR.length BR) := fun W hW => HR5.out W ((by subst hWY; exact HB56.out.later (Below.new _ _) : Below w5.heap.size w5 WY).later hW)
  clear hN6 HB56 HR5 HB5
  by_cases ho0 : one = 0
  case neg =>
    have h4 : one = 4 := by
      rcases HP.out.code with h | h
      · exact absurd h ho0
      · exact h
    subst h4
    go_wp2_with fail
    go_ret
    exact ⟨ret_bool (by first | rfl | simp), (HBW.out.later HB6.out).later (Below.new _ _)⟩
  subst ho0
  have htx := HDT.out rfl
  have htxs := tree_small htx
  have HAT := Lib.hid (HP.out.at_ rfl)
  have HRW := Lib.hid (HP.out.rows rfl)
  have HGO := Lib.hid (HP.out.gone rfl)
  dsimp only at HAT HRW HGO
  rw [hRB] at HRW HGO
  dsimp only at HRW HGO
  have hBR := rowsOf_zero (fs := fs) (b := d) (by rw [hRB])
  rw [hRB] at hBR
  obtain ⟨hbl, hbs⟩ := hBR
  dsimp only at hbl hbs
  clear hRB
  clear HP HDT
  obtain ⟨rb, ro, e4, hrb, hrc⟩ := (HRX.out WX (Below.refl _ _) |> fun ⟨_, _, _, e, hs, _⟩ => by injection e with e1 e2 e3; subst e1 e2 e3; exact hs.2 hpos : ∃ b o, A4 = some ⟨b, o, none⟩ ∧ b < WX.heap.size ∧ ∀ j, j < rs.length → WX.cell? ⟨b, o + j, none⟩ = some (.string (rs.getD j ByteArray.empty)))
  subst e4
  have hkey := hrc 0 hpos
  rw [Nat.add_zero] at hkey
  clear hrc
  have HKA := Lib.hid (fun W (hW : Below WY.heap.size WY W) => RowAt_any A8 XS.length cap8 _ _ _ _ XS d (rs.getD 0 ByteArray.empty) W (HTT.out W (HBY.out.later hW)) (HNY.out W hW) (HTX.out W (HBY.out.later hW)) htxs hds (by have := hall _ (getD_memS rs 0 hpos); omega))
  rw [HAT.out] at HKA
  have HKD2 := Lib.hid (fun W (hW : Below WY.heap.size WY W) => DeleteRow_any A8 XS.length cap8 _ _ _ _ XS d (rs.getD 0 ByteArray.empty) W (HTT.out W (HBY.out.later hW)) (HNY.out W hW) (HTX.out W (HBY.out.later hW)) htxs hds (by have := hall _ (getD_memS rs 0 hpos); omega))
  have HKR := Lib.hid (fun W (hW : Below WY.heap.size WY W) => RowsOf_any A8 XS.length cap8 _ _ _ _ XS d W (HTT.out W (HBY.out.later hW)) (HNY.out W hW) (HTX.out W (HBY.out.later hW)) htxs hds)
  generalize hky : rs.getD 0 ByteArray.empty = key at *
  have HSY : Hid (∀ W, Below WY.heap.size WY W → (W.cell? ⟨w6.heap.size, 0, none⟩ = some (.slice A8 XS.length cap8) ∧ W.cell? ⟨w1.heap.size + 1, 0, none⟩ = some (.string d.name) ∧ W.cell? ⟨w1.heap.size + 1, 1, none⟩ = some (.string d.glob) ∧ W.cell? ⟨w1.heap.size + 1, 2, none⟩ = some (.slice A2 n2 p2) ∧ W.cell? ⟨w1.heap.size + 1, 3, none⟩ = some (.slice A3 n3 p3) ∧ W.cell? ⟨w1.heap.size + 1 + 1, 0, none⟩ = some (.slice (some ⟨rb, ro, none⟩) rs.length cap4) ∧ W.cell? ⟨rb, ro, none⟩ = some (.string key))) := fun W hW => ⟨(HQY.out.later hW HQY.out.lt).at 0 rfl, (HS1.out W (HBY.out.later hW)).2.1, (HS1.out W (HBY.out.later hW)).2.2.1, (HS1.out W (HBY.out.later hW)).2.2.2.1, (HS1.out W (HBY.out.later hW)).2.2.2.2.1, (HS1.out W (HBY.out.later hW)).2.2.2.2.2, ((HBY.out.later hW).cell (p := ⟨rb, ro, none⟩) hrb).trans hkey⟩
  have hposi : (0 : Int) < (rs.length : Int) := by omega
  go_wp2_with fail
  rw [← hWY]
  clear hWY
  go_region_held3 (fun W => W.cell? ⟨w6.heap.size, 0, none⟩ = some (.slice A8 XS.length cap8) ∧ W.cell? ⟨w1.heap.size + 1, 0, none⟩ = some (.string d.name) ∧ W.cell? ⟨w1.heap.size + 1, 1, none⟩ = some (.string d.glob) ∧ W.cell? ⟨w1.heap.size + 1, 2, none⟩ = some (.slice A2 n2 p2) ∧ W.cell? ⟨w1.heap.size + 1, 3, none⟩ = some (.slice A3 n3 p3) ∧ W.cell? ⟨w1.heap.size + 1 + 1, 0, none⟩ = some (.slice (some ⟨rb, ro, none⟩) rs.length cap4) ∧ W.cell? ⟨rb, ro, none⟩ = some (.string key))
    (first | exact HSY.out _ H7.out | exact HSY.out _ (H7.out.later (Below.new _ _)) | exact HSY.out _ (H7.out.setCell (Nat.le_refl _) _) | exact HSY.out _ (Below.refl _ _).drew | exact HSY.out _ (Below.new _ _).drew | go_keep)
    (first
      | (go_at_call 12
         with_reducible refine (HKA.out WY.drew ?_).mono ?_
         · exact (Below.refl _ _).drew
         rintro e w7 ⟨bk, rfl, hs7, hb7⟩
         obtain ⟨A9, cap9, rfl, _, _, _⟩ := Own.own_slice hs7
         have H7 := Lib.hid (undrew hb7)
         have HU7 : Hid (Own.SubO w7 WY.heap.size (.slice A9 rs.length cap9) rs) := hs7)
      | (go_at_call 12
         with_reducible refine (HKA.out (WY.alloc (.cells #[.slice none 0 0] 40)).drew ?_).mono ?_
         · exact (Below.new _ _).drew
         rintro e w7 ⟨bk, rfl, hs7, hb7⟩
         obtain ⟨A9, cap9, rfl, _, _, _⟩ := Own.own_slice hs7
         have H7 := Lib.hid ((Below.new WY (.cells #[.slice none 0 0] 40)).later (undrew hb7))
         have hbx : Blk w7 WY.heap.size 40 #[.slice none 0 0] := Blk.later (heap_last rfl) (undrew hb7) (by simp)
         have bx0 := hbx.cell 0
         have bxf := hbx.frozen 0
         have bxz := hbx.lt
         simp at bx0
         have HU7 : Hid (Own.SubO w7 WY.heap.size (.slice A9 rs.length cap9) rs) := Own.own_base hs7 (by simp)))
  · obtain ⟨WZ, hWZ⟩ : ∃ WZ, WZ = w7.alloc (.cells #[.slice A9 rs.length cap9] 40) := ⟨_, rfl⟩
    have HZ : Hid (Below WY.heap.size WY WZ) := by subst hWZ; exact H7.out.later (Below.new _ _)
    have HQZ : Hid (Blk WZ w7.heap.size 40 #[.slice A9 rs.length cap9]) := by subst hWZ; exact heap_last rfl
    have HUZ : Hid (Own.SubO WZ WY.heap.size (.slice A9 rs.length cap9) rs) := by subst hWZ; exact sub_later HU7.out (Below.new _ _)
    rw [← hWZ]
    clear hWZ
    have HZ6 := Lib.hid (HBY.out.later HZ.out)
    obtain ⟨z0, z1, z2, z3, z4, z5, z6⟩ := HSY.out _ HZ.out
    have HKR8 := HKR.out _ HZ.out
    generalize hXR : rowsOfB XS d = XR at *
    obtain ⟨xc, XB⟩ := XR
    obtain ⟨hxc, hxl⟩ := HRW.out
    dsimp only at hxc hxl
    subst hxc
    go_wp2_with fail
    refine HKR8.mono ?_
    rintro e w8 ⟨av, rfl, hr8, hb8⟩
    obtain ⟨AA, capA, rfl, _, _⟩ := rowsI_rd hr8
    have HB8 := Lib.hid (HZ.out.later hb8)
    have HQ8 := Lib.hid (HQZ.out.later hb8 HQZ.out.lt)
    have HU8 := Lib.hid (sub_later HUZ.out hb8)
    clear hr8 hb8 z0 z1 z2 z3 z4 z5 z6 HQZ HUZ
    obtain ⟨z0, z1, z2, z3, z4, z5, z6⟩ := HSY.out _ HB8.out
    have q0 := HQ8.out.cell 0
    have qz := HQ8.out.lt
    have hrz : w1.heap.size + 1 + 1 < w8.heap.size := Nat.lt_of_lt_of_le HX2.out.lt (HBY.out.later HB8.out).size
    simp at q0
    go_wp2_with fail
    have HSR1 := Lib.hid (SameRows_same (some ⟨w8.heap.size, 0, none⟩) (some ⟨w8.heap.size + 1, 0, none⟩) 1 1 1 [rs] ((w8.alloc (.cells #[.slice A9 rs.length cap9] 40)).alloc (.cells #[.slice (some ⟨rb, ro, none⟩) rs.length cap4] 40))
      ((rows_one rfl (by obtain ⟨A', c', e', hc', hs'⟩ := Own.SubO.strs HU8.out; exact ⟨A', _, c', e', hs', hc'⟩)).later (Below.new _ _))
      (rows_one (by simp) (HRX.out _ ((HBY.out.later HB8.out).later (Below.new _ _)))) (by omega) (fun r hr => by rw [List.mem_singleton.1 hr]; omega))
    have HB9 := Lib.hid ((HB8.out.later (Below.new w8 (.cells #[.slice A9 rs.length cap9] 40))).later (Below.new _ (.cells #[.slice (some ⟨rb, ro, none⟩) rs.length cap4] 40)))
    refine HSR1.out.mono ?_
    rintro e wa ⟨rfl, hba⟩
    have HBa := Lib.hid (HB9.out.later hba)
    clear hba z0 z1 z2 z3 z4 z5 z6 q0 qz hrz HSR1 HB9 HB8
    obtain ⟨z0, z1, z2, z3, z4, z5, z6⟩ := HSY.out _ HBa.out
    have hxi : (XB.length : Int) = (BR.length : Int) + 1 := by omega
    have hne : (((XB.length : Nat) : Int) != ((BR.length : Nat) : Int) + 1) = false := by rw [hxi]; simp
    have heq : (((XB.length : Nat) : Int) == ((BR.length : Nat) : Int) + 1) = true := by rw [hxi]; simp
    have HXL := Lib.hid hxl
    clear hxl hxi
    go_wp2_with fail
    have HSZ := Lib.hid (fun W hW => HSY.out W ((HBa.out.later hW)))
    generalize hDD : delB XS d key = DD at *
    obtain ⟨dcode, DL⟩ := DD
    have HDS := Lib.hid (del_small (fs := XS) (b := d) (key := key))
    rw [hDD] at HDS
    clear hDD
    obtain ⟨hg1, hg2, hg3⟩ := HGO.out
    dsimp only at hg1 hg2 hg3
    subst hg1
    have HYT : Hid ((doChangesB XS DL).1 = 0 → treeB (doChangesB XS DL).2 = true) := doChanges_tree
    have HKC2 := Lib.hid (fun W (hW : Below WY.heap.size WY W) AB capB (h : Chgs W W.heap.size AB DL.length DL) => DoChanges_any A8 XS.length cap8 AB DL.length capB XS DL W (HNY.out W hW) htxs h HDS.out.2 HDS.out.1)
    generalize hYY : doChangesB XS DL = YY at *
    obtain ⟨ycode, YS⟩ := YY
    dsimp only at hg2 hg3 HYT
    subst hg2
    have hty := tree_small (HYT.out rfl)
    have HROW := Lib.hid hg3
    clear hg3 HYT HGO
    go_region_held3 (fun W => W.cell? ⟨w6.heap.size, 0, none⟩ = some (.slice A8 XS.length cap8) ∧ W.cell? ⟨w1.heap.size + 1, 0, none⟩ = some (.string d.name) ∧ W.cell? ⟨w1.heap.size + 1, 1, none⟩ = some (.string d.glob) ∧ W.cell? ⟨w1.heap.size + 1, 2, none⟩ = some (.slice A2 n2 p2) ∧ W.cell? ⟨w1.heap.size + 1, 3, none⟩ = some (.slice A3 n3 p3) ∧ W.cell? ⟨w1.heap.size + 1 + 1, 0, none⟩ = some (.slice (some ⟨rb, ro, none⟩) rs.length cap4) ∧ W.cell? ⟨rb, ro, none⟩ = some (.string key))
      (first | exact HSZ.out _ (Below.refl _ _).drew | exact HSZ.out _ Hb.out | go_keep)
      (first
        | (go_at_call 30
           with_reducible refine (HKD2.out wa.drew ?_).mono ?_
           · exact (HBa.out).later (Below.refl _ _).drew
           rintro e wb ⟨dv, rfl, hdl, hbb'⟩
           obtain ⟨AB, capB, rfl, _, hCB⟩ := hdl.reads
           have Hb := Lib.hid (undrew hbb')
           have HBb := Lib.hid (HBa.out.later (undrew hbb'))
           have HCB : Hid (Chgs wb wb.heap.size AB DL.length DL) := hCB))
    clear z0 z1 z2 z3 z4 z5 z6
    have z0 := (HSY.out _ HBb.out).1
    go_wp2_with fail
    refine (HKC2.out _ HBb.out AB capB HCB.out).mono ?_
    rintro e wc ⟨yv, rfl, hnc, hbc⟩
    obtain ⟨AC, capC, rfl, _, hNC⟩ := hnc.reads
    have HBc := Lib.hid (HBb.out.later hbc)
    have HNC := Lib.hid hNC
    clear hnc hbc hNC z0
    have HBC : Hid (Below WY.heap.size WY (wc.alloc (.cells #[.slice AC YS.length capC] 26))) := HBc.out.later (Below.new _ _)
    have HQC : Hid (Blk (wc.alloc (.cells #[.slice AC YS.length capC] 26)) wc.heap.size 26 #[.slice AC YS.length capC]) := heap_last rfl
    have HNW : Hid (Nodes (wc.alloc (.cells #[.slice AC YS.length capC] 26)) (wc.alloc (.cells #[.slice AC YS.length capC] 26)).heap.size AC YS.length YS) := HNC.out.later (Below.new _ _)
    have HKR2 := Lib.hid (RowsOf_any AC YS.length capC _ _ _ _ YS d (wc.alloc (.cells #[.slice AC YS.length capC] 26)) (HTT.out _ (HBY.out.later HBC.out)) HNW.out (HTX.out _ (HBY.out.later HBC.out)) hty hds)
    rw [HROW.out] at HKR2
    obtain ⟨z0, z1, z2, z3, z4, z5, z6⟩ := HSY.out _ HBC.out
    have qc := HQC.out.cell 0
    have qz := HQC.out.lt
    simp at qc
    go_wp2_with fail
    refine HKR2.out.mono ?_
    rintro e wd ⟨lv, rfl, hrd, hbd⟩
    obtain ⟨AD, capD, rfl, _, hRD⟩ := rowsI_rd hrd
    have HBd := Lib.hid (HBC.out.later hbd)
    have HSR2 := Lib.hid (fun W (h : Below wd.heap.size wd W) => SameRows_same AD A7 BR.length capD cap7 BR W (hRD.later h) (HR6.out _ (HBd.out.later h)) (by omega) (fun r hr => by have := (hbs r hr).1; omega))
    clear hrd hbd hRD z0 z1 z2 z3 z4 z5 z6 qc qz
    go_wp2_with fail
    refine (HSR2.out _ (Below.refl _ _)).mono ?_
    rintro e we ⟨rfl, hbe⟩
    have HBE := Lib.hid ((HBW.out.later HBY.out).later (HBd.out.later hbe))
    clear hbe
    go_wp2_with fail
    go_ret
    exact ⟨rfl, HBE.out⟩
  · obtain ⟨WZ, hWZ⟩ : ∃ WZ, WZ = w7.setCell ⟨WY.heap.size, 0, none⟩ (.slice A9 rs.length cap9) := ⟨_, rfl⟩
    have HZ : Hid (Below WY.heap.size WY WZ) := by subst hWZ; exact H7.out.setCell (Nat.le_refl _) _
    have HQZ : Hid (Blk WZ WY.heap.size 40 #[.slice A9 rs.length cap9]) := by subst hWZ; have h2 := hbx.set_ 0 (.slice A9 rs.length cap9); unfold Hid; simpa using h2
    have HUZ : Hid (Own.SubO WZ WY.heap.size (.slice A9 rs.length cap9) rs) := by subst hWZ; exact HU7.out.setBlk hbx (by decide)
    rw [← hWZ]
    clear hWZ bx0 bxf bxz hbx
    have HZ6 := Lib.hid (HBY.out.later HZ.out)
    obtain ⟨z0, z1, z2, z3, z4, z5, z6⟩ := HSY.out _ HZ.out
    have HKR8 := HKR.out _ HZ.out
    generalize hXR : rowsOfB XS d = XR at *
    obtain ⟨xc, XB⟩ := XR
    obtain ⟨hxc, hxl⟩ := HRW.out
    dsimp only at hxc hxl
    subst hxc
    go_wp2_with fail
    refine HKR8.mono ?_
    rintro e w8 ⟨av, rfl, hr8, hb8⟩
    obtain ⟨AA, capA, rfl, _, _⟩ := rowsI_rd hr8
    have HB8 := Lib.hid (HZ.out.later hb8)
    have HQ8 := Lib.hid (HQZ.out.later hb8 HQZ.out.lt)
    have HU8 := Lib.hid (sub_later HUZ.out hb8)
    clear hr8 hb8 z0 z1 z2 z3 z4 z5 z6 HQZ HUZ
    obtain ⟨z0, z1, z2, z3, z4, z5, z6⟩ := HSY.out _ HB8.out
    have q0 := HQ8.out.cell 0
    have qz := HQ8.out.lt
    have hrz : w1.heap.size + 1 + 1 < w8.heap.size := Nat.lt_of_lt_of_le HX2.out.lt (HBY.out.later HB8.out).size
    simp at q0
    go_wp2_with fail
    have HSR1 := Lib.hid (SameRows_same (some ⟨w8.heap.size, 0, none⟩) (some ⟨w8.heap.size + 1, 0, none⟩) 1 1 1 [rs] ((w8.alloc (.cells #[.slice A9 rs.length cap9] 40)).alloc (.cells #[.slice (some ⟨rb, ro, none⟩) rs.length cap4] 40))
      ((rows_one rfl (by obtain ⟨A', c', e', hc', hs'⟩ := Own.SubO.strs HU8.out; exact ⟨A', _, c', e', hs', hc'⟩)).later (Below.new _ _))
      (rows_one (by simp) (HRX.out _ ((HBY.out.later HB8.out).later (Below.new _ _)))) (by omega) (fun r hr => by rw [List.mem_singleton.1 hr]; omega))
    have HB9 := Lib.hid ((HB8.out.later (Below.new w8 (.cells #[.slice A9 rs.length cap9] 40))).later (Below.new _ (.cells #[.slice (some ⟨rb, ro, none⟩) rs.length cap4] 40)))
    refine HSR1.out.mono ?_
    rintro e wa ⟨rfl, hba⟩
    have HBa := Lib.hid (HB9.out.later hba)
    clear hba z0 z1 z2 z3 z4 z5 z6 q0 qz hrz HSR1 HB9 HB8
    obtain ⟨z0, z1, z2, z3, z4, z5, z6⟩ := HSY.out _ HBa.out
    have hxi : (XB.length : Int) = (BR.length : Int) + 1 := by omega
    have hne : (((XB.length : Nat) : Int) != ((BR.length : Nat) : Int) + 1) = false := by rw [hxi]; simp
    have heq : (((XB.length : Nat) : Int) == ((BR.length : Nat) : Int) + 1) = true := by rw [hxi]; simp
    have HXL := Lib.hid hxl
    clear hxl hxi
    go_wp2_with fail
    have HSZ := Lib.hid (fun W hW => HSY.out W ((HBa.out.later hW)))
    generalize hDD : delB XS d key = DD at *
    obtain ⟨dcode, DL⟩ := DD
    have HDS := Lib.hid (del_small (fs := XS) (b := d) (key := key))
    rw [hDD] at HDS
    clear hDD
    obtain ⟨hg1, hg2, hg3⟩ := HGO.out
    dsimp only at hg1 hg2 hg3
    subst hg1
    have HYT : Hid ((doChangesB XS DL).1 = 0 → treeB (doChangesB XS DL).2 = true) := doChanges_tree
    have HKC2 := Lib.hid (fun W (hW : Below WY.heap.size WY W) AB capB (h : Chgs W W.heap.size AB DL.length DL) => DoChanges_any A8 XS.length cap8 AB DL.length capB XS DL W (HNY.out W hW) htxs h HDS.out.2 HDS.out.1)
    generalize hYY : doChangesB XS DL = YY at *
    obtain ⟨ycode, YS⟩ := YY
    dsimp only at hg2 hg3 HYT
    subst hg2
    have hty := tree_small (HYT.out rfl)
    have HROW := Lib.hid hg3
    clear hg3 HYT HGO
    go_region_held3 (fun W => W.cell? ⟨w6.heap.size, 0, none⟩ = some (.slice A8 XS.length cap8) ∧ W.cell? ⟨w1.heap.size + 1, 0, none⟩ = some (.string d.name) ∧ W.cell? ⟨w1.heap.size + 1, 1, none⟩ = some (.string d.glob) ∧ W.cell? ⟨w1.heap.size + 1, 2, none⟩ = some (.slice A2 n2 p2) ∧ W.cell? ⟨w1.heap.size + 1, 3, none⟩ = some (.slice A3 n3 p3) ∧ W.cell? ⟨w1.heap.size + 1 + 1, 0, none⟩ = some (.slice (some ⟨rb, ro, none⟩) rs.length cap4) ∧ W.cell? ⟨rb, ro, none⟩ = some (.string key))
      (first | exact HSZ.out _ (Below.refl _ _).drew | exact HSZ.out _ Hb.out | go_keep)
      (first
        | (go_at_call 30
           with_reducible refine (HKD2.out wa.drew ?_).mono ?_
           · exact (HBa.out).later (Below.refl _ _).drew
           rintro e wb ⟨dv, rfl, hdl, hbb'⟩
           obtain ⟨AB, capB, rfl, _, hCB⟩ := hdl.reads
           have Hb := Lib.hid (undrew hbb')
           have HBb := Lib.hid (HBa.out.later (undrew hbb'))
           have HCB : Hid (Chgs wb wb.heap.size AB DL.length DL) := hCB))
    clear z0 z1 z2 z3 z4 z5 z6
    have z0 := (HSY.out _ HBb.out).1
    go_wp2_with fail
    refine (HKC2.out _ HBb.out AB capB HCB.out).mono ?_
    rintro e wc ⟨yv, rfl, hnc, hbc⟩
    obtain ⟨AC, capC, rfl, _, hNC⟩ := hnc.reads
    have HBc := Lib.hid (HBb.out.later hbc)
    have HNC := Lib.hid hNC
    clear hnc hbc hNC z0
    have HBC : Hid (Below WY.heap.size WY (wc.alloc (.cells #[.slice AC YS.length capC] 26))) := HBc.out.later (Below.new _ _)
    have HQC : Hid (Blk (wc.alloc (.cells #[.slice AC YS.length capC] 26)) wc.heap.size 26 #[.slice AC YS.length capC]) := heap_last rfl
    have HNW : Hid (Nodes (wc.alloc (.cells #[.slice AC YS.length capC] 26)) (wc.alloc (.cells #[.slice AC YS.length capC] 26)).heap.size AC YS.length YS) := HNC.out.later (Below.new _ _)
    have HKR2 := Lib.hid (RowsOf_any AC YS.length capC _ _ _ _ YS d (wc.alloc (.cells #[.slice AC YS.length capC] 26)) (HTT.out _ (HBY.out.later HBC.out)) HNW.out (HTX.out _ (HBY.out.later HBC.out)) hty hds)
    rw [HROW.out] at HKR2
    obtain ⟨z0, z1, z2, z3, z4, z5, z6⟩ := HSY.out _ HBC.out
    have qc := HQC.out.cell 0
    have qz := HQC.out.lt
    simp at qc
    go_wp2_with fail
    refine HKR2.out.mono ?_
    rintro e wd ⟨lv, rfl, hrd, hbd⟩
    obtain ⟨AD, capD, rfl, _, hRD⟩ := rowsI_rd hrd
    have HBd := Lib.hid (HBC.out.later hbd)
    have HSR2 := Lib.hid (fun W (h : Below wd.heap.size wd W) => SameRows_same AD A7 BR.length capD cap7 BR W (hRD.later h) (HR6.out _ (HBd.out.later h)) (by omega) (fun r hr => by have := (hbs r hr).1; omega))
    clear hrd hbd hRD z0 z1 z2 z3 z4 z5 z6 qc qz
    go_wp2_with fail
    refine (HSR2.out _ (Below.refl _ _)).mono ?_
    rintro e we ⟨rfl, hbe⟩
    have HBE := Lib.hid ((HBW.out.later HBY.out).later (HBd.out.later hbe))
    clear hbe
    go_wp2_with fail
    go_ret
    exact ⟨rfl, HBE.out⟩
end Go.Proofs.YtfpcjhajjejpdaaGreatDoor
