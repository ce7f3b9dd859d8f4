/-
  FnLockTimes returns true at all bytes: the walk.
-/
import Derived.Test.YtiebcdajoddkpaaGreatDoorFnLB
namespace Go.Proofs.YtiebcdajoddkpaaGreatDoor
open Go.RowKit
set_option linter.unusedVariables false

theorem expire_small (held asks : List ItD) (tick : Int) : smalls (expireB held asks tick).2.1 ∧ smalls (expireB held asks tick).2.2.1 := by
  by_cases h : (okB held asks && inB tick 0 999999) = true
  · exact (expire_ok h).2.1.small
  · unfold expireB
    rw [if_neg h]
    exact ⟨smalls_nil, smalls_nil⟩
theorem expire_yes {held asks : List ItD} {tick : Int} (h : (expireB held asks tick).1 = 0) : (okB held asks && inB tick 0 999999) = true := by
  by_cases h2 : (okB held asks && inB tick 0 999999) = true
  · exact h2
  · unfold expireB at h
    rw [if_neg h2] at h
    cases h
theorem expire_no {held asks : List ItD} {tick : Int} (h : (expireB held asks tick).1 ≠ 0) : goneB held asks tick = [] ∧ (expireB held asks tick).2.2.2 = [] := by
  have h2 : ¬ (okB held asks && inB tick 0 999999) = true := fun h3 => h (expire_ok h3).1
  unfold goneB expireB
  rw [if_neg h2, if_neg h2]
  exact ⟨rfl, rfl⟩
theorem row_view {w : World} {base n : Nat} {v : Value} {zs : List Int} (h : w.ownsRow base 2 1 v n (zs.map (Value.int .i64))) : ∃ A c, v = .slice A n c ∧ n ≤ c ∧ Ints w w.heap.size A n zs := by
  obtain ⟨A, c, e, h1, h2⟩ := own_ints h
  exact ⟨A, c, e, h1, h2⟩
set_option maxRecDepth 100000 in
set_option maxHeartbeats 8000000 in
theorem fnLT_walk (A : Option Addr) (n c : Nat) (w : World) (htab : tabT w) (h : BytesR w w.heap.size A n) (hn : n ≤ 9223372036854775807) :
    Calls Tryz.prog 4 #[.slice A n c] w fun e w' => e = .returned (.bool true) ∧ Below w.heap.size w w' := by
  have HK1 := Lib.hid (c2Big_any A n c w hn)
  by_cases hbig : 1048576 < n
  · rw [decide_eq_true hbig] at HK1
    clear h htab
    go_enter Tryz.func4, Tryz.ntmps4
    go_wp2_with fail
    refine HK1.out.mono ?_
    rintro e w1 ⟨rfl, rfl⟩
    go_wp2_with fail
    go_ret
    exact ⟨rfl, Below.refl _ _⟩
  · rw [decide_eq_false hbig] at HK1
    have HK2 := Lib.hid (DrawExpire_any A n c w h (by omega))
    have HTB := Lib.hid htab
    clear h htab
    go_enter Tryz.func4, Tryz.ntmps4
    go_wp2_with fail
    refine HK1.out.mono ?_
    rintro e w1 ⟨rfl, rfl⟩
    go_wp2_with fail
    refine HK2.out.mono ?_
    rintro e w1 ⟨v0, v1, held, asks, vs, us, tick, rfl, g0, g1, hs0, hs1, hb1⟩
    obtain ⟨A0, c0, rfl, hc0, _, _⟩ := own_slice g0.row
    obtain ⟨A1, c1, rfl, hc1, _, _⟩ := own_slice g1.row
    have HB1 := Lib.hid (hb1.later (Below.new w1 (.cells #[.slice A0 held.length c0, .slice A1 asks.length c1] 27)))
    have G0 := Lib.hid (g0.later (Below.new w1 (.cells #[.slice A0 held.length c0, .slice A1 asks.length c1] 27)))
    have G1 := Lib.hid (g1.later (Below.new w1 (.cells #[.slice A0 held.length c0, .slice A1 asks.length c1] 27)))
    have HX3 : Hid (Blk (w1.alloc (.cells #[.slice A0 held.length c0, .slice A1 asks.length c1] 27)) w1.heap.size 27 #[.slice A0 held.length c0, .slice A1 asks.length c1]) := heap_last rfl
    have HK3 := Lib.hid (implExpire_any A0 A1 held.length c0 asks.length c1 held asks tick _ (tab_later HTB.out HB1.out) G0.out.read.2.2 G1.out.read.2.2 hs0 hs1 hc0)
    have HSM := Lib.hid (expire_small held asks tick)
    have HYES := Lib.hid (@expire_yes held asks tick)
    have HNO := Lib.hid (@expire_no held asks tick)
    have HEOK := Lib.hid (@expire_ok held asks tick)
    have HGH := Lib.hid (@gone_has held asks tick)
    have HS01 := Lib.hid (And.intro hs0 hs1)
    have hla := hs1.1
    clear g0 g1 hb1 hs0 hs1 HK1 HK2
    have HK4 := Lib.hid (fun W (h0 : Its W W.heap.size A0 held.length held) (h1 : Its W W.heap.size A1 asks.length asks) => specExpire_any A0 A1 held.length c0 asks.length c1 held asks tick W h0 h1 HS01.out.1 HS01.out.2)
    generalize expireB held asks tick = r at *
    generalize goneB held asks tick = gone at *
    obtain ⟨code, rh, ra, told⟩ := r
    go_wp2_with fail
    refine HK3.out.mono ?_
    rintro e w2 ⟨x0, x1, vs2, us2, vg, vo, rfl, k0, k1, kx, kg, kr, hb2⟩
    obtain ⟨B0, d0, rfl, hd0, _, _⟩ := own_slice k0.row
    obtain ⟨B1, d1, rfl, hd1, _, _⟩ := own_slice k1.row
    obtain ⟨T0, e0, rfl, he0, _⟩ := row_view kr
    obtain ⟨U0, u0, rfl, hu0, _⟩ := row_view kg
    have hnb := Below.new w2 (.cells #[.slice B0 rh.length d0, .slice B1 ra.length d1] 27)
    have HB2 := Lib.hid ((HB1.out.later hb2).later hnb)
    have hw1 := HB1.out.size
    have K0 := Lib.hid ((k0.base hw1).later hnb)
    have K1 := Lib.hid ((k1.base hw1).later hnb)
    have KG := Lib.hid (row_ints (own_later kg hnb))
    have HX3' := Lib.hid ((HX3.out.later hb2 HX3.out.lt).later hnb (Nat.lt_of_lt_of_le HX3.out.lt hb2.size))
    have G1' := Lib.hid ((G1.out.later hb2).later hnb)
    have HX5 : Hid (Blk (w2.alloc (.cells #[.slice B0 rh.length d0, .slice B1 ra.length d1] 27)) w2.heap.size 27 #[.slice B0 rh.length d0, .slice B1 ra.length d1]) := heap_last rfl
    have HK4' := Lib.hid (HK4.out (w2.alloc (.cells #[.slice B0 rh.length d0, .slice B1 ra.length d1] 27)) ((G0.out.later hb2).later hnb).read.2.2 ((G1.out.later hb2).later hnb).read.2.2)
    have p0 := (HX3.out.later hb2 HX3.out.lt).cell 0
    have p1 := (HX3.out.later hb2 HX3.out.lt).cell 1
    have pz := (HX3.out.later hb2 HX3.out.lt).lt
    simp at p0 p1
    clear k0 k1 kx kr kg hb2 hnb HK3 HK4 HX3 G0 G1
    go_wp2_with fail
    refine HK4'.out.mono ?_
    rintro e w3 ⟨y0, y1, vs3, us3, vg3, vo3, rfl, m0, m1, mx, mg, mr, hb3⟩
    obtain ⟨C0, f0, rfl, hf0, _, _⟩ := own_slice m0.row
    obtain ⟨C1, f1, rfl, hf1, _, _⟩ := own_slice m1.row
    have hnb := Below.new w3 (.cells #[.slice C0 rh.length f0, .slice C1 ra.length f1] 27)
    have hbb := hb3.later hnb
    have HB3 := Lib.hid (HB2.out.later hbb)
    have K0' := Lib.hid (K0.out.later hbb)
    have K1' := Lib.hid (K1.out.later hbb)
    have KG' := Lib.hid (KG.out.later hbb)
    have M0 := Lib.hid (m0.later hnb)
    have M1 := Lib.hid (m1.later hnb)
    have HX5w := HX5.out.later hb3 HX5.out.lt
    have HX5' := Lib.hid (HX5.out.later hbb HX5.out.lt)
    have HX3'' := Lib.hid (HX3'.out.later hbb HX3'.out.lt)
    have G1'' := Lib.hid (G1'.out.later hbb)
    have HK5 := Lib.hid (SameLocks_same B0 B1 C0 C1 rh.length d0 ra.length d1 f0 f1 rh ra _ K0'.out.read.2.2 K1'.out.read.2.2 M0.out.read.2.2 M1.out.read.2.2 HSM.out.1 HSM.out.2)
    have q0 := HX5w.cell 0
    have q1 := HX5w.cell 1
    have qz := HX5w.lt
    simp at q0 q1
    have hcc : (code != code) = false := by simp
    clear m0 m1 mx mg mr hb3 hnb hbb HX5w HX5 HX3' HK4' K0 K1 KG p0 p1 pz G1'
    go_wp2_with fail
    refine HK5.out.mono ?_
    rintro e w4 ⟨rfl, hb4⟩
    have HB4 := Lib.hid (HB3.out.later hb4)
    have K04 := Lib.hid (K0'.out.later hb4)
    have K14 := Lib.hid (K1'.out.later hb4)
    have KG4 := Lib.hid (KG'.out.later hb4)
    have HX54 := Lib.hid (HX5'.out.later hb4 HX5'.out.lt)
    have HX34 := Lib.hid (HX3''.out.later hb4 HX3''.out.lt)
    have G14 := Lib.hid (G1''.out.later hb4)
    clear hb4 HK5 q0 q1 qz M0 M1 K0' K1' KG' HX5' HX3'' G1''
    by_cases hc : code = 0
    · subst hc
      have HY := HYES.out rfl
      obtain ⟨_, hok, hcount, hag, hagg⟩ := HEOK.out HY
      have HOK := Lib.hid hok
      have HAG := Lib.hid hag
      have HAGG := Lib.hid hagg
      have HCT := Lib.hid hcount
      have HGO := Lib.hid (HGH.out HY)
      clear hok hcount hag hagg HY HYES HEOK HSM HNO HGH
      try dsimp only at HOK HAG HAGG HCT
      have hlr := HOK.out.alen
      have hlh := HOK.out.hlen
      have hct := HCT.out
      try dsimp only at hct
      have q0 := HX54.out.cell 0
      have q1 := HX54.out.cell 1
      have qz := HX54.out.lt
      have r0 := HX34.out.cell 0
      have r1 := HX34.out.cell 1
      have rz := HX34.out.lt
      simp at q0 q1 r0 r1
      go_wp2_with fail
      go_loopw [13] (fun i wr => ∃ k : Nat, k ≤ asks.length ∧ i = .int .i64 k ∧ Below w4.heap.size w4 wr) (fun i _ => asks.length - (intOf i).toNat)
      case atStart => exact ⟨0, Nat.zero_le _, rfl, Below.refl _ _⟩
      case round =>
        obtain ⟨k, hk, rfl, hb⟩ := hrel
        have HB := Lib.hid hb
        have s0 := cell_later hb q0
        have s1 := cell_later hb q1
        have sz := Nat.lt_of_lt_of_le qz hb.size
        have t0 := cell_later hb r0
        have t1 := cell_later hb r1
        have tz := Nat.lt_of_lt_of_le rz hb.size
        clear hb
        by_cases hlt : k < asks.length
        · obtain ⟨b1, o1, rfl, _, hc1⟩ := (G14.out.later HB.out).read.2.2.2 (by omega)
          obtain ⟨c0', c1', c2', c3', z0, z1, z2, z3, hr⟩ := hc1 k hlt
          obtain ⟨rfl, rfl, rfl, A5, n5, cap5, rfl, _, _⟩ := hr
          have hgo := HGO.out _ (getD_mem asks k hlt)
          clear hc1
          generalize asks.getD k default = dd at *
          have HOV : Hid (overB tick dd = (decide (1 ≤ dd.b) && decide (dd.b ≤ tick))) := rfl
          have HKC := Lib.hid (fun W (hW : Below wr.heap.size wr W) => c2Has_any U0 gone.length u0 gone dd.a W ((KG4.out.later HB.out).later hW) (by omega))
          rw [hgo, HOV.out] at HKC
          clear hgo HOV
          generalize dd.a = da at *
          generalize dd.b = db at *
          generalize dd.name = dn at *
          have HN := Lib.hid (Below.new wr (.cells #[.int .i64 da, .int .i64 db, .string dn, .slice A5 n5 cap5] 42))
          by_cases hd1 : 1 ≤ db
          · by_cases hd2 : db ≤ tick
            · rw [decide_eq_true hd1, decide_eq_true hd2] at HKC
              have hd0 : 0 < db := by omega
              go_wp2_with fail
              go_region_with (first
                | (go_at_call 16
                   refine (HKC.out _ (by exact HN.out.drew)).mono ?_
                   rintro e w5 ⟨rfl, hb5⟩
                   have hb5' := undrew hb5
                   have hbk := Blk.later (heap_alloc_new wr _) hb5' (by simp)
                   have HB5 := Lib.hid ((HB.out.later HN.out).later hb5')
                   have y0 := hbk.cell 0
                   have y1 := hbk.cell 1
                   have yz := hbk.lt
                   simp at y0 y1
                   clear hb5 hb5' hbk))
              all_goals
                go_wp2_with fail
                go_roundw
                case rel => exact ⟨k + 1, by omega, by go_num, HB5.out⟩
                case measure => simp [intOf]; omega
            · rw [decide_eq_true hd1, decide_eq_false hd2] at HKC
              have hd0 : 0 < db := by omega
              go_wp2_with fail
              go_region_with (first
                | (go_at_call 16
                   refine (HKC.out _ (by exact HN.out.drew)).mono ?_
                   rintro e w5 ⟨rfl, hb5⟩
                   have hb5' := undrew hb5
                   have hbk := Blk.later (heap_alloc_new wr _) hb5' (by simp)
                   have HB5 := Lib.hid ((HB.out.later HN.out).later hb5')
                   have y0 := hbk.cell 0
                   have y1 := hbk.cell 1
                   have yz := hbk.lt
                   simp at y0 y1
                   clear hb5 hb5' hbk))
              all_goals
                go_wp2_with fail
                go_roundw
                case rel => exact ⟨k + 1, by omega, by go_num, HB5.out⟩
                case measure => simp [intOf]; omega
          · rw [decide_eq_false hd1] at HKC
            have hd0 : ¬ 0 < db := by omega
            have hbk := (show Blk _ _ _ _ from heap_alloc_new wr (.cells #[.int .i64 da, .int .i64 db, .string dn, .slice A5 n5 cap5] 42)).cell
            have y0 : (wr.alloc (.cells #[.int .i64 da, .int .i64 db, .string dn, .slice A5 n5 cap5] 42)).cell? ⟨wr.heap.size, 0, none⟩ = some (.int .i64 da) := hbk 0
            have y1 : (wr.alloc (.cells #[.int .i64 da, .int .i64 db, .string dn, .slice A5 n5 cap5] 42)).cell? ⟨wr.heap.size, 1, none⟩ = some (.int .i64 db) := hbk 1
            clear hbk
            go_wp2_with fail
            refine wp_region_held_drew (S := fun w' => w'.cell? ⟨wr.heap.size, 0, none⟩ = some (.int .i64 da) ∧ w'.cell? ⟨wr.heap.size, 1, none⟩ = some (.int .i64 db)) (by kernel_rfl) ⟨y0, y1⟩ (fun hHeld => ?_)
            refine wpAnyH_take (i := 0) (v := .slice U0 gone.length u0) rfl (by kernel_rfl) (by kernel_rfl) (by kernel_rfl) (fun _ _ _ h => h) (Or.inl ⟨by rfl, ?_⟩) (by assumption) ?_
            · intro w hSw
              have hs1 := hSw.1
              have hs2 := hSw.2
              go_simp
            simp only [Act.put, List.setIfInBounds_toArray, List.set_cons_zero, List.set_cons_succ, List.getElem_toArray, List.getElem_cons_zero]
            refine wpAnyH_take (i := 1) (v := .pointer (some ⟨wr.heap.size, 0, none⟩)) rfl (by kernel_rfl) (by kernel_rfl) (by kernel_rfl) (fun _ _ _ h => h) (Or.inl ⟨by rfl, ?_⟩) (by assumption) ?_
            · intro w hSw
              have hs1 := hSw.1
              have hs2 := hSw.2
              go_simp
            simp only [Act.put, List.setIfInBounds_toArray, List.set_cons_zero, List.set_cons_succ, List.getElem_toArray, List.getElem_cons_succ, List.getElem_cons_zero]
            refine wpAnyH_take (i := 2) (v := .int .i64 da) rfl (by kernel_rfl) (by kernel_rfl) (by kernel_rfl) (fun _ _ _ h => h) (Or.inl ⟨by rfl, ?_⟩) (by assumption) ?_
            · intro w hSw
              have hs1 := hSw.1
              have hs2 := hSw.2
              go_simp
            simp only [Act.put, List.setIfInBounds_toArray, List.set_cons_zero, List.set_cons_succ, List.getElem_toArray, List.getElem_cons_succ, List.getElem_cons_zero]
            refine wpAnyH_take (i := 4) (v := .pointer (some ⟨wr.heap.size, 1, none⟩)) rfl (by kernel_rfl) (by kernel_rfl) (by kernel_rfl) (fun _ _ _ h => h) (Or.inl ⟨by rfl, ?_⟩) (by assumption) ?_
            · intro w hSw
              have hs1 := hSw.1
              have hs2 := hSw.2
              go_simp
            simp only [Act.put, List.setIfInBounds_toArray, List.set_cons_zero, List.set_cons_succ, List.getElem_toArray, List.getElem_cons_succ, List.getElem_cons_zero]
            refine wpAnyH_take (i := 5) (v := .int .i64 db) rfl (by kernel_rfl) (by kernel_rfl) (by kernel_rfl) (fun _ _ _ h => h) (Or.inl ⟨by rfl, ?_⟩) (by assumption) ?_
            · intro w hSw
              have hs1 := hSw.1
              have hs2 := hSw.2
              go_simp
            simp only [Act.put, List.setIfInBounds_toArray, List.set_cons_zero, List.set_cons_succ, List.getElem_toArray, List.getElem_cons_succ, List.getElem_cons_zero]
            refine wpAnyH_take (i := 6) (v := .bool false) rfl (by kernel_rfl) (by kernel_rfl) (by kernel_rfl) (fun _ _ _ h => h) (Or.inl ⟨by rfl, ?_⟩) (by assumption) ?_
            · intro w hSw
              have hs1 := hSw.1
              have hs2 := hSw.2
              go_simp
            simp only [Act.put, List.setIfInBounds_toArray, List.set_cons_zero, List.set_cons_succ, List.getElem_toArray, List.getElem_cons_succ, List.getElem_cons_zero]
            refine wpAnyH_ready (rs := [3]) (by kernel_rfl) (by simp) ?_
            refine AllReadyH.cons rfl (fun K hK => ?_) AllReadyH.nil
            go_simp
            refine (HKC.out _ (by exact HN.out.drew)).mono ?_
            rintro e w5 ⟨rfl, hb5⟩
            have hb5' := undrew hb5
            have HB5 := Lib.hid ((HB.out.later HN.out).later hb5')
            dsimp only
            refine hK.out _ _ ?_ (fun hHeld2 => ?_)
            · exact ⟨cell_later hb5' y0, cell_later hb5' y1⟩
            clear hK K hb5 hb5'
            refine wpAnyH_take (i := 7) (v := .bool false) rfl (by kernel_rfl) (by kernel_rfl) (by kernel_rfl) (fun _ _ _ h => h) (Or.inl ⟨by rfl, ?_⟩) (by assumption) ?_
            · intro w hSw
              have hs1 := hSw.1
              have hs2 := hSw.2
              go_simp
            simp only [Act.put, List.setIfInBounds_toArray, List.set_cons_zero, List.set_cons_succ, List.getElem_toArray, List.getElem_cons_succ, List.getElem_cons_zero]
            refine wpAnyH_take (i := 8) (v := undef) rfl (by kernel_rfl) (by kernel_rfl) (by kernel_rfl) (fun _ _ _ h => h) (Or.inr ⟨by rfl, rfl⟩) (by assumption) ?_
            simp only [Act.put, List.setIfInBounds_toArray, List.set_cons_zero, List.set_cons_succ, List.getElem_toArray, List.getElem_cons_succ, List.getElem_cons_zero]
            refine wpAnyH_take (i := 9) (v := undef) rfl (by kernel_rfl) (by kernel_rfl) (by kernel_rfl) (fun _ _ _ h => h) (Or.inr ⟨by rfl, rfl⟩) (by assumption) ?_
            simp only [Act.put, List.setIfInBounds_toArray, List.set_cons_zero, List.set_cons_succ, List.getElem_toArray, List.getElem_cons_succ, List.getElem_cons_zero]
            refine wpAnyH_take (i := 10) (v := undef) rfl (by kernel_rfl) (by kernel_rfl) (by kernel_rfl) (fun _ _ _ h => h) (Or.inr ⟨by rfl, rfl⟩) (by assumption) ?_
            simp only [Act.put, List.setIfInBounds_toArray, List.set_cons_zero, List.set_cons_succ, List.getElem_toArray, List.getElem_cons_succ, List.getElem_cons_zero]
            refine wpAnyH_take (i := 11) (v := undef) rfl (by kernel_rfl) (by kernel_rfl) (by kernel_rfl) (fun _ _ _ h => h) (Or.inr ⟨by rfl, rfl⟩) (by assumption) ?_
            simp only [Act.put, List.setIfInBounds_toArray, List.set_cons_zero, List.set_cons_succ, List.getElem_toArray, List.getElem_cons_succ, List.getElem_cons_zero]
            refine wpAnyH_take (i := 12) (v := .bool false) rfl (by kernel_rfl) (by kernel_rfl) (by kernel_rfl) (fun _ _ _ h => h) (Or.inl ⟨by rfl, ?_⟩) (by assumption) ?_
            · intro w hSw
              have hs1 := hSw.1
              have hs2 := hSw.2
              go_simp
            simp only [Act.put, List.setIfInBounds_toArray, List.set_cons_zero, List.set_cons_succ, List.getElem_toArray, List.getElem_cons_succ, List.getElem_cons_zero]
            refine wpAnyH_take (i := 13) (v := .bool false) rfl (by kernel_rfl) (by kernel_rfl) (by kernel_rfl) (fun _ _ _ h => h) (Or.inl ⟨by rfl, ?_⟩) (by assumption) ?_
            · intro w hSw
              have hs1 := hSw.1
              have hs2 := hSw.2
              go_simp
            simp only [Act.put, List.setIfInBounds_toArray, List.set_cons_zero, List.set_cons_succ, List.getElem_toArray, List.getElem_cons_succ, List.getElem_cons_zero]
            refine wpAnyH_done (by kernel_rfl) ?_ _
            go_wp2_with fail
            go_roundw
            case rel => exact ⟨k + 1, by omega, by go_num, HB5.out⟩
            case measure => simp [intOf]; omega
        · obtain rfl : k = asks.length := by omega
          have HBw := Lib.hid (HB4.out.later HB.out)
          have L0 := Lib.hid (K04.out.later HB.out)
          have L1 := Lib.hid (K14.out.later HB.out)
          have HXw := Lib.hid (HX54.out.later HB.out HX54.out.lt)
          have HXv := Lib.hid (HX34.out.later HB.out HX34.out.lt)
          have HKE := Lib.hid (implExpire_any B0 B1 rh.length d0 ra.length d1 rh ra tick wr (tab_later HTB.out HBw.out) L0.out.read.2.2 L1.out.read.2.2 HOK.out.small.1 HOK.out.small.2 hd0)
          rw [HAG.out, HAGG.out] at HKE
          go_wp2_with fail
          refine HKE.out.mono ?_
          rintro e w6 ⟨x0, x1, vs6, us6, vg6, vo6, rfl, n0, n1, nx, ng, nr, hb6⟩
          obtain ⟨D0, i0, rfl, hi0, _, _⟩ := own_slice n0.row
          obtain ⟨D1, i1, rfl, hi1, _, _⟩ := own_slice n1.row
          obtain ⟨P0, j0, rfl, hj0, _⟩ := row_view ng
          obtain ⟨P1, j1, rfl, hj1, _⟩ := row_view nr
          have hnb := Below.new w6 (.cells #[.slice D0 rh.length i0, .slice D1 ra.length i1] 27)
          have hbb := hb6.later hnb
          have HKS := Lib.hid (SameLocks_same D0 D1 B0 B1 rh.length i0 ra.length i1 d0 d1 rh ra _ (n0.later hnb).read.2.2 (n1.later hnb).read.2.2 (L0.out.later hbb).read.2.2 (L1.out.later hbb).read.2.2 HOK.out.small.1 HOK.out.small.2)
          have HB6 := Lib.hid (HBw.out.later hbb)
          have HX6 := Lib.hid (HXw.out.later hbb HXw.out.lt)
          have HV6 := Lib.hid (HXv.out.later hbb HXv.out.lt)
          have a0 := (HXw.out.later hb6 HXw.out.lt).cell 0
          have a1 := (HXw.out.later hb6 HXw.out.lt).cell 1
          have az := (HXw.out.later hb6 HXw.out.lt).lt
          simp at a0 a1
          clear n0 n1 nx ng nr hb6 hnb hbb HKE
          go_wp2_with fail
          refine HKS.out.mono ?_
          rintro e w7 ⟨rfl, hb7⟩
          have HB7 := Lib.hid (HB6.out.later hb7)
          have b0 := (HX6.out.later hb7 HX6.out.lt).cell 1
          have bz := (HX6.out.later hb7 HX6.out.lt).lt
          have c0 := (HV6.out.later hb7 HV6.out.lt).cell 1
          have cz := (HV6.out.later hb7 HV6.out.lt).lt
          simp at b0 c0
          clear hb7 HKS a0 a1 az
          have heq : ((ra.length : Int) + gone.length + told.length == (asks.length : Int)) = true := by rw [beq_iff_eq]; omega
          have heq2 : (ra.length : Int) + gone.length + told.length = (asks.length : Int) := by omega
          go_wp2_with fail
          go_ret
          exact ⟨rfl, HB7.out⟩
    · have hc2 : (code != 0) = true := by simpa using hc
      obtain ⟨rfl, h2⟩ := HNO.out hc
      try dsimp only at h2
      subst h2
      go_wp2_with fail
      go_ret
      exact ⟨rfl, HB4.out⟩
end Go.Proofs.YtiebcdajoddkpaaGreatDoor
