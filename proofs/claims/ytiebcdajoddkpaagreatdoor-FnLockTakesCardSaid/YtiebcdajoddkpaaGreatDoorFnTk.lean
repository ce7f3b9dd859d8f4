/-
  FnLockTakes returns true at all bytes: the walk.
-/
import Derived.Test.YtiebcdajoddkpaaGreatDoorFnLB
namespace Go.Proofs.YtiebcdajoddkpaaGreatDoor
open Go.RowKit
set_option linter.unusedVariables false

theorem row_view2 {w : World} {base n : Nat} {v : Value} {zs : List Int} (h : w.ownsRow base 2 1 v n (zs.map (Value.int .i64))) : ∃ A c, v = .slice A n c ∧ n ≤ c ∧ Ints w w.heap.size A n zs := by
  obtain ⟨A, c, e, h1, h2⟩ := own_ints h
  exact ⟨A, c, e, h1, h2⟩
set_option maxRecDepth 100000 in
set_option maxHeartbeats 8000000 in
theorem fnTk_walk (A : Option Addr) (n c : Nat) (w : World) (htab : tabT w) (h : BytesR w w.heap.size A n) (hn : n ≤ 9223372036854775807) :
    Calls Tryz.prog 5 #[.slice A n c] w fun e w' => e = .returned (.bool true) ∧ Below w.heap.size w w' := by
  have HK1 := Lib.hid (c2Big_any A n c w hn)
  by_cases hbig : 1048576 < n
  · rw [decide_eq_true hbig] at HK1
    clear h htab
    go_enter Tryz.func5, Tryz.ntmps5
    go_wp2_with fail
    refine HK1.out.mono ?_
    rintro e w1 ⟨rfl, rfl⟩
    go_wp2_with fail
    go_ret
    exact ⟨rfl, Below.refl _ _⟩
  · rw [decide_eq_false hbig] at HK1
    have HK2 := Lib.hid (DrawTakeLock_any A n c w h (by omega))
    have HTB := Lib.hid htab
    clear h htab
    go_enter Tryz.func5, Tryz.ntmps5
    go_wp2_with fail
    refine HK1.out.mono ?_
    rintro e w1 ⟨rfl, rfl⟩
    go_wp2_with fail
    refine HK2.out.mono ?_
    rintro e w1 ⟨v0, v1, held, asks, vs, us, job, nm, vn, ss, t, rfl, g0, g1, hs0, hs1, gn, hn1, hn2, hb1⟩
    obtain ⟨A0, c0, rfl, hc0, _, _⟩ := own_slice g0.row
    obtain ⟨A1, c1, rfl, hc1, _, _⟩ := own_slice g1.row
    obtain ⟨S, q, rfl, hq, _, _⟩ := gn.strs
    have hnb := Below.new w1 (.cells #[.slice A0 held.length c0, .slice A1 asks.length c1] 27)
    have HB1 := Lib.hid (hb1.later hnb)
    have G0 := Lib.hid (g0.later hnb)
    have G1 := Lib.hid (g1.later hnb)
    have HSS : Hid (∀ W, Below (w1.alloc (.cells #[.slice A0 held.length c0, .slice A1 asks.length c1] 27)).heap.size (w1.alloc (.cells #[.slice A0 held.length c0, .slice A1 asks.length c1] 27)) W → Strs W W.heap.size S ss.length ss) := fun W hW => SubO.strs3 (own_later gn (hnb.later hW))
    have HST := Lib.hid (tgt_tiny (job := job) hn1 hn2)
    have HX3 : Hid (Blk (w1.alloc (.cells #[.slice A0 held.length c0, .slice A1 asks.length c1] 27)) w1.heap.size 27 #[.slice A0 held.length c0, .slice A1 asks.length c1]) := heap_last rfl
    have HK3 := Lib.hid (TakeLock_any A0 A1 held.length c0 asks.length c1 held asks job nm S ss.length q ss t _ (tab_later HTB.out HB1.out) G0.out.read.2.2 G1.out.read.2.2 hs0 hs1 hc0 (HSS.out _ (Below.refl _ _)) hq HST.out)
    rw [tl_eq] at HK3
    have HSM := Lib.hid (tl_small held asks job t nm ss)
    have HCS := Lib.hid (@tl_cases held asks job t nm ss)
    have HS01 := Lib.hid (And.intro hs0 hs1)
    have hla := hs1.1
    clear g0 g1 hb1 hs0 hs1 gn hn1 hn2 hnb HK1 HK2
    have HK4 := Lib.hid (fun W (h0 : Its W W.heap.size A0 held.length held) (h1 : Its W W.heap.size A1 asks.length asks) (h2 : Strs W W.heap.size S ss.length ss) => specTakeLock_any A0 A1 held.length c0 asks.length c1 held asks job nm S ss.length q ss t W h0 h1 HS01.out.1 HS01.out.2 h2 HST.out)
    generalize tlB held asks job nm ss t = r at *
    obtain ⟨gt, code, rh, ra⟩ := r
    go_wp2_with fail
    refine HK3.out.mono ?_
    rintro e w2 ⟨x0, x1, vs2, us2, rfl, k0, k1, kx, hb2⟩
    obtain ⟨B0, d0, rfl, hd0, _, _⟩ := own_slice k0.row
    obtain ⟨B1, d1, rfl, hd1, _, _⟩ := own_slice k1.row
    have hnb := Below.new w2 (.cells #[.slice B0 rh.length d0, .slice B1 ra.length d1] 27)
    have hbb := hb2.later hnb
    have HB2 := Lib.hid (HB1.out.later hbb)
    have HSB2 := Lib.hid hbb
    have hw1 := HB1.out.size
    have K0 := Lib.hid ((k0.base hw1).later hnb)
    have K1 := Lib.hid ((k1.base hw1).later hnb)
    have HX3' := Lib.hid (HX3.out.later hbb HX3.out.lt)
    have G0' := Lib.hid (G0.out.later hbb)
    have G1' := Lib.hid (G1.out.later hbb)
    have HX5 : Hid (Blk (w2.alloc (.cells #[.slice B0 rh.length d0, .slice B1 ra.length d1] 27)) w2.heap.size 27 #[.slice B0 rh.length d0, .slice B1 ra.length d1]) := heap_last rfl
    have HK4' := Lib.hid (HK4.out _ G0'.out.read.2.2 G1'.out.read.2.2 (HSS.out _ hbb))
    have p0 := (HX3.out.later hb2 HX3.out.lt).cell 0
    have p1 := (HX3.out.later hb2 HX3.out.lt).cell 1
    have pz := (HX3.out.later hb2 HX3.out.lt).lt
    simp at p0 p1
    clear k0 k1 kx hb2 hnb hbb HK3 HK4 HX3 G0 G1
    go_wp2_with fail
    refine HK4'.out.mono ?_
    rintro e w3 ⟨y0, y1, vs3, us3, rfl, m0, m1, mx, hb3⟩
    obtain ⟨C0, f0, rfl, hf0, _, _⟩ := own_slice m0.row
    obtain ⟨C1, f1, rfl, hf1, _, _⟩ := own_slice m1.row
    have hnb := Below.new w3 (.cells #[.slice C0 rh.length f0, .slice C1 ra.length f1] 27)
    have hbb := hb3.later hnb
    have HB3 := Lib.hid (HB2.out.later hbb)
    have HSB3 := Lib.hid (HSB2.out.later hbb)
    have K0' := Lib.hid (K0.out.later hbb)
    have K1' := Lib.hid (K1.out.later hbb)
    have M0 := Lib.hid (m0.later hnb)
    have M1 := Lib.hid (m1.later hnb)
    have HX5w := HX5.out.later hb3 HX5.out.lt
    have HX5' := Lib.hid (HX5.out.later hbb HX5.out.lt)
    have HX3'' := Lib.hid (HX3'.out.later hbb HX3'.out.lt)
    have G0'' := Lib.hid (G0'.out.later hbb)
    have G1'' := Lib.hid (G1'.out.later hbb)
    have HK5 := Lib.hid (SameLocks_same B0 B1 C0 C1 rh.length d0 ra.length d1 f0 f1 rh ra _ K0'.out.read.2.2 K1'.out.read.2.2 M0.out.read.2.2 M1.out.read.2.2 HSM.out.1 HSM.out.2)
    have q0 := HX5w.cell 0
    have q1 := HX5w.cell 1
    have qz := HX5w.lt
    simp at q0 q1
    have hcc : (code != code) = false := by simp
    have hgg : (gt != gt) = false := by cases gt <;> rfl
    clear m0 m1 mx hb3 hnb hbb HX5w HX5 HX3' HK4' K0 K1 p0 p1 pz G0' G1'
    go_wp2_with fail
    refine HK5.out.mono ?_
    rintro e w4 ⟨rfl, hb4⟩
    have HB4 := Lib.hid (HB3.out.later hb4)
    have HSB4 := Lib.hid (HSB3.out.later hb4)
    have K04 := Lib.hid (K0'.out.later hb4)
    have K14 := Lib.hid (K1'.out.later hb4)
    have HX54 := Lib.hid (HX5'.out.later hb4 HX5'.out.lt)
    have HX34 := Lib.hid (HX3''.out.later hb4 HX3''.out.lt)
    have G04 := Lib.hid (G0''.out.later hb4)
    have G14 := Lib.hid (G1''.out.later hb4)
    clear hb4 HK5 q0 q1 qz M0 M1 K0' K1' HX5' HX3'' G0'' G1''
    by_cases hc : code = 0
    · subst hc
      obtain ⟨hok, hij, hth, hit, hak, hro, hor⟩ := HCS.out rfl
      have HO := Lib.hid (okP_of hok)
      have HTH := Lib.hid hth
      have HIJ := Lib.hid hij
      have HRI : Hid (resI held asks job nm ss = true) := by unfold Hid resI; rw [locksI_eq, hok, hij, hth]; rfl
      have HOK := Lib.hid hok
      have hcn := cnt_nine HO.out job nm ss
      have HKW := Lib.hid (specLockCount_any A0 A1 held.length c0 asks.length c1 held asks job nm S ss.length q ss w4 G04.out.read.2.2 G14.out.read.2.2 HS01.out.1 HS01.out.2 (HSS.out _ HSB4.out) HST.out hok)
      have l0 := HX34.out.cell 0
      have l1 := HX34.out.cell 1
      have lz := HX34.out.lt
      simp at l0 l1
      go_wp2_with fail
      refine HKW.out.mono ?_
      rintro e w5 ⟨rfl, hb5⟩
      have HB5 := Lib.hid (HB4.out.later hb5)
      have HSB5 := Lib.hid (HSB4.out.later hb5)
      have K05 := Lib.hid (K04.out.later hb5)
      have K15 := Lib.hid (K14.out.later hb5)
      have HX55 := Lib.hid (HX54.out.later hb5 HX54.out.lt)
      have HX35 := Lib.hid (HX34.out.later hb5 HX34.out.lt)
      have G05 := Lib.hid (G04.out.later hb5)
      have G15 := Lib.hid (G14.out.later hb5)
      have hit' := hit
      have hro' := hro
      clear hb5 HKW l0 l1 lz K04 K14 HX54 HX34 G04 G14 HB4 HSB4 hok hij hth hit hro HCS
      have q0 := HX55.out.cell 0
      have q1 := HX55.out.cell 1
      have qz := HX55.out.lt
      have l0 := HX35.out.cell 0
      have l1 := HX35.out.cell 1
      have lz := HX35.out.lt
      simp at q0 q1 l0 l1
      rcases hor with ⟨hbl, hr⟩ | ⟨hbl, hr⟩
      · obtain ⟨rfl, rfl, hra⟩ : gt = false ∧ rh = held ∧ ra = asks ++ [⟨job, t, nm, ss⟩] := by simpa using hr
        have hat := ask_at (job := job) (t := t) (nm := nm) (ss := ss) hak
        have hox := HO.out.ask (t := t) HIJ.out hit' HTH.out hak
        have hfw := ask_waits (t := t) hak hbl
        have hgd : (asks ++ [(⟨job, t, nm, ss⟩ : ItD)]).getD asks.length default = ⟨job, t, nm, ss⟩ := by rw [getD_eq _ _ (by simp)]; simp
        rw [← hra] at hat hox hfw hgd
        have hri : resI rh ra job nm ss = true := by unfold resI; rw [locksI_eq, hox.okB, HIJ.out, HTH.out]; rfl
        have hnr : ra.length = asks.length + 1 := by rw [hra]; simp
        have HKL := Lib.hid (implLockCount_any B0 B1 rh.length d0 _ d1 rh _ job nm S ss.length q ss w5 (tab_later HTB.out HB5.out) K05.out.read.2.2 K15.out.read.2.2 hox.small.1 hox.small.2 hd0 hd1 (HSS.out _ HSB5.out) hq HST.out hri)
        have HKF := Lib.hid (fun W (hW : Below w5.heap.size w5 W) => implWaitsFor_any B0 B1 rh.length d0 _ d1 rh _ job asks.length W (tab_later HTB.out (HB5.out.later hW)) (K05.out.later hW).read.2.2 (K15.out.later hW).read.2.2 hox.small.1 hox.small.2 hd0 hd1 hox.okB HIJ.out hat (by rw [hnr]; omega))
        rw [hgd, hfw] at HKF
        have HNR := Lib.hid hnr
        clear hat hox hfw hgd hri hbl hr hra hnr
        generalize cntB rh job nm ss = cn at *
        have hceq : (cn == cn) = true := by simp
        go_wp2_with fail
        refine HKL.out.mono ?_
        rintro e w6 ⟨rfl, hb6⟩
        have HKF6 := Lib.hid (HKF.out w6 hb6)
        have HB6 := Lib.hid (HB5.out.later hb6)
        have HX56 := Lib.hid (HX55.out.later hb6 HX55.out.lt)
        have HX36 := Lib.hid (HX35.out.later hb6 HX35.out.lt)
        clear hb6 HKL HKF q0 q1 qz l0 l1 lz
        have q0 := HX56.out.cell 0
        have q1 := HX56.out.cell 1
        have qz := HX56.out.lt
        simp at q0 q1
        go_wp2_with fail
        refine HKF6.out.mono ?_
        rintro e w7 ⟨A9, m9, c9, rfl, h9, h9b, hb7⟩
        have hm9 : 0 < m9 := of_decide_eq_true h9
        have hm92 : (0 : Int) < (m9 : Int) := by omega
        have HB7 := Lib.hid (HB6.out.later hb7)
        have z1 := (HX56.out.later hb7 HX56.out.lt).cell 1
        have zz := (HX56.out.later hb7 HX56.out.lt).lt
        have u1 := (HX36.out.later hb7 HX36.out.lt).cell 1
        have uz := (HX36.out.later hb7 HX36.out.lt).lt
        simp at z1 u1
        have hnr := HNR.out
        have hnr2 : (ra.length : Int) = (asks.length : Int) + 1 := by omega
        have hnr3 : ((ra.length : Int) == (asks.length : Int) + 1) = true := by rw [beq_iff_eq]; exact hnr2
        have hwr : IntKind.i64.wrap ((asks.length : Int) + 1) = (asks.length : Int) + 1 := by rw [IntKind.wrap_i64]; omega
        clear hnr hnr2 h9 hb7 HKF6 q0 q1 qz
        go_wp2_with fail
        go_ret
        exact ⟨rfl, HB7.out⟩
      · obtain ⟨rfl, hrh, rfl⟩ : gt = true ∧ rh = acqI held (tgt job nm ss) ∧ ra = asks := by simpa using hr
        have hb2 : held.any (hBlkP job nm ss) = false := by
          have h := hbl
          unfold blocksB at h
          rw [Bool.or_eq_false_iff] at h
          exact h.1
        have hox := HO.out.acq HIJ.out HTH.out hro' hb2
        have hdb := drop_back HO.out hox HIJ.out HTH.out
        have hca := cnt_acq HO.out job nm ss
        rw [← hrh] at hox hdb hca
        have HKD := Lib.hid (implDropLock_any B0 B1 _ d0 ra.length d1 _ ra job nm S ss.length q ss w5 (tab_later HTB.out HB5.out) K05.out.read.2.2 K15.out.read.2.2 hox.small.1 hox.small.2 hd0 (HSS.out _ HSB5.out) hq HST.out)
        rw [hdb] at HKD
        have hri : resI rh ra job nm ss = true := by unfold resI; rw [locksI_eq, hox.okB, HIJ.out, HTH.out]; rfl
        have HKX := Lib.hid (fun W (hW : Below w5.heap.size w5 W) => implLockCount_any B0 B1 _ d0 ra.length d1 _ ra job nm S ss.length q ss W (tab_later HTB.out (HB5.out.later hW)) (K05.out.later hW).read.2.2 (K15.out.later hW).read.2.2 hox.small.1 hox.small.2 hd0 hd1 (HSS.out _ (HSB5.out.later hW)) hq HST.out hri)
        rw [hca] at HKX
        have hgo := HO.out.grant
        have hgc : cntB (grantB held ra).1 job nm ss = cntB held job nm ss := cnt_grantN _ _ _ _ (asked_none hak)
        have hgn := @grant_none held ra
        generalize grantB held ra = R at *
        obtain ⟨gh, ga, told⟩ := R
        have hgr : grOk (gh, ga, told) = ((0 : Int), gh, ga, told) := rfl
        rw [hgr] at HKD
        clear hgr
        have hriy : resI gh ga job nm ss = true := by unfold resI; rw [locksI_eq, hgo.okB, HIJ.out, HTH.out]; rfl
        have HGO := Lib.hid hgo
        have HGN := Lib.hid hgn
        have HGC := Lib.hid hgc
        have HRY := Lib.hid hriy
        clear hb2 hox hdb hca hri hgo hgc hgn hriy hbl hr hrh
        generalize cntB held job nm ss = cn at *
        go_wp2_with fail
        refine HKD.out.mono ?_
        rintro e w6 ⟨x0, x1, vs6, us6, vo6, rfl, n0, n1, nx6, nr, hb6⟩
        obtain ⟨D0, i0, rfl, hi0, _, _⟩ := own_slice n0.row
        obtain ⟨D1, i1, rfl, hi1, _, _⟩ := own_slice n1.row
        obtain ⟨P1, j1, rfl, hj1, _⟩ := row_view2 nr
        have hnb := Below.new w6 (.cells #[.slice D0 gh.length i0, .slice D1 ga.length i1] 27)
        have hbb := hb6.later hnb
        have HBB := Lib.hid hbb
        have HB6 := Lib.hid (HB5.out.later hbb)
        have HSB6 := Lib.hid (HSB5.out.later hbb)
        have N0 := Lib.hid (n0.later hnb)
        have N1 := Lib.hid (n1.later hnb)
        have HY6 : Hid (Blk (w6.alloc (.cells #[.slice D0 gh.length i0, .slice D1 ga.length i1] 27)) w6.heap.size 27 #[.slice D0 gh.length i0, .slice D1 ga.length i1]) := heap_last rfl
        have HX56 := Lib.hid (HX55.out.later hbb HX55.out.lt)
        have HX36 := Lib.hid (HX35.out.later hbb HX35.out.lt)
        have HKX6 := Lib.hid (HKX.out _ hbb)
        have s0 := (HX55.out.later hb6 HX55.out.lt).cell 0
        have s1 := (HX55.out.later hb6 HX55.out.lt).cell 1
        have sz := (HX55.out.later hb6 HX55.out.lt).lt
        simp at s0 s1
        have hwc : IntKind.i64.wrap (cn + 1) = cn + 1 := by rw [IntKind.wrap_i64]; omega
        have hce : (cn + 1 == cn + 1) = true := by simp
        have hce2 : (cn == cn) = true := by simp
        clear n0 n1 nx6 nr hb6 hnb hbb HKX HKD q0 q1 qz l0 l1 lz
        go_wp2_with fail
        refine HKX6.out.mono ?_
        rintro e w7 ⟨rfl, hb7⟩
        have HB7 := Lib.hid (HB6.out.later hb7)
        have HSB7 := Lib.hid (HSB6.out.later hb7)
        have HBB7 := Lib.hid (HBB.out.later hb7)
        have N07 := Lib.hid (N0.out.later hb7)
        have N17 := Lib.hid (N1.out.later hb7)
        have HY7 := Lib.hid (HY6.out.later hb7 HY6.out.lt)
        have HX37 := Lib.hid (HX36.out.later hb7 HX36.out.lt)
        have HKY := Lib.hid (implLockCount_any D0 D1 gh.length i0 ga.length i1 gh ga job nm S ss.length q ss w7 (tab_later HTB.out HB7.out) N07.out.read.2.2 N17.out.read.2.2 HGO.out.small.1 HGO.out.small.2 hi0 hi1 (HSS.out _ HSB7.out) hq HST.out HRY.out)
        rw [HGC.out] at HKY
        clear hb7 HKX6 s0 s1 sz
        have t0 := HY7.out.cell 0
        have t1 := HY7.out.cell 1
        have tz := HY7.out.lt
        have u0 := HX37.out.cell 0
        have u1 := HX37.out.cell 1
        have uz := HX37.out.lt
        simp at t0 t1 u0 u1
        go_wp2_with fail
        refine HKY.out.mono ?_
        rintro e w8 ⟨rfl, hb8⟩
        have HB8 := Lib.hid (HB7.out.later hb8)
        by_cases htl : 0 < told.length
        · have htl2 : (0 : Int) < (told.length : Int) := by omega
          clear hb8 HKY
          go_wp2_with fail
          go_ret
          exact ⟨rfl, HB8.out⟩
        · have htl0 : told.length = 0 := by omega
          have hg := HGN.out htl0
          obtain ⟨rfl, rfl, rfl⟩ : gh = held ∧ ga = ra ∧ told = [] := by simpa using hg
          have N08 := Lib.hid (N07.out.later hb8)
          have N18 := Lib.hid (N17.out.later hb8)
          have G08 := Lib.hid ((G05.out.later HBB7.out).later hb8)
          have G18 := Lib.hid ((G15.out.later HBB7.out).later hb8)
          have HKS := Lib.hid (SameLocks_same D0 D1 A0 A1 _ i0 _ i1 c0 c1 _ _ w8 N08.out.read.2.2 N18.out.read.2.2 G08.out.read.2.2 G18.out.read.2.2 HGO.out.small.1 HGO.out.small.2)
          have y0 := (HY7.out.later hb8 HY7.out.lt).cell 0
          have y1 := (HY7.out.later hb8 HY7.out.lt).cell 1
          have yz := (HY7.out.later hb8 HY7.out.lt).lt
          have z0 := (HX37.out.later hb8 HX37.out.lt).cell 0
          have z1 := (HX37.out.later hb8 HX37.out.lt).cell 1
          have zz := (HX37.out.later hb8 HX37.out.lt).lt
          simp at y0 y1 z0 z1
          clear hb8 HKY t0 t1 tz u0 u1 uz hg htl0
          go_wp2_with fail
          refine HKS.out.mono ?_
          rintro e w9 ⟨rfl, hb9⟩
          have HB9 := Lib.hid (HB8.out.later hb9)
          clear hb9
          go_wp2_with fail
          go_ret
          exact ⟨rfl, HB9.out⟩
    · have hc2 : (code != 0) = true := by simpa using hc
      go_wp2_with fail
      go_ret
      exact ⟨rfl, HB4.out⟩
end Go.Proofs.YtiebcdajoddkpaaGreatDoor
