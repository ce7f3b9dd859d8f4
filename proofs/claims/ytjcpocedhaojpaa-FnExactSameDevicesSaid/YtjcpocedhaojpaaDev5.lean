/-
  What SameDevices of the reference computes.
-/
import Derived.Test.YtjcpocedhaojpaaDev4
import Derived.RegionTactic
import Derived.BigRegion
namespace Go.Proofs.Ytjcpocedhaojpaa
open Go.RowKit

set_option maxHeartbeats 2000000 in
set_option maxRecDepth 100000 in
theorem specSameDevices_any (c0 c1 c2 c3 c4 c5 e0 e1 e2 e3 e4 e5 : Value) (a b : DevD) (w : World) (h : DevR w w.heap.size c0 c1 c2 c3 c4 c5 a) (h' : DevR w w.heap.size e0 e1 e2 e3 e4 e5 b) (ha : a.small) (hb : b.small) :
    Calls Try.prog 15 #[.agg #[c0, c1, c2, c3, c4, c5], .agg #[e0, e1, e2, e3, e4, e5]] w fun e w' => e = .returned (.bool (eqD a b)) ∧ Below w.heap.size w w' := by
  obtain ⟨rfl, rfl, rfl, ⟨A, n, cap, rfl, h3⟩, ⟨A', n', cap', rfl, h4⟩, ⟨A'', n'', cap'', rfl, h5⟩⟩ := h
  obtain ⟨rfl, rfl, rfl, ⟨D, m, dap, rfl, g3⟩, ⟨D', m', dap', rfl, g4⟩, ⟨D'', m'', dap'', rfl, g5⟩⟩ := h'
  obtain ⟨f1, f2, f3, f4⟩ := ha
  obtain ⟨k1, k2, k3, k4⟩ := hb
  rw [h3.1] at f1
  rw [h4.1] at f3
  rw [h5.1] at f4
  rw [g3.1] at k1
  rw [g4.1] at k3
  rw [g5.1] at k4
  have HK1 := Lib.hid (fun W (hW : Below w.heap.size w W) => SameSubs_any A D n cap m dap a.rows b.rows W (h3.later hW) (g3.later hW) f1 k1)
  have HK3 := Lib.hid (fun W (hW : Below w.heap.size w W) => SameSubs_any A'' D'' n'' cap'' m'' dap'' a.keys b.keys W (h5.later hW) (g5.later hW) f4 k4)
  have HF := Lib.hid h4
  have HG := Lib.hid g4
  have Hf := Lib.hid f2
  have Hg := Lib.hid k2
  have hR : eqD a b = eqD a b := rfl
  conv at hR => rhs; unfold eqD eqScr
  clear h3 h4 h5 g3 g4 g5 f1 f2 f4 k1 k2 k4
  generalize eqD a b = R at *
  generalize eqS a.rows b.rows = x at *
  generalize eqS a.keys b.keys = z at *
  generalize a.use = us at *
  generalize b.use = us' at *
  generalize a.row = ar at *
  generalize a.col = ac at *
  generalize b.row = br at *
  generalize b.col = bc at *
  have HR := Lib.hid hR
  clear hR
  by_cases hu : us = us'
  · subst hu
    by_cases hr : ar = br
    · subst hr
      by_cases hc : ac = bc
      · subst hc
        cases x
        · have HE : Hid (R = false) := by unfold Hid; rw [HR.out]; simp
          go_enter Try.func15, Try.ntmps15
          go_wp2_with fail
          refine (HK1.out _ ((Below.new _ _).later (Below.new _ _))).mono ?_
          rintro e w1 ⟨rfl, q, rfl⟩
          go_wp2_with fail
          go_ret
          exact ⟨ret_bool HE.out.symm, below_drewN ((Below.new _ _).later (Below.new _ _)) q⟩
        · by_cases hn : n' = m'
          · subst hn
            cases z
            · have HE : Hid (R = false) := by unfold Hid; rw [HR.out]; simp
              go_enter Try.func15, Try.ntmps15
              go_wp2_with fail
              refine (HK1.out _ ((Below.new _ _).later (Below.new _ _))).mono ?_
              rintro e w1 ⟨rfl, q, rfl⟩
              go_wp2_with fail
              refine (HK3.out _ (below_drewN ((Below.new _ _).later (Below.new _ _)) q)).mono ?_
              rintro e w2 ⟨rfl, q2, rfl⟩
              go_wp2_with fail
              go_ret
              exact ⟨ret_bool HE.out.symm, below_drewN ((Below.new _ _).later (Below.new _ _)) _⟩
            · have HE : Hid (R = eqFL a.files b.files) := by unfold Hid; rw [HR.out]; simp
              go_enter Try.func15, Try.ntmps15
              go_wp2_with fail
              refine (HK1.out _ ((Below.new _ _).later (Below.new _ _))).mono ?_
              rintro e w1 ⟨rfl, q, rfl⟩
              go_wp2_with fail
              refine (HK3.out _ (below_drewN ((Below.new _ _).later (Below.new _ _)) q)).mono ?_
              rintro e w2 ⟨rfl, q2, rfl⟩
              go_wp2_with fail
              go_loopw [5] (fun i wr => ∃ (k : Nat), k ≤ n' ∧ i = .int .i64 k ∧ Below (w.heap.size + 1 + 1) ((w.alloc (.cells #[.int .i64 us, .int .i64 ar, .int .i64 ac, .slice A n cap, .slice A' n' cap', .slice A'' n'' cap''] 40)).alloc (.cells #[.int .i64 us, .int .i64 ar, .int .i64 ac, .slice D m dap, .slice D' n' dap', .slice D'' m'' dap''] 40)) wr ∧ Hid (eqFL a.files b.files = eqFL (a.files.drop k) (b.files.drop k))) (fun i _ => n' - (intOf i).toNat)
              case atStart => exact ⟨0, Nat.zero_le _, rfl, below_drewN (Below.refl _ _) _, rfl⟩
              case round =>
                obtain ⟨k, hk, rfl, hb, hS⟩ := hrel
                have p0 := (Blk.later (heap_two0 w _ _) hb (by omega)).cell
                have p1 := (Blk.later (heap_two1 w _ _) hb (by omega)).cell
                have hz1 : w.heap.size + 1 < wr.heap.size := by have := hb.size; simp at this; omega
                have hz0 : w.heap.size < wr.heap.size := by omega
                have HB := Lib.hid hb
                have HBw := Lib.hid (((Below.new _ _).later (Below.new _ _)).trans (hb.mono (by omega)))
                clear hb
                by_cases hlt : k < n'
                · obtain ⟨bb, o, rfl, hbB, hc'⟩ := (HF.out.later HBw.out).2 (by omega)
                  obtain ⟨c0, c1, c2, c3, k0, k1, k2, k3, hr⟩ := hc' k hlt
                  obtain ⟨bb', o', rfl, hbB', hc''⟩ := (HG.out.later HBw.out).2 (by omega)
                  obtain ⟨d0, d1, d2, d3, m0, m1, m2, m3, hr'⟩ := hc'' k hlt
                  clear hc' hc''
                  have hl1 : k < a.files.length := by rw [HF.out.1]; exact hlt
                  have hl2 : k < b.files.length := by rw [HG.out.1]; exact hlt
                  have HS := Lib.hid (eqFL_step a.files b.files k hl1 hl2)
                  have hlf := Hf.out _ (getD_mem a.files k hl1)
                  have hlg := Hg.out _ (getD_mem b.files k hl2)
                  clear hl1 hl2
                  generalize a.files.getD k default = fa at *
                  generalize b.files.getD k default = fb at *
                  obtain ⟨e0, ⟨A1, n1, cap1, e1, hs1⟩, e2, e3⟩ := hr
                  obtain ⟨e0', ⟨A2, n2, cap2, e1', hs2⟩, e2', e3'⟩ := hr'
                  subst e0 e1 e2 e3 e0' e1' e2' e3'
                  rw [hs1.1] at hlf
                  rw [hs2.1] at hlg
                  have HK5 := Lib.hid (fun W (hW : Below wr.heap.size wr W) => SameSubs_any A1 A2 n1 cap1 n2 cap2 fa.lines fb.lines W (hs1.later hW) (hs2.later hW) hlf hlg)
                  clear hs1 hs2
                  have hF : eqF fa fb = eqF fa fb := rfl
                  conv at hF => rhs; unfold eqF
                  generalize eqF fa fb = y at *
                  generalize eqS fa.lines fb.lines = x at *
                  generalize fa.name = nm at *
                  generalize fb.name = nm' at *
                  generalize fa.part = pt at *
                  generalize fb.part = pt' at *
                  generalize fa.at_ = t at *
                  generalize fb.at_ = t' at *
                  have HNo : Hid (y = false → R = false) := fun hy => by rw [HE.out, hS.out, HS.out, hy]; rfl
                  have HYes : Hid (y = true → eqFL a.files b.files = eqFL (a.files.drop (k + 1)) (b.files.drop (k + 1))) := fun hy => by rw [hS.out, HS.out, hy]; rfl
                  by_cases e1 : nm = nm'
                  · subst e1
                    cases x
                    · have HE2 : Hid (R = false) := HNo.out (by rw [hF]; simp)
                      clear hF
                      go_wp2_with fail
                      go_region
                      all_goals
                        go_wp2_with fail
                        refine (HK5.out _ (by exact ((Below.new _ _).later (Below.new _ _)).drew)).mono ?_
                        rintro e w5 ⟨rfl, q5, rfl⟩
                        go_wp2_with fail
                        go_ret
                        exact ⟨ret_bool HE2.out.symm, below_drewN (HBw.out.later ((Below.new _ _).later (Below.new _ _))) _⟩
                    · by_cases e2 : pt = pt'
                      · subst e2
                        by_cases e3 : t = t'
                        · subst e3
                          have HE2 := Lib.hid (HYes.out (by rw [hF]; simp))
                          clear hF
                          go_wp2_with fail
                          go_region
                          all_goals
                            go_wp2_with fail
                            refine (HK5.out _ (by exact ((Below.new _ _).later (Below.new _ _)).drew)).mono ?_
                            rintro e w5 ⟨rfl, q5, rfl⟩
                            go_wp2_with fail
                            go_roundw
                            case rel => exact ⟨k + 1, by omega, by go_num, below_drewN ((HB.out.alloc (by omega) _).alloc (by simp; omega) _) _, HE2.out⟩
                            case measure => simp [intOf]; omega
                        · have hb3 : (t != t') = true := by rw [bne_iff_ne]; exact e3
                          have HE2 : Hid (R = false) := HNo.out (by rw [hF]; simp [e3])
                          clear hF e3
                          go_wp2_with fail
                          go_region
                          all_goals
                            go_wp2_with fail
                            refine (HK5.out _ (by exact ((Below.new _ _).later (Below.new _ _)).drew)).mono ?_
                            rintro e w5 ⟨rfl, q5, rfl⟩
                            go_wp2_with fail
                            go_ret
                            exact ⟨ret_bool HE2.out.symm, below_drewN (HBw.out.later ((Below.new _ _).later (Below.new _ _))) _⟩
                      · have hb2 := str_bne e2
                        have HE2 : Hid (R = false) := HNo.out (by rw [hF]; simp [e2])
                        clear hF e2
                        go_wp2_with fail
                        go_region
                        all_goals
                          go_wp2_with fail
                          refine (HK5.out _ (by exact ((Below.new _ _).later (Below.new _ _)).drew)).mono ?_
                          rintro e w5 ⟨rfl, q5, rfl⟩
                          go_wp2_with fail
                          go_ret
                          exact ⟨ret_bool HE2.out.symm, below_drewN (HBw.out.later ((Below.new _ _).later (Below.new _ _))) _⟩
                  · have hb1 := str_bne e1
                    have HE2 : Hid (R = false) := HNo.out (by rw [hF]; simp [e1])
                    clear hF e1
                    go_wp2_with fail
                    go_region
                    all_goals
                      go_wp2_with fail
                      go_ret
                      exact ⟨ret_bool HE2.out.symm, (HBw.out.later ((Below.new _ _).later (Below.new _ _))).drew⟩
                · go_wp2_with fail
                  go_ret
                  exact ⟨ret_bool (by rw [HE.out, hS.out, List.drop_of_length_le (by rw [HF.out.1]; omega), List.drop_of_length_le (by rw [HG.out.1]; omega)]; rfl), HBw.out⟩
          · have HE : Hid (R = false) := by unfold Hid; rw [HR.out, eqFL_len _ _ (by rw [HF.out.1, HG.out.1]; exact hn)]; simp
            have hb1 : ((n' : Int) != (m' : Int)) = true := by rw [bne_iff_ne]; omega
            have hb2 : (n' != m') = true := by rw [bne_iff_ne]; exact hn
            clear hn
            go_enter Try.func15, Try.ntmps15
            go_wp2_with fail
            refine (HK1.out _ ((Below.new _ _).later (Below.new _ _))).mono ?_
            rintro e w1 ⟨rfl, q, rfl⟩
            go_wp2_with fail
            go_ret
            exact ⟨ret_bool HE.out.symm, below_drewN ((Below.new _ _).later (Below.new _ _)) q⟩
      · have HE : Hid (R = false) := by unfold Hid; rw [HR.out]; simp [hc]
        have hb1 : (ac != bc) = true := by rw [bne_iff_ne]; exact hc
        clear hc
        go_enter Try.func15, Try.ntmps15
        go_wp2_with fail
        go_ret
        exact ⟨ret_bool HE.out.symm, (Below.new _ _).later (Below.new _ _)⟩
    · have HE : Hid (R = false) := by unfold Hid; rw [HR.out]; simp [hr]
      have hb1 : (ar != br) = true := by rw [bne_iff_ne]; exact hr
      clear hr
      go_enter Try.func15, Try.ntmps15
      go_wp2_with fail
      go_ret
      exact ⟨ret_bool HE.out.symm, (Below.new _ _).later (Below.new _ _)⟩
  · have HE : Hid (R = false) := by unfold Hid; rw [HR.out]; simp [hu]
    have hb1 : (us != us') = true := by rw [bne_iff_ne]; exact hu
    clear hu
    go_enter Try.func15, Try.ntmps15
    go_wp2_with fail
    go_ret
    exact ⟨ret_bool HE.out.symm, (Below.new _ _).later (Below.new _ _)⟩
end Go.Proofs.Ytjcpocedhaojpaa
