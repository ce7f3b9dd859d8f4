/-
  What slices.EqualFunc at files, and SameDevices of the reference and of the program compute.
-/
import Derived.Test.YtjcpocedhaojpaaDev3
import Derived.StillTailTactics
namespace Go.Proofs.Ytjcpocedhaojpaa
open Go.RowKit

set_option maxHeartbeats 1000000 in
theorem EqualFunc_any (A A' : Option Addr) (n c n' c' : Nat) (fs gs : List FileD) (w : World) (h : Files w w.heap.size A n fs) (h' : Files w w.heap.size A' n' gs) (hf : ∀ d ∈ fs, d.lines.length ≤ 1048576) (hf' : ∀ d ∈ gs, d.lines.length ≤ 1048576) (hn : n ≤ 1048576) (hn' : n' ≤ 1048576) :
    Calls Try.prog 38 #[.slice A n c, .slice A' n' c', .func (.func 39) #[] #[]] w fun e w' => e = .returned (.bool (eqFL fs gs)) ∧ Below w.heap.size w w' := by
  have Hh := Lib.hid h
  have Hh' := Lib.hid h'
  have Hlen := Lib.hid h.1
  have Hlen' := Lib.hid h'.1
  have Hf := Lib.hid hf
  have Hf' := Lib.hid hf'
  have eg : ∀ args w, (callFunc 39 args).run Try.prog w = .ok (.enter 39 args) w := enters_of Try.func39 (by kernel_rfl) rfl
  clear h h' hf hf'
  by_cases hne : n = n'
  · subst hne
    go_enter Try.func38, Try.ntmps38
    go_wp2_with fail
    go_loopw [17] (fun i wr => ∃ (k : Nat), k ≤ n ∧ i = .int .i64 k ∧ Below w.heap.size w wr ∧ Hid (eqFL fs gs = eqFL (fs.drop k) (gs.drop k))) (fun i _ => n - (intOf i).toNat)
    case atStart => exact ⟨0, Nat.zero_le _, rfl, Below.refl _ _, rfl⟩
    case round =>
      obtain ⟨k, hk, rfl, hb, hS⟩ := hrel
      have HB := Lib.hid hb
      clear hb
      by_cases hlt : k < n
      · obtain ⟨b, o, rfl, hbB, hc⟩ := (Hh.out.later HB.out).2 (by omega)
        obtain ⟨c0, c1, c2, c3, k0, k1, k2, k3, hr⟩ := hc k hlt
        obtain ⟨b', o', rfl, hbB', hc'⟩ := (Hh'.out.later HB.out).2 (by omega)
        obtain ⟨d0, d1, d2, d3, m0, m1, m2, m3, hr'⟩ := hc' k hlt
        clear hc hc'
        have hl1 : k < fs.length := by rw [Hlen.out]; exact hlt
        have hl2 : k < gs.length := by rw [Hlen'.out]; exact hlt
        have HS := Lib.hid (eqFL_step fs gs k hl1 hl2)
        have HK := Lib.hid (fun W (hW : Below wr.heap.size wr W) => sameFile_any c0 c1 c2 c3 d0 d1 d2 d3 _ _ W (hr.later hW) (hr'.later hW) (Hf.out _ (getD_mem fs k hl1)) (Hf'.out _ (getD_mem gs k hl2)))
        obtain ⟨e0, ⟨A1, n1, cap1, e1, _⟩, e2, e3⟩ := hr
        obtain ⟨e0', ⟨A2, n2, cap2, e1', _⟩, e2', e3'⟩ := hr'
        subst e0 e1 e2 e3 e0' e1' e2' e3'
        clear hl1 hl2
        generalize eqF (fs.getD k default) (gs.getD k default) = x at *
        go_wp2_with fail
        refine (HK.out _ ((Below.new _ _).later (Below.new _ _))).mono ?_
        rintro e w1 ⟨rfl, hb1⟩
        have HB1 := Lib.hid (HB.out.later (((Below.new _ _).later (Below.new _ _)).later hb1))
        clear hb1
        cases x
        · have HE2 : Hid (eqFL fs gs = false) := by unfold Hid; rw [hS.out, HS.out]; rfl
          go_wp2_with fail
          go_ret
          exact ⟨ret_bool HE2.out.symm, HB1.out⟩
        · have HE2 : Hid (eqFL fs gs = eqFL (fs.drop (k + 1)) (gs.drop (k + 1))) := by unfold Hid; rw [hS.out, HS.out]; rfl
          go_wp2_with fail
          go_roundw
          case rel => exact ⟨k + 1, by omega, by go_num, HB1.out, HE2.out⟩
          case measure => simp [intOf]; omega
      · go_wp2_with fail
        go_ret
        exact ⟨ret_bool (by rw [hS.out, List.drop_of_length_le (by rw [Hlen.out]; omega), List.drop_of_length_le (by rw [Hlen'.out]; omega)]; rfl), HB.out⟩
  · have hb : ((n : Int) != (n' : Int)) = true := by rw [bne_iff_ne]; omega
    have hb2 : (n != n') = true := by rw [bne_iff_ne]; omega
    have HE2 : Hid (eqFL fs gs = false) := eqFL_len _ _ (by rw [Hlen.out, Hlen'.out]; exact hne)
    clear hne
    go_enter Try.func38, Try.ntmps38
    go_wp2_with fail
    go_ret
    exact ⟨ret_bool HE2.out.symm, Below.refl _ _⟩

set_option maxHeartbeats 1000000 in
theorem implSameDevices_any (c0 c1 c2 c3 c4 c5 e0 e1 e2 e3 e4 e5 : Value) (a b : DevD) (w : World) (h : DevR w w.heap.size c0 c1 c2 c3 c4 c5 a) (h' : DevR w w.heap.size e0 e1 e2 e3 e4 e5 b) (ha : a.small) (hb : b.small) :
    Calls Try.prog 17 #[.agg #[c0, c1, c2, c3, c4, c5], .agg #[e0, e1, e2, e3, e4, e5]] w fun e w' => e = .returned (.bool (eqD a b)) ∧ Below w.heap.size w w' := by
  obtain ⟨rfl, rfl, rfl, ⟨A, n, cap, rfl, h3⟩, ⟨A', n', cap', rfl, h4⟩, ⟨A'', n'', cap'', rfl, h5⟩⟩ := h
  obtain ⟨rfl, rfl, rfl, ⟨D, m, dap, rfl, g3⟩, ⟨D', m', dap', rfl, g4⟩, ⟨D'', m'', dap'', rfl, g5⟩⟩ := h'
  obtain ⟨f1, f2, f3, f4⟩ := ha
  obtain ⟨k1, k2, k3, k4⟩ := hb
  rw [h3.1] at f1
  rw [h4.1] at f3
  rw [h5.1] at f4
  rw [g3.1] at k1
  rw [g4.1] at k3
  rw [g5.1] at k4
  have HK1 := Lib.hid (fun W (hW : Below w.heap.size w W) => sameScreen_any a.row a.col b.row b.col A D n cap m dap a.rows b.rows W (h3.later hW) (g3.later hW) f1 k1)
  have HK2 := Lib.hid (fun W (hW : Below w.heap.size w W) => EqualFunc_any A' D' n' cap' m' dap' a.files b.files W (h4.later hW) (g4.later hW) f2 k2 f3 k3)
  have HK3 := Lib.hid (fun W (hW : Below w.heap.size w W) => slicesEqual_any A'' D'' n'' cap'' m'' dap'' a.keys b.keys W (h5.later hW) (g5.later hW) f4 k4)
  have hR : eqD a b = eqD a b := rfl
  conv at hR => rhs; unfold eqD
  clear h3 h4 h5 g3 g4 g5 f1 f2 f3 f4 k1 k2 k3 k4
  generalize eqD a b = R at *
  generalize eqScr a.row a.col a.rows b.row b.col b.rows = x at *
  generalize eqFL a.files b.files = y at *
  generalize eqS a.keys b.keys = z at *
  generalize a.use = us at *
  generalize b.use = us' at *
  generalize a.row = ar at *
  generalize a.col = ac at *
  generalize b.row = br at *
  generalize b.col = bc at *
  by_cases hu : us = us'
  · subst hu
    have HR : Hid (R = (x && y && z)) := by unfold Hid; rw [hR]; simp
    clear hR
    go_enter Try.func17, Try.ntmps17
    go_wp2_with fail
    refine (HK1.out _ ((Below.new _ _).later (Below.new _ _))).mono ?_
    rintro e w1 ⟨rfl, hb1⟩
    have HX1 := Lib.hid hb1
    have HB1 := Lib.hid (((Below.new _ _).later (Below.new _ _)).later hb1)
    clear hb1
    cases x
    · have HE : Hid (R = false) := by unfold Hid; rw [HR.out]; rfl
      go_wp2_with fail
      go_ret
      exact ⟨ret_bool HE.out.symm, HB1.out⟩
    · have p0 := (Blk.later (heap_two0 w _ _) HX1.out (by simp; omega)).cell
      have p1 := (Blk.later (heap_two1 w _ _) HX1.out (by simp)).cell
      go_wp2_with fail
      refine (HK3.out _ HB1.out).mono ?_
      rintro e w2 ⟨rfl, q, rfl⟩
      have HX2 := Lib.hid (below_drewN HX1.out q)
      have HB2 := Lib.hid (below_drewN HB1.out q)
      cases z
      · have HE : Hid (R = false) := by unfold Hid; rw [HR.out]; cases y <;> rfl
        go_wp2_with fail
        go_ret
        exact ⟨ret_bool HE.out.symm, HB2.out⟩
      · go_wp2_with fail
        refine (HK2.out _ HB2.out).mono ?_
        rintro e w3 ⟨rfl, hb3⟩
        have HB3 := Lib.hid (HB2.out.later hb3)
        have HE : Hid (R = y) := by unfold Hid; rw [HR.out]; cases y <;> rfl
        clear hb3
        go_wp2_with fail
        go_ret
        exact ⟨ret_bool HE.out.symm, HB3.out⟩
  · have HE : Hid (R = false) := by unfold Hid; rw [hR]; simp [hu]
    have hb : (us == us') = false := by rw [beq_eq_false_iff_ne]; exact hu
    clear hR hu
    go_enter Try.func17, Try.ntmps17
    go_wp2_with fail
    go_ret
    exact ⟨ret_bool HE.out.symm, (Below.new _ _).later (Below.new _ _)⟩
end Go.Proofs.Ytjcpocedhaojpaa
