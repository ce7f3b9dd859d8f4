/-
  Draws of rows: l29DrawRow, l29AnyRow. (Printed by gen_dw3.py.)
-/
import Derived.Test.YtfpcjhajjejpdaaGreatDoorZ41
import Derived.Deep.RegionHeld3
namespace Go.Proofs.YtfpcjhajjejpdaaGreatDoor
open Go.RowKit
set_option linter.unusedVariables false

/-- A drawn row: few cells, short ones. -/
def RowPost (p K m : Nat) (w : World) (e : Ending) (w' : World) : Prop := ∃ v ss, e = .returned (.agg #[v]) ∧ Own.SubO w' w.heap.size v ss ∧ 0 < ss.length ∧ ss.length ≤ m ∧ (∀ s ∈ ss, s.size ≤ 16) ∧ Drawn p K w w'
theorem sub_app {w5 : World} {bs n cap gg : Nat} {ss : List ByteArray} {t : ByteArray} (hrow : w5.ownsRow bs 9 1 (.slice (some ⟨gg, 0, none⟩) n cap) n (ss.map Value.string ++ [.string t])) (hn : n = ss.length + 1) : Own.SubO w5 bs (.slice (some ⟨gg, 0, none⟩) n cap) (ss ++ [t]) := by
  subst hn
  unfold Own.SubO
  rw [List.length_append, List.map_append]
  exact hrow
theorem sub_appv {w5 : World} {bs n : Nat} {v : Value} {ss : List ByteArray} {t : ByteArray} (hrow : w5.ownsRow bs 9 1 v (n + 1) (ss.map Value.string ++ [.string t])) (hn : n = ss.length) : Own.SubO w5 bs v (ss ++ [t]) := by
  subst hn
  unfold Own.SubO
  rw [List.length_append, List.map_append]
  exact hrow
theorem sub_put {w : World} {bs n cap g : Nat} {ss : List ByteArray} (h : Own.SubO w bs (.slice (some ⟨g, 0, none⟩) n cap) ss) (j : Nat) (t : ByteArray) : Own.SubO (w.setCell ⟨g, j, none⟩ (.string t)) bs (.slice (some ⟨g, 0, none⟩) n cap) (ss.set j t) := by
  have hn : n = ss.length := by
    obtain ⟨A, c, e, _⟩ := Own.own_slice h
    injection e with _ e2 _
  subst hn
  have h1 := (World.ownsRow.stored h j (.string t)).1
  unfold Own.SubO
  rw [List.map_set, List.length_set]
  exact h1
theorem all_app {ss : List ByteArray} {t : ByteArray} {m : Nat} (h : ∀ s ∈ ss, s.size ≤ m) (ht : t.size ≤ m) : ∀ s ∈ ss ++ [t], s.size ≤ m := fun s hs => by
  rcases List.mem_append.1 hs with h1 | h1
  · exact h s h1
  · rw [List.mem_singleton.1 h1]; exact ht
theorem all_set {ss : List ByteArray} {t : ByteArray} {m j : Nat} (h : ∀ s ∈ ss, s.size ≤ m) (ht : t.size ≤ m) : ∀ s ∈ ss.set j t, s.size ≤ m := fun s hs => by
  rcases List.mem_or_eq_of_mem_set hs with h1 | h1
  · exact h s h1
  · rw [h1]; exact ht

set_option maxRecDepth 100000 in
set_option maxHeartbeats 16000000 in
theorem l29DrawRow_any (p K : Nat) (b0 b1 b2 b3 : Value) (d : TableD) (w : World) (h : SrcR w p K) (hb : TableR w w.heap.size b0 b1 b2 b3 d) (hc6 : d.cols.length ≤ 6) (hK : K ≤ 274877906944) :
    Calls Tryz.prog 141 #[.pointer (some ⟨p, 0, none⟩), .agg #[b0, b1, b2, b3]] w (RowPost p (K + 16) 6 w) := by
  obtain ⟨i0, hi, hz0, hz1, hz2⟩ := info_parts infoS
  have hpw := h.lt
  obtain ⟨rfl, rfl, ⟨A2, n2, p2, rfl, s2, k2⟩, ⟨A3, n3, p3, rfl, s3, k3⟩⟩ := hb
  have hn2 : n2 ≤ 6 := by rw [← s2.1]; exact hc6
  clear s2 s3 hc6
  generalize d.name = nm at *
  generalize d.glob = gl at *
  obtain ⟨WB, hWB⟩ : ∃ WB, WB = (w.alloc (.cells #[.string nm, .string gl, .slice A2 n2 p2, .slice A3 n3 p3] 29)).alloc (.cells #[.slice none 0 0] 40) := ⟨_, rfl⟩
  have HBB : Hid (Below w.heap.size w WB) := by subst hWB; exact (Below.new _ _).later (Below.new _ _)
  have HT0 : Hid (Blk WB w.heap.size 29 #[.string nm, .string gl, .slice A2 n2 p2, .slice A3 n3 p3]) := by subst hWB; exact heap_two0 _ _ _
  have HR0 : Hid (Blk WB (w.heap.size + 1) 40 #[.slice none 0 0]) := by subst hWB; exact heap_two1 _ _ _
  have HK1 := Lib.hid (l29Key_any p K WB (h.later HBB.out) (by omega))
  have hwb := HR0.out.lt
  clear h
  go_enter Tryz.func141, Tryz.ntmps141
  go_wp2_with fail
  rw [← hWB]
  clear hWB
  refine HK1.out.mono ?_
  rintro e w1 ⟨t, rfl, ht, hd⟩
  have HTS := Lib.hid ht
  have HD1 := Lib.hid (hd.pre HBB.out)
  have HT1 := Lib.hid (Blk.drawn HT0.out hd (by omega))
  have HR1 := Lib.hid (Blk.drawn HR0.out hd (by omega))
  have hw1 : w.heap.size + 1 < w1.heap.size := Nat.lt_of_lt_of_le hwb hd.chg.size
  clear hd ht HT0 HR0 HK1 HBB hwb
  obtain ⟨WX, hWX⟩ : ∃ WX, WX = (w1.alloc (.cells #[.string t] 9)).alloc (.cells #[.slice (some ⟨w1.heap.size, 0, none⟩) 1 1] 40) := ⟨_, rfl⟩
  have HBX : Hid (Below w1.heap.size w1 WX) := by subst hWX; exact (Below.new _ _).later (Below.new _ _)
  have HQ2 : Hid (Blk WX (w1.heap.size + 1) 40 #[.slice (some ⟨w1.heap.size, 0, none⟩) 1 1]) := by subst hWX; exact heap_two1 _ _ _
  have HS2 : Hid (Own.SubO WX w.heap.size (.slice (some ⟨w1.heap.size, 0, none⟩) 1 1) [t]) := by subst hWX; exact sub_later (sub_lit2 [t] _ rfl (by omega) rfl (by decide) rfl) (Below.new _ _)
  have HR2 := Lib.hid (HR1.out.later HBX.out HR1.out.lt)
  have HT2 := Lib.hid (HT1.out.later HBX.out HT1.out.lt)
  have HD2 := Lib.hid (HD1.out.later HBX.out)
  clear HBX HR1 HT1 HD1
  go_wp2_with fail
  rw [← hWX]
  clear hWX
  go_loopw [6] (fun i wr => ∃ (k : Nat) (v : Value) (ss : List ByteArray), i = .int .i64 k ∧ 1 ≤ k ∧ (k ≤ n2 ∨ k = 1) ∧ Hid (Blk wr (w1.heap.size + 1) 40 #[v]) ∧ Hid (Blk wr w.heap.size 29 #[.string nm, .string gl, .slice A2 n2 p2, .slice A3 n3 p3]) ∧ Hid (Blk wr (w.heap.size + 1) 40 #[.slice none 0 0]) ∧ Hid (Own.SubO wr w.heap.size v ss) ∧ Hid (ss.length = k) ∧ Hid (∀ s ∈ ss, s.size ≤ 16) ∧ Hid (Drawn p (K + 2 + 2 * k) w wr)) (fun i _ => n2 - (intOf i).toNat)
  case atStart => exact ⟨1, _, [t], rfl, Nat.le_refl _, .inr rfl, HQ2.out, HT2.out, HR2.out, HS2.out, rfl, fun s hs => by rw [List.mem_singleton.1 hs]; exact HTS.out, HD2.out.mono (by omega)⟩
  case round =>
    obtain ⟨k, v, ss, rfl, hk1, hk, HQ, HT, HR, HS, HL, HZ, HD⟩ := hrel
    clear HQ2 HT2 HR2 HS2 HD2
    obtain ⟨A, cap, rfl, _, _⟩ := Own.SubO.strs HS.out
    have HS' := HS.out
    rw [HL.out] at HS'
    have HSX := Lib.hid HS'
    have HQ' := HQ.out
    rw [HL.out] at HQ'
    have HQX := Lib.hid HQ'
    clear HS' HQ' HS HQ
    have hw := HD.out.chg.size
    have hqz := HQX.out.lt
    have q0 := HQX.out.cell 0
    have t2 := HT.out.cell 2
    have tz := HT.out.lt
    have qf := HQX.out.frozen 0
    simp at q0 t2
    by_cases hlt : k < n2
    · have HSL := Lib.hid (HD.out.src.later (Below.new wr (.cells #[.string ⟨#[]⟩, .string ⟨#[97, 110, 110]⟩, .string ⟨#[98, 111, 98]⟩, .string ⟨#[51]⟩, .string ⟨#[49, 50]⟩, .string ⟨#[120, 32, 121]⟩] 9)))
      have HLL := Lib.hid (strs_lit wr 9 [⟨#[]⟩, ⟨#[97, 110, 110]⟩, ⟨#[98, 111, 98]⟩, ⟨#[51]⟩, ⟨#[49, 50]⟩, ⟨#[120, 32, 121]⟩] #[.string ⟨#[]⟩, .string ⟨#[97, 110, 110]⟩, .string ⟨#[98, 111, 98]⟩, .string ⟨#[51]⟩, .string ⟨#[49, 50]⟩, .string ⟨#[120, 32, 121]⟩] rfl)
      have HKT := Lib.hid (fun W (h1 : SrcR W p (K + 2 + 2 * k)) (h2 : Strs W W.heap.size (some ⟨wr.heap.size, 0, none⟩) 6 [⟨#[]⟩, ⟨#[97, 110, 110]⟩, ⟨#[98, 111, 98]⟩, ⟨#[51]⟩, ⟨#[49, 50]⟩, ⟨#[120, 32, 121]⟩]) => text_any p (K + 2 + 2 * k) (some ⟨wr.heap.size, 0, none⟩) 6 6 [⟨#[]⟩, ⟨#[97, 110, 110]⟩, ⟨#[98, 111, 98]⟩, ⟨#[51]⟩, ⟨#[49, 50]⟩, ⟨#[120, 32, 121]⟩] W h1 (by omega) h2 (by omega) (by omega))
      have l2 := (HQX.out.alloc (.cells #[.string ⟨#[]⟩, .string ⟨#[97, 110, 110]⟩, .string ⟨#[98, 111, 98]⟩, .string ⟨#[51]⟩, .string ⟨#[49, 50]⟩, .string ⟨#[120, 32, 121]⟩] 9)).cell 0
      simp at l2
      have hkn : (k : Int) < (n2 : Int) := by omega
      go_wp2_with fail
      go_region_law (first
        | (refine step_append_lies _ (by rfl) _ _ _ (by rfl) w.heap.size 9 i0 _ 1 16 Tryz.underlying27 hi hz0 hz1 hz2 rfl (by omega) (.slice A k cap) k (ss.map Value.string) (by rfl) (by exact HRA.out)
              ⟨w3.heap.size, 0, none⟩ 1 1 [.string t'] (by rfl) (by rfl) (by exact cell_one_new _ _ _) (by simp [Value.oneCell']) (by omega) (by unfold maxLen; omega) (by omega) (by simp; omega) (w3.heap.size + 1) (by simp) ?_
           intro gg cap' w5 hown5 hgrow5 hat hlt2
           have HQY := Lib.hid ((HQ4.out.alloc (.cells #[.string t'] 9)).grown hgrow5 (fun e => Own.own_blk_ne HRA.out (HQ4.out.alloc (.cells #[.string t'] 9)) (by decide) e.symm))
           have HRY := Lib.hid ((HR4.out.alloc (.cells #[.string t'] 9)).grown hgrow5 (fun e => Own.own_blk_ne HRA.out (HR4.out.alloc (.cells #[.string t'] 9)) (by decide) e.symm))
           have HTY := Lib.hid ((HT4.out.alloc (.cells #[.string t'] 9)).grown hgrow5 (fun e => Own.own_blk_ne HRA.out (HT4.out.alloc (.cells #[.string t'] 9)) (by decide) e.symm))
           have HDY := Lib.hid ((HD4.out.later (Below.new w3 (.cells #[.string t'] 9))).grown hgrow5 (fun g hg => (HRA.out.lt g hg).1) hpw)
           have HSY := Lib.hid (sub_app hown5 (by rw [HL.out]))
           have y0 := HQY.out.cell 0
           have yz := HQY.out.lt
           have yf := HQY.out.frozen 0
           simp at y0
           clear hown5 hgrow5)
        | (go_simp
           go_at_call 96
           refine (HKT.out _ (HSL.out.later (Below.refl _ _).drew) (HLL.out.later (Below.refl _ _).drew)).mono ?_
           rintro e w3 ⟨t', ht, rfl, hd3'⟩
           have hd3 := hd3'.pre (Below.refl _ (wr.alloc (.cells #[.string ⟨#[]⟩, .string ⟨#[97, 110, 110]⟩, .string ⟨#[98, 111, 98]⟩, .string ⟨#[51]⟩, .string ⟨#[49, 50]⟩, .string ⟨#[120, 32, 121]⟩] 9))).drew
           have HD4 := Lib.hid ((HD.out.later (Below.new _ _)).trans hd3)
           have HS4 := Lib.hid (SubO.drawn (sub_later HSX.out (Below.new wr (.cells #[.string ⟨#[]⟩, .string ⟨#[97, 110, 110]⟩, .string ⟨#[98, 111, 98]⟩, .string ⟨#[51]⟩, .string ⟨#[49, 50]⟩, .string ⟨#[120, 32, 121]⟩] 9))) HSL.out hd3)
           have HQ4 := Lib.hid (Blk.drawn (HQX.out.alloc (.cells #[.string ⟨#[]⟩, .string ⟨#[97, 110, 110]⟩, .string ⟨#[98, 111, 98]⟩, .string ⟨#[51]⟩, .string ⟨#[49, 50]⟩, .string ⟨#[120, 32, 121]⟩] 9)) hd3 (by omega))
           have HR4 := Lib.hid (Blk.drawn (HR.out.alloc (.cells #[.string ⟨#[]⟩, .string ⟨#[97, 110, 110]⟩, .string ⟨#[98, 111, 98]⟩, .string ⟨#[51]⟩, .string ⟨#[49, 50]⟩, .string ⟨#[120, 32, 121]⟩] 9)) hd3 (by omega))
           have HT4 := Lib.hid (Blk.drawn (HT.out.alloc (.cells #[.string ⟨#[]⟩, .string ⟨#[97, 110, 110]⟩, .string ⟨#[98, 111, 98]⟩, .string ⟨#[51]⟩, .string ⟨#[49, 50]⟩, .string ⟨#[120, 32, 121]⟩] 9)) hd3 (by omega))
           have HTT : Hid (t'.size ≤ 16) := (by decide : ∀ s ∈ ([⟨#[]⟩, ⟨#[97, 110, 110]⟩, ⟨#[98, 111, 98]⟩, ⟨#[51]⟩, ⟨#[49, 50]⟩, ⟨#[120, 32, 121]⟩] : List ByteArray), s.size ≤ 16) t' ht
           have j2 := HQ4.out.cell 0
           have j2' := (HQ4.out.alloc (.cells #[.string t'] 9)).cell 0
           have jz := HQ4.out.lt
           have jw := HD4.out.chg.size
           simp at j2 j2'
           have HRA : Hid ((w3.alloc (.cells #[.string t'] 9)).ownsRow w.heap.size 9 1 (.slice A k cap) k (ss.map Value.string)) := by
             have h := Own.own_later HS4.out (Below.new w3 (.cells #[.string t'] 9))
             rw [HL.out] at h
             exact h
           clear hd3 hd3' ht))
      all_goals
        clear q0 t2 qf l2
        go_wp2_with fail
        go_roundw
        case rel =>
          exact ⟨k + 1, _, ss ++ [t'], by go_num, by omega, .inl (by omega), HQY.out.set_ 0 _, HTY.out.far (p := ⟨w1.heap.size + 1, 0, none⟩) (show w.heap.size ≠ w1.heap.size + 1 by omega) _, HRY.out.far (p := ⟨w1.heap.size + 1, 0, none⟩) (show w.heap.size + 1 ≠ w1.heap.size + 1 by omega) _, HSY.out.setBlk HQY.out (by decide), by unfold Hid; rw [List.length_append, HL.out]; rfl, all_app HZ.out HTT.out, (HDY.out.set (show w.heap.size ≤ w1.heap.size + 1 by omega) hpw 0 _).mono (by omega)⟩
        case measure => simp [intOf]; omega
    · have r0 := HR.out.cell 0
      have rz := HR.out.lt
      have rf := HR.out.frozen 0
      simp at r0
      have hkn : ¬ (k : Int) < (n2 : Int) := by omega
      have hk6 : k ≤ 6 := by omega
      go_wp2_with fail
      refine bodyPost_ret (v := .agg #[.slice A k cap]) (by simp [results, Tryz.results141, go_sem, r0]) rfl ?_
      exact ⟨_, ss, rfl, HSX.out.setBlk HR.out (by decide), by rw [HL.out]; omega, by rw [HL.out]; exact hk6, HZ.out, (HD.out.set (show w.heap.size ≤ w.heap.size + 1 by omega) hpw 0 _).mono (by omega)⟩

set_option maxRecDepth 100000 in
set_option maxHeartbeats 16000000 in
theorem l29AnyRow_any (p K : Nat) (b0 b1 b2 b3 : Value) (d : TableD) (w : World) (h : SrcR w p K) (hb : TableR w w.heap.size b0 b1 b2 b3 d) (hc6 : d.cols.length ≤ 6) (hK : K ≤ 137438953472) :
    Calls Tryz.prog 72 #[.pointer (some ⟨p, 0, none⟩), .agg #[b0, b1, b2, b3]] w (RowPost p (K + 22) 7 w) := by
  obtain ⟨i0, hi, hz0, hz1, hz2⟩ := info_parts infoS
  have hpw := h.lt
  have HKD := Lib.hid (fun W (hW : Below w.heap.size w W) (h1 : SrcR W p K) => l29DrawRow_any p K b0 b1 b2 b3 d W h1 (hb.later hW) hc6 (by omega))
  obtain ⟨rfl, rfl, ⟨A2, n2, p2, rfl, s2, k2⟩, ⟨A3, n3, p3, rfl, s3, k3⟩⟩ := hb
  clear s2 s3 hc6
  generalize d.name = nm at *
  generalize d.glob = gl at *
  obtain ⟨WB, hWB⟩ : ∃ WB, WB = (w.alloc (.cells #[.string nm, .string gl, .slice A2 n2 p2, .slice A3 n3 p3] 29)).alloc (.cells #[.slice none 0 0] 40) := ⟨_, rfl⟩
  have HBB : Hid (Below w.heap.size w WB) := by subst hWB; exact (Below.new _ _).later (Below.new _ _)
  have HT0 : Hid (Blk WB w.heap.size 29 #[.string nm, .string gl, .slice A2 n2 p2, .slice A3 n3 p3]) := by subst hWB; exact heap_two0 _ _ _
  have HR0 : Hid (Blk WB (w.heap.size + 1) 40 #[.slice none 0 0]) := by subst hWB; exact heap_two1 _ _ _
  have HK1 := Lib.hid (HKD.out WB HBB.out (h.later HBB.out))
  have hwb := HR0.out.lt
  have c0 := HT0.out.cell 0
  have c1 := HT0.out.cell 1
  have c2 := HT0.out.cell 2
  have c3 := HT0.out.cell 3
  simp at c0 c1 c2 c3
  clear h HKD
  go_enter Tryz.func72, Tryz.ntmps72
  go_wp2_with fail
  rw [← hWB]
  clear hWB
  first | (refine HK1.out.mono ?_) | (go_wp2_with fail; refine HK1.out.mono ?_)
  rintro e w1 ⟨v, ss, rfl, hs, hpos, hlen, hall, hd⟩
  obtain ⟨A, cap, rfl, hcap, _, hA⟩ := Own.own_slice hs
  obtain ⟨g, rfl, hg, hgb⟩ := hA hpos
  have HZ := Lib.hid hall
  have HS1 := Lib.hid (Own.own_base hs HBB.out.size)
  have HD1 := Lib.hid (hd.pre HBB.out)
  have HR1 := Lib.hid (Blk.drawn HR0.out hd (by omega))
  have hw1 : w.heap.size + 1 < w1.heap.size := Nat.lt_of_lt_of_le hwb hd.chg.size
  have hgw : w.heap.size + 1 < g := by omega
  clear hd hs hall HT0 HR0 HK1 HBB hwb hA c0 c1 c2 c3
  generalize hn : ss.length = n at *
  have HN := Lib.hid hn
  clear hn
  obtain ⟨WX, hWX⟩ : ∃ WX, WX = w1.alloc (.cells #[.slice (some ⟨g, 0, none⟩) n cap] 40) := ⟨_, rfl⟩
  have HBX : Hid (Below w1.heap.size w1 WX) := by subst hWX; exact Below.new _ _
  have HQ2 : Hid (Blk WX w1.heap.size 40 #[.slice (some ⟨g, 0, none⟩) n cap]) := by subst hWX; exact heap_alloc_new _ _
  have HS2 : Hid (Own.SubO WX w.heap.size (.slice (some ⟨g, 0, none⟩) n cap) ss) := by
    have h := Own.own_later HS1.out HBX.out
    unfold Hid Own.SubO
    rw [HN.out]
    exact h
  have HR2 := Lib.hid (HR1.out.later HBX.out HR1.out.lt)
  have HD2 := Lib.hid (HD1.out.later HBX.out)
  have HK2 := Lib.hid (pick_any p (K + 16) 12 WX HD2.out.src (by omega) (by omega))
  clear HBX HR1 HS1 HD1
  go_wp2_with fail
  rw [← hWX]
  clear hWX
  refine HK2.out.mono ?_
  rintro e w2 ⟨x, rfl, hx, hd2⟩
  have HD3 := Lib.hid (HD2.out.trans hd2)
  have HQ3 := Lib.hid (Blk.drawn HQ2.out hd2 (by omega))
  have HR3 := Lib.hid (Blk.drawn HR2.out hd2 (by omega))
  have HS3 := Lib.hid (SubO.drawn HS2.out HD2.out.src hd2)
  have hgq : g ≠ w1.heap.size := by omega
  clear hd2 HQ2 HR2 HS2 HD2 HK2
  have hw2 := HD3.out.chg.size
  have q0 := HQ3.out.cell 0
  have qz := HQ3.out.lt
  have qf := HQ3.out.frozen 0
  have r0 := HR3.out.cell 0
  have rz := HR3.out.lt
  have rf := HR3.out.frozen 0
  simp at q0 r0
  have hn6 : n ≤ 6 := hlen
  by_cases hx0 : x = 0
  · subst hx0
    have HRA : Hid ((w2.alloc (.cells #[.string ⟨#[122]⟩] 9)).ownsRow w.heap.size 9 1 (.slice (some ⟨g, 0, none⟩) n cap) n (ss.map Value.string)) := by
      have h := Own.own_later HS3.out (Below.new w2 (.cells #[.string ⟨#[122]⟩] 9))
      rw [HN.out] at h
      exact h
    go_wp2_with (at_builtin; refine wpList_append_lies _ rfl (.tmp 14) (.tmp 15) 27 rfl w.heap.size 9 i0 _ 1 16 Tryz.underlying27 hi hz0 hz1 hz2 rfl (by decide) _ n _ rfl (HRA.out) ⟨_, 0, none⟩ 1 1 [.string ⟨#[122]⟩] rfl rfl ?c1 ?c2 (by decide) ?c3 ?c4 ?c5 (w2.heap.size + 1) ?c6 ?_)
    case c1 => exact cell_one_new _ _ _
    case c2 => simp [Value.oneCell']
    case c3 => unfold maxLen; omega
    case c4 => omega
    case c5 => simp; omega
    case c6 => simp
    intro gg cap' w5 hown5 hgrow5 hat hlt2
    have HQY := Lib.hid ((HQ3.out.alloc (.cells #[.string ⟨#[122]⟩] 9)).grown hgrow5 (fun e => Own.own_blk_ne HRA.out (HQ3.out.alloc (.cells #[.string ⟨#[122]⟩] 9)) (by decide) e.symm))
    have HRY := Lib.hid ((HR3.out.alloc (.cells #[.string ⟨#[122]⟩] 9)).grown hgrow5 (fun e => Own.own_blk_ne HRA.out (HR3.out.alloc (.cells #[.string ⟨#[122]⟩] 9)) (by decide) e.symm))
    have HDY := Lib.hid ((HD3.out.later (Below.new w2 (.cells #[.string ⟨#[122]⟩] 9))).grown hgrow5 (fun g hg => (HRA.out.lt g hg).1) hpw)
    have HSY := Lib.hid (sub_app hown5 (by rw [HN.out]))
    clear q0 qz qf r0 rz rf hown5 hgrow5
    have y0 := HQY.out.cell 0
    have yz := HQY.out.lt
    have yf := HQY.out.frozen 0
    have s0 := HRY.out.cell 0
    have sz := HRY.out.lt
    have sf := HRY.out.frozen 0
    simp at y0 s0
    go_wp2_with fail
    refine bodyPost_ret (v := .agg #[.slice (some ⟨gg, 0, none⟩) (n + 1) cap']) (by simp [results, Tryz.results72, go_sem, s0]) rfl ?_
    exact ⟨_, ss ++ [⟨#[122]⟩], rfl, (HSY.out.setBlk HQY.out (by decide)).setBlk (HRY.out.far (p := ⟨w1.heap.size, 0, none⟩) (show w.heap.size + 1 ≠ w1.heap.size by omega) _) (by decide), by simp, by rw [List.length_append, HN.out]; simp; omega, all_app HZ.out (by decide), ((HDY.out.set (show w.heap.size ≤ w1.heap.size by omega) hpw 0 _).set (show w.heap.size ≤ w.heap.size + 1 by omega) hpw 0 _).mono (by omega)⟩
  have hb0 : ((x : Int) == 0) = false := by rw [beq_eq_false_iff_ne]; omega
  by_cases hx1 : x = 1
  · subst hx1
    have HSL := Lib.hid (HD3.out.src.later (Below.new w2 (.cells #[.string ⟨#[]⟩, .string ⟨#[97, 94, 98]⟩, .string ⟨#[116, 119, 101, 108, 118, 101, 32, 98, 121, 116, 101, 115]⟩, .string ⟨#[101, 108, 101, 118, 101, 110, 32, 98, 121, 116, 101]⟩, .string ⟨#[9]⟩] 9)))
    have HKP := Lib.hid (fun W (h1 : SrcR W p (K + 16 + 2)) => pick_any p (K + 16 + 2) n W h1 (by omega) (by omega))
    have HKT := Lib.hid (fun W g0 (h1 : SrcR W p (K + 16 + 2 + 2)) (h2 : Strs W W.heap.size (some ⟨g0, 0, none⟩) 5 [⟨#[]⟩, ⟨#[97, 94, 98]⟩, ⟨#[116, 119, 101, 108, 118, 101, 32, 98, 121, 116, 101, 115]⟩, ⟨#[101, 108, 101, 118, 101, 110, 32, 98, 121, 116, 101]⟩, ⟨#[9]⟩]) => text_any p (K + 16 + 2 + 2) (some ⟨g0, 0, none⟩) 5 5 [⟨#[]⟩, ⟨#[97, 94, 98]⟩, ⟨#[116, 119, 101, 108, 118, 101, 32, 98, 121, 116, 101, 115]⟩, ⟨#[101, 108, 101, 118, 101, 110, 32, 98, 121, 116, 101]⟩, ⟨#[9]⟩] W h1 (by omega) h2 (by omega) (by omega))
    have a0 := (HQ3.out.alloc (.cells #[.string ⟨#[]⟩, .string ⟨#[97, 94, 98]⟩, .string ⟨#[116, 119, 101, 108, 118, 101, 32, 98, 121, 116, 101, 115]⟩, .string ⟨#[101, 108, 101, 118, 101, 110, 32, 98, 121, 116, 101]⟩, .string ⟨#[9]⟩] 9)).cell 0
    simp at a0
    have hpos' : (0 : Int) < n := by omega
    go_wp2_with fail
    go_region_held3 (fun w' => w'.cell? ⟨w1.heap.size, 0, none⟩ = some (.slice (some ⟨g, 0, none⟩) n cap))
      (first | with_reducible exact q0 | with_reducible exact a0 | with_reducible exact j0 | with_reducible exact j0' | with_reducible exact k0 | go_keep)
      (first
        | (go_at_call 93
           with_reducible refine (HKP.out w2.drew ?_).mono ?_
           · exact HD3.out.src.later (Below.refl _ _).drew
           rintro e w3 ⟨y, rfl, hy, hd3'⟩
           have hd3 := hd3'.pre (Below.refl _ w2).drew
           have HD4 := Lib.hid (HD3.out.trans hd3)
           have HQ4 := Lib.hid (Blk.drawn HQ3.out hd3 (by omega))
           have HR4 := Lib.hid (Blk.drawn HR3.out hd3 (by omega))
           have HS4 := Lib.hid (SubO.drawn HS3.out HD3.out.src hd3)
           have hyn : y < n := by omega
           have hyi : (y : Int) < (n : Int) := by omega
           have hw3 := HD4.out.chg.size
           have j0 := HQ4.out.cell 0
           have j0' := (HQ4.out.alloc (.cells #[.string ⟨#[]⟩, .string ⟨#[97, 94, 98]⟩, .string ⟨#[116, 119, 101, 108, 118, 101, 32, 98, 121, 116, 101, 115]⟩, .string ⟨#[101, 108, 101, 118, 101, 110, 32, 98, 121, 116, 101]⟩, .string ⟨#[9]⟩] 9)).cell 0
           simp at j0 j0'
           clear hd3 hd3' hy)
        | (go_at_call 93
           with_reducible refine (HKP.out (w2.alloc (.cells #[.string ⟨#[]⟩, .string ⟨#[97, 94, 98]⟩, .string ⟨#[116, 119, 101, 108, 118, 101, 32, 98, 121, 116, 101, 115]⟩, .string ⟨#[101, 108, 101, 118, 101, 110, 32, 98, 121, 116, 101]⟩, .string ⟨#[9]⟩] 9)).drew ?_).mono ?_
           · exact HSL.out.later (Below.refl _ _).drew
           rintro e w3 ⟨y, rfl, hy, hd3'⟩
           have hd3 := hd3'.pre (Below.refl _ (w2.alloc (.cells #[.string ⟨#[]⟩, .string ⟨#[97, 94, 98]⟩, .string ⟨#[116, 119, 101, 108, 118, 101, 32, 98, 121, 116, 101, 115]⟩, .string ⟨#[101, 108, 101, 118, 101, 110, 32, 98, 121, 116, 101]⟩, .string ⟨#[9]⟩] 9))).drew
           have HD4 := Lib.hid ((HD3.out.later (Below.new w2 (.cells #[.string ⟨#[]⟩, .string ⟨#[97, 94, 98]⟩, .string ⟨#[116, 119, 101, 108, 118, 101, 32, 98, 121, 116, 101, 115]⟩, .string ⟨#[101, 108, 101, 118, 101, 110, 32, 98, 121, 116, 101]⟩, .string ⟨#[9]⟩] 9))).trans hd3)
           have HQ4 := Lib.hid (Blk.drawn (HQ3.out.alloc (.cells #[.string ⟨#[]⟩, .string ⟨#[97, 94, 98]⟩, .string ⟨#[116, 119, 101, 108, 118, 101, 32, 98, 121, 116, 101, 115]⟩, .string ⟨#[101, 108, 101, 118, 101, 110, 32, 98, 121, 116, 101]⟩, .string ⟨#[9]⟩] 9)) hd3 (by omega))
           have HR4 := Lib.hid (Blk.drawn (HR3.out.alloc (.cells #[.string ⟨#[]⟩, .string ⟨#[97, 94, 98]⟩, .string ⟨#[116, 119, 101, 108, 118, 101, 32, 98, 121, 116, 101, 115]⟩, .string ⟨#[101, 108, 101, 118, 101, 110, 32, 98, 121, 116, 101]⟩, .string ⟨#[9]⟩] 9)) hd3 (by omega))
           have HS4 := Lib.hid (SubO.drawn (sub_later HS3.out (Below.new w2 (.cells #[.string ⟨#[]⟩, .string ⟨#[97, 94, 98]⟩, .string ⟨#[116, 119, 101, 108, 118, 101, 32, 98, 121, 116, 101, 115]⟩, .string ⟨#[101, 108, 101, 118, 101, 110, 32, 98, 121, 116, 101]⟩, .string ⟨#[9]⟩] 9))) HSL.out hd3)
           have HL4 := Lib.hid (HSL.out.strs (strs_lit w2 9 [⟨#[]⟩, ⟨#[97, 94, 98]⟩, ⟨#[116, 119, 101, 108, 118, 101, 32, 98, 121, 116, 101, 115]⟩, ⟨#[101, 108, 101, 118, 101, 110, 32, 98, 121, 116, 101]⟩, ⟨#[9]⟩] #[.string ⟨#[]⟩, .string ⟨#[97, 94, 98]⟩, .string ⟨#[116, 119, 101, 108, 118, 101, 32, 98, 121, 116, 101, 115]⟩, .string ⟨#[101, 108, 101, 118, 101, 110, 32, 98, 121, 116, 101]⟩, .string ⟨#[9]⟩] rfl) hd3)
           have hyn : y < n := by omega
           have hyi : (y : Int) < (n : Int) := by omega
           have hw3 := HD4.out.chg.size
           have j0 := HQ4.out.cell 0
           simp at j0
           clear hd3 hd3' hy)
        | (go_at_call 96
           with_reducible refine (HKT.out (w3.alloc (.cells #[.string ⟨#[]⟩, .string ⟨#[97, 94, 98]⟩, .string ⟨#[116, 119, 101, 108, 118, 101, 32, 98, 121, 116, 101, 115]⟩, .string ⟨#[101, 108, 101, 118, 101, 110, 32, 98, 121, 116, 101]⟩, .string ⟨#[9]⟩] 9)) w3.heap.size ?_ ?_).mono ?_
           · exact HD4.out.src.later (Below.new _ _)
           · exact strs_lit w3 9 [⟨#[]⟩, ⟨#[97, 94, 98]⟩, ⟨#[116, 119, 101, 108, 118, 101, 32, 98, 121, 116, 101, 115]⟩, ⟨#[101, 108, 101, 118, 101, 110, 32, 98, 121, 116, 101]⟩, ⟨#[9]⟩] #[.string ⟨#[]⟩, .string ⟨#[97, 94, 98]⟩, .string ⟨#[116, 119, 101, 108, 118, 101, 32, 98, 121, 116, 101, 115]⟩, .string ⟨#[101, 108, 101, 118, 101, 110, 32, 98, 121, 116, 101]⟩, .string ⟨#[9]⟩] rfl
           rintro e w5 ⟨t, ht, rfl, hd5⟩
           have HD5 := Lib.hid ((HD4.out.later (Below.new w3 (.cells #[.string ⟨#[]⟩, .string ⟨#[97, 94, 98]⟩, .string ⟨#[116, 119, 101, 108, 118, 101, 32, 98, 121, 116, 101, 115]⟩, .string ⟨#[101, 108, 101, 118, 101, 110, 32, 98, 121, 116, 101]⟩, .string ⟨#[9]⟩] 9))).trans hd5)
           have HQ5 := Lib.hid (Blk.drawn (HQ4.out.alloc (.cells #[.string ⟨#[]⟩, .string ⟨#[97, 94, 98]⟩, .string ⟨#[116, 119, 101, 108, 118, 101, 32, 98, 121, 116, 101, 115]⟩, .string ⟨#[101, 108, 101, 118, 101, 110, 32, 98, 121, 116, 101]⟩, .string ⟨#[9]⟩] 9)) hd5 (by omega))
           have HR5 := Lib.hid (Blk.drawn (HR4.out.alloc (.cells #[.string ⟨#[]⟩, .string ⟨#[97, 94, 98]⟩, .string ⟨#[116, 119, 101, 108, 118, 101, 32, 98, 121, 116, 101, 115]⟩, .string ⟨#[101, 108, 101, 118, 101, 110, 32, 98, 121, 116, 101]⟩, .string ⟨#[9]⟩] 9)) hd5 (by omega))
           have hs5 := SubO.drawn (sub_later HS4.out (Below.new w3 (.cells #[.string ⟨#[]⟩, .string ⟨#[97, 94, 98]⟩, .string ⟨#[116, 119, 101, 108, 118, 101, 32, 98, 121, 116, 101, 115]⟩, .string ⟨#[101, 108, 101, 118, 101, 110, 32, 98, 121, 116, 101]⟩, .string ⟨#[9]⟩] 9))) (HD4.out.src.later (Below.new w3 (.cells #[.string ⟨#[]⟩, .string ⟨#[97, 94, 98]⟩, .string ⟨#[116, 119, 101, 108, 118, 101, 32, 98, 121, 116, 101, 115]⟩, .string ⟨#[101, 108, 101, 118, 101, 110, 32, 98, 121, 116, 101]⟩, .string ⟨#[9]⟩] 9))) hd5
           have HTS : Hid (t.size ≤ 16) := (by decide : ∀ s ∈ ([⟨#[]⟩, ⟨#[97, 94, 98]⟩, ⟨#[116, 119, 101, 108, 118, 101, 32, 98, 121, 116, 101, 115]⟩, ⟨#[101, 108, 101, 118, 101, 110, 32, 98, 121, 116, 101]⟩, ⟨#[9]⟩] : List ByteArray), s.size ≤ 16) t ht
           have HS5 := Lib.hid hs5
           unfold Own.SubO at hs5
           rw [HN.out] at hs5
           obtain ⟨cur, hblk⟩ := Own.own_blk hs5
           have hl : y < ss.length := by rw [HN.out]; exact hyn
           have c5 := Own.own_cell hs5 y _ (by omega) (by rw [List.getElem?_map, List.getElem?_eq_getElem hl]; rfl)
           have f5 := hblk.frozen y
           have z5 := hblk.lt
           have k0 := HQ5.out.cell 0
           simp at k0
           clear hd5 ht hs5 hblk)
        | (go_at_call 96
           with_reducible refine (HKT.out w3 w2.heap.size ?_ ?_).mono ?_
           · exact HD4.out.src
           · exact HL4.out
           rintro e w5 ⟨t, ht, rfl, hd5⟩
           have HD5 := Lib.hid (HD4.out.trans hd5)
           have HQ5 := Lib.hid (Blk.drawn HQ4.out hd5 (by omega))
           have HR5 := Lib.hid (Blk.drawn HR4.out hd5 (by omega))
           have hs5 := SubO.drawn HS4.out HD4.out.src hd5
           have HTS : Hid (t.size ≤ 16) := (by decide : ∀ s ∈ ([⟨#[]⟩, ⟨#[97, 94, 98]⟩, ⟨#[116, 119, 101, 108, 118, 101, 32, 98, 121, 116, 101, 115]⟩, ⟨#[101, 108, 101, 118, 101, 110, 32, 98, 121, 116, 101]⟩, ⟨#[9]⟩] : List ByteArray), s.size ≤ 16) t ht
           have HS5 := Lib.hid hs5
           unfold Own.SubO at hs5
           rw [HN.out] at hs5
           obtain ⟨cur, hblk⟩ := Own.own_blk hs5
           have hl : y < ss.length := by rw [HN.out]; exact hyn
           have c5 := Own.own_cell hs5 y _ (by omega) (by rw [List.getElem?_map, List.getElem?_eq_getElem hl]; rfl)
           have f5 := hblk.frozen y
           have z5 := hblk.lt
           have k0 := HQ5.out.cell 0
           simp at k0
           clear hd5 ht hs5 hblk))
    all_goals
      clear q0 a0 r0 rz rf qz qf
      have s0 := HR5.out.cell 0
      have sz := HR5.out.lt
      have sf := HR5.out.frozen 0
      have kz := HQ5.out.lt
      simp at s0
      go_wp2_with fail
      refine bodyPost_ret (v := .agg #[.slice (some ⟨g, 0, none⟩) n cap]) (by simp [results, Tryz.results72, go_sem, s0]) rfl ?_
      exact ⟨_, ss.set y t, rfl, (sub_put HS5.out y t).setBlk (HR5.out.far (p := ⟨g, y, none⟩) (show w.heap.size + 1 ≠ g by omega) _) (by decide), by rw [List.length_set, HN.out]; omega, by rw [List.length_set, HN.out]; omega, all_set HZ.out HTS.out, ((HD5.out.set (show w.heap.size ≤ g by omega) hpw y _).set (show w.heap.size ≤ w.heap.size + 1 by omega) hpw 0 _).mono (by omega)⟩
  have hb1 : ((x : Int) == 1) = false := by rw [beq_eq_false_iff_ne]; omega
  go_wp2_with fail
  refine bodyPost_ret (v := .agg #[.slice (some ⟨g, 0, none⟩) n cap]) (by simp [results, Tryz.results72, go_sem, r0]) rfl ?_
  exact ⟨_, ss, rfl, HS3.out.setBlk HR3.out (by decide), by rw [HN.out]; omega, by rw [HN.out]; omega, HZ.out, (HD3.out.set (show w.heap.size ≤ w.heap.size + 1 by omega) hpw 0 _).mono (by omega)⟩
end Go.Proofs.YtfpcjhajjejpdaaGreatDoor
