/-
  Tables of the reference: l29Index, l29Insert. (Printed by gen_tb4.py.)
-/
import Derived.Test.YtfpcjhajjejpdaaGreatDoorZ35
import Derived.Deep.RegionHeld3
namespace Go.Proofs.YtfpcjhajjejpdaaGreatDoor
open Go.RowKit
set_option linter.unusedVariables false

theorem flat_oneC : ∀ (gs : List ChgD) (us : List Value), (∀ u ∈ us, u.oneCell' = true) → ∀ x ∈ Own.flat chgK gs us, x.oneCell' = true
  | [], _, _, x, hx => by simp [Own.flat] at hx
  | _ :: _, [], _, x, hx => by simp [Own.flat] at hx
  | d :: gs, u :: us, h, x, hx => by
    simp only [Own.flat, List.mem_append] at hx
    rcases hx with hx | hx
    · have hu := h u (by simp)
      simp only [chgK, List.mem_cons, List.not_mem_nil, or_false] at hx
      rcases hx with rfl | rfl | rfl | rfl
      · rfl
      · rfl
      · exact hu
      · rfl
    · exact flat_oneC gs us (fun y hy => h y (List.mem_cons_of_mem _ hy)) x hx
theorem ownC_one {w : World} {base t : Nat} {v : Value} {gs : List ChgD} {us : List Value} (h : Own.OwnL chgK w base t v gs us) : ∀ x ∈ Own.flat chgK gs us, x.oneCell' = true :=
  flat_oneC gs us fun u hu => by
    obtain ⟨j, hj, rfl⟩ := Own.mem_getD hu
    obtain ⟨A, cap, e, _⟩ := Own.own_slice (h.subs j (by rw [← h.len]; exact hj))
    rw [e]; rfl
theorem chgs_grow {w0 w4 w5 : World} {base : Nat} {v v4 v5 : Value} {fs gs : List ChgD} {vs us : List Value} (h : Own.OwnL chgK w0 base 88 v fs vs) (hw : base ≤ w0.heap.size) (hb : Below w0.heap.size w0 w4) (k : Own.OwnL chgK w4 w0.heap.size 88 v4 gs us)
    (hrow : w5.ownsRow base 88 4 v5 (fs.length + gs.length) (Own.flat chgK fs vs ++ Own.flat chgK gs us)) (hg : w4.grownBy w5 v.ownBlock) : ChgsO w5 base v5 (fs ++ gs) :=
  ⟨vs ++ us, OwnL.app (h.later hb) (k.base hw) (fun a ha c hc => by
    obtain ⟨j, hj, rfl⟩ := Own.mem_getD hc
    exact h.fresh (k.subs j (by rw [← k.len]; exact hj)) (Nat.le_refl _) a ha) hrow hg (by decide)⟩

set_option maxRecDepth 100000 in
set_option maxHeartbeats 4000000 in
theorem l29Index_any (b0 b1 b2 b3 r0 : Value) (b : TableD) (r : List ByteArray) (col : ByteArray) (kind : Int) (w : World) (hb : TableR w w.heap.size b0 b1 b2 b3 b) (h : RowR w w.heap.size r0 r) (hcl : b.cols.length ≤ 1048576) (hpl : 0 ≤ placeI b.cols col) (hlt : (placeI b.cols col).toNat < r.length) :
    Calls Tryz.prog 60 #[.agg #[b0, b1, b2, b3], .agg #[r0], .string col, .int .i64 kind] w (ChgsOnly (idxC kind b.glob b.cols r col) w) := by
  obtain ⟨k, hk⟩ : ∃ k : Nat, placeI b.cols col = (k : Int) := ⟨(placeI b.cols col).toNat, by omega⟩
  obtain ⟨rfl, rfl, ⟨A2, n2, p2, rfl, s2, k2⟩, ⟨A3, n3, p3, rfl, s3, k3⟩⟩ := hb
  obtain ⟨A, n, c, rfl, hs, hnc⟩ := h
  rw [hs.1, hk, Int.toNat_natCast] at hlt
  obtain ⟨rb, ro, rfl, hrb, hrc⟩ := hs.2 (by omega)
  have hc0 := hrc 0 (by omega)
  have hck := hrc k hlt
  rw [Nat.add_zero] at hc0
  have HKP := Lib.hid (fun W (hW : Below w.heap.size w W) => ((l29Place_any A2 n2 p2 b.cols col W (s2.later hW) (by rw [← s2.1]; exact hcl)).mono (R' := fun e w' => e = .returned (.int .i64 (k : Nat)) ∧ Below W.heap.size W w') (fun e w' ⟨h1, h2⟩ => ⟨by rw [h1, hk], h2 ▸ Below.refl _ _⟩)))
  have HR : Hid (idxC kind b.glob b.cols r col = if r.getD k ByteArray.empty = ⟨#[]⟩ then [] else [⟨kind, b.glob, [iS, col, r.getD k ByteArray.empty, r.getD 0 ByteArray.empty], ⟨#[]⟩⟩]) := by
    unfold Hid idxC cellAt
    rw [hk]
    rfl
  clear s2 s3 hs hrc hk hcl hpl
  generalize idxC kind b.glob b.cols r col = R at *
  generalize r.getD k ByteArray.empty = v at *
  generalize r.getD 0 ByteArray.empty = key at *
  generalize b.name = nm at *
  generalize b.glob = gl at *
  have hk1 : (k : Int) < (n : Int) := by omega
  have hn1 : 0 < n := by omega
  obtain ⟨WB, hWB⟩ : ∃ WB, WB = (w.alloc (.cells #[.string nm, .string gl, .slice A2 n2 p2, .slice A3 n3 p3] 29)).alloc (.cells #[.slice (some ⟨rb, ro, none⟩) n c] 40) := ⟨_, rfl⟩
  have HX0 : Hid (Blk WB w.heap.size 29 #[.string nm, .string gl, .slice A2 n2 p2, .slice A3 n3 p3]) := by subst hWB; exact heap_two0 _ _ _
  have HX1 : Hid (Blk WB (w.heap.size + 1) 40 #[.slice (some ⟨rb, ro, none⟩) n c]) := by subst hWB; exact heap_two1 _ _ _
  have HBB : Hid (Below w.heap.size w WB) := by subst hWB; exact (Below.new _ _).later (Below.new _ _)
  have HS1 : Hid (∀ W', Below WB.heap.size WB W' → (W'.cell? ⟨w.heap.size, 1, none⟩ = some (.string gl) ∧ W'.cell? ⟨w.heap.size, 2, none⟩ = some (.slice A2 n2 p2) ∧ W'.cell? ⟨w.heap.size + 1, 0, none⟩ = some (.slice (some ⟨rb, ro, none⟩) n c) ∧ W'.cell? ⟨rb, ro + k, none⟩ = some (.string v) ∧ W'.cell? ⟨rb, ro, none⟩ = some (.string key))) := fun W' hW => ⟨(HX0.out.later hW HX0.out.lt).at 1 rfl, (HX0.out.later hW HX0.out.lt).at 2 rfl, (HX1.out.later hW HX1.out.lt).at 0 rfl, ((HBB.out.later hW).cell (p := ⟨rb, ro + k, none⟩) hrb).trans hck, ((HBB.out.later hW).cell (p := ⟨rb, ro, none⟩) hrb).trans hc0⟩
  have hwz := HBB.out.size
  go_enter Tryz.func60, Tryz.ntmps60
  go_wp2_with fail
  rw [← hWB]
  clear hWB
  go_region_held3 (fun W' => W'.cell? ⟨w.heap.size, 1, none⟩ = some (.string gl) ∧ W'.cell? ⟨w.heap.size, 2, none⟩ = some (.slice A2 n2 p2) ∧ W'.cell? ⟨w.heap.size + 1, 0, none⟩ = some (.slice (some ⟨rb, ro, none⟩) n c) ∧ W'.cell? ⟨rb, ro + k, none⟩ = some (.string v) ∧ W'.cell? ⟨rb, ro, none⟩ = some (.string key))
    (first | exact HS1.out _ hb1 | exact HS1.out _ (Below.refl _ _).drew)
    ((go_at_call 90; refine (HKP.out _ (by exact HBB.out.drew)).mono ?_; rintro e w1 ⟨rfl, hb1'⟩; have hb1 := undrew hb1'; clear hb1'))
  have HB1 := Lib.hid (HBB.out.later hb1)
  obtain ⟨x0, x1, x2, x3, x4⟩ := HS1.out _ hb1
  have z1 := hb1.size
  have zw : w.heap.size < w1.heap.size := by have := HX0.out.lt; omega
  have zw1 : w.heap.size + 1 < w1.heap.size := by have := HX1.out.lt; omega
  have zr : rb < w1.heap.size := by omega
  clear hb1
  by_cases hv : v = ⟨#[]⟩
  · have HE : Hid (R = []) := by unfold Hid; rw [HR.out, if_pos hv]
    subst hv
    go_wp2_with fail
    go_ret
    exact ⟨_, rfl, by rw [HE.out]; exact chgsO_lit _ _ HB1.out.size, HB1.out.later (Below.new _ _)⟩
  · have HE : Hid (R = [⟨kind, gl, [iS, col, v, key], ⟨#[]⟩⟩]) := by unfold Hid; rw [HR.out, if_neg hv]
    have hbe := str_beq hv
    have hbe3 := ne_bytes (l := []) hv
    have HCO := Lib.hid (chgs_one (d := ⟨kind, gl, [iS, col, v, key], ⟨#[]⟩⟩) (sub_lit (w := w1) (base := w.heap.size) [iS, col, v, key] #[.string ⟨#[105]⟩, .string col, .string v, .string key] HB1.out.size (by simp) rfl) (by have := HB1.out.size; simp; omega))
    clear hv
    go_wp2_with fail
    first | go_region | skip
    go_wp2_with fail
    go_ret
    refine ⟨.slice (some ⟨w1.heap.size + 1, 0, none⟩) 1 1, rfl, ?_, ((HB1.out.later (Below.new _ _)).later (Below.new _ _)).drew⟩
    rw [HE.out]
    have h := HCO.out
    simp only [World.size_alloc] at h
    exact ChgsO.later ⟨_, h⟩ (Below.refl _ _).drew

theorem flatMap_step (F : ByteArray → List ChgD) (l : List ByteArray) (k : Nat) (h : k < l.length) : (l.take (k + 1)).flatMap F = (l.take k).flatMap F ++ F (l.getD k ByteArray.empty) := by
  rw [List.take_succ_eq_append_getElem h, List.flatMap_append, List.getD_eq_getElem?_getD, List.getElem?_eq_getElem h]
  simp
theorem flatMap_len (F : ByteArray → List ChgD) (hF : ∀ c, (F c).length ≤ 1) : ∀ (l : List ByteArray), (l.flatMap F).length ≤ l.length
  | [] => by simp
  | x :: t => by
    have h1 := hF x
    have h2 := flatMap_len F hF t
    rw [List.flatMap_cons, List.length_append, List.length_cons]
    omega
set_option maxRecDepth 100000 in
set_option maxHeartbeats 4000000 in
theorem l29Insert_any (b0 b1 b2 b3 r0 : Value) (b : TableD) (r : List ByteArray) (w : World) (hb : TableR w w.heap.size b0 b1 b2 b3 b) (h : RowR w w.heap.size r0 r) (hsm : smallR r) (hpos : 0 < r.length) (hcl : b.cols.length ≤ 1048576) (hil : b.idx.length ≤ 1000000) (hpl : ∀ c ∈ b.idx, 0 ≤ placeI b.cols c ∧ (placeI b.cols c).toNat < r.length) :
    Calls Tryz.prog 81 #[.agg #[b0, b1, b2, b3], .agg #[r0]] w (ChgsOnly (setR b.glob r :: idxsC 1 b r) w) := by
  obtain ⟨i0, hi0, hz0, hz1, hz2⟩ := info_parts infoChgD
  have HKS := Lib.hid (fun W (hW : Below w.heap.size w W) => l29Set_any b0 b1 b2 b3 r0 b r W (hb.later hW) (h.later hW) hsm hpos)
  have HKI := Lib.hid (fun c (hc : c ∈ b.idx) W (hW : Below w.heap.size w W) => l29Index_any b0 b1 b2 b3 r0 b r c 1 W (hb.later hW) (h.later hW) hcl (hpl c hc).1 (hpl c hc).2)
  have HFL := Lib.hid (idxC_len 1 b.glob b.cols r)
  have HR : Hid (idxsC 1 b r = b.idx.flatMap (idxC 1 b.glob b.cols r)) := rfl
  obtain ⟨rfl, rfl, ⟨A2, n2, p2, rfl, s2, k2⟩, ⟨A3, n3, p3, rfl, s3, k3⟩⟩ := hb
  obtain ⟨A, n, c, rfl, hs, hnc⟩ := h
  have HSX := Lib.hid s3
  have HLI := Lib.hid s3.1
  have hn3 : n3 ≤ 1000000 := by rw [← s3.1]; exact hil
  clear s2 s3 hs hsm hpos hcl hil hpl
  generalize idxsC 1 b r = IX at *
  generalize idxC 1 b.glob b.cols r = F at *
  generalize setR b.glob r = D at *
  generalize b.idx = ids at *
  generalize b.name = nm at *
  generalize b.glob = gl at *
  obtain ⟨WB, hWB⟩ : ∃ WB, WB = (w.alloc (.cells #[.string nm, .string gl, .slice A2 n2 p2, .slice A3 n3 p3] 29)).alloc (.cells #[.slice A n c] 40) := ⟨_, rfl⟩
  have HX0 : Hid (Blk WB w.heap.size 29 #[.string nm, .string gl, .slice A2 n2 p2, .slice A3 n3 p3]) := by subst hWB; exact heap_two0 _ _ _
  have HX1 : Hid (Blk WB (w.heap.size + 1) 40 #[.slice A n c]) := by subst hWB; exact heap_two1 _ _ _
  have HBB : Hid (Below w.heap.size w WB) := by subst hWB; exact (Below.new _ _).later (Below.new _ _)
  have HS1 : Hid (∀ W', Below WB.heap.size WB W' → (W'.cell? ⟨w.heap.size, 0, none⟩ = some (.string nm) ∧ W'.cell? ⟨w.heap.size, 1, none⟩ = some (.string gl) ∧ W'.cell? ⟨w.heap.size, 2, none⟩ = some (.slice A2 n2 p2) ∧ W'.cell? ⟨w.heap.size, 3, none⟩ = some (.slice A3 n3 p3) ∧ W'.cell? ⟨w.heap.size + 1, 0, none⟩ = some (.slice A n c))) := fun W' hW => ⟨(HX0.out.later hW HX0.out.lt).at 0 rfl, (HX0.out.later hW HX0.out.lt).at 1 rfl, (HX0.out.later hW HX0.out.lt).at 2 rfl, (HX0.out.later hW HX0.out.lt).at 3 rfl, (HX1.out.later hW HX1.out.lt).at 0 rfl⟩
  obtain ⟨y0, y1, y2, y3, y4⟩ := HS1.out _ (Below.refl _ _)
  have hwz := HBB.out.size
  have zw0 := HX0.out.lt
  have zw1 := HX1.out.lt
  go_enter Tryz.func81, Tryz.ntmps81
  go_wp2_with fail
  rw [← hWB]
  clear hWB
  first | (refine (HKS.out _ HBB.out).mono ?_) | (go_wp2_with fail; refine (HKS.out _ HBB.out).mono ?_)
  rintro e w1 ⟨v1, rfl, hsub1, hb1⟩
  obtain ⟨A1, cap1, rfl, _, _, _⟩ := Own.own_slice hsub1
  have HB1 := Lib.hid hb1
  have HO1 := Lib.hid (chgs_one hsub1 hb1.size)
  have hz1' := hb1.size
  clear hb1 hsub1 y0 y1 y2 y3 y4 HKS
  go_wp2_with fail
  go_loopw [5, 6] (fun v i wr => ∃ (k : Nat), k ≤ n3 ∧ i = .int .i64 k ∧ ChgsO wr WB.heap.size v (D :: (ids.take k).flatMap F) ∧ Below WB.heap.size WB wr) (fun _ i _ => n3 - (intOf i).toNat)
  case atStart => exact ⟨0, Nat.zero_le _, rfl, ⟨_, HO1.out⟩, HB1.out.later (Below.new _ _)⟩
  case round =>
    obtain ⟨k, hk, rfl, ⟨vs, hown⟩, hb⟩ := hrel
    have HB := Lib.hid hb
    have HO := Lib.hid hown
    obtain ⟨x0, x1, x2, x3, x4⟩ := HS1.out _ hb
    have HBw := Lib.hid (HBB.out.later hb)
    have hwr := hb.size
    clear hb hown HO1 HB1
    by_cases hlt : k < n3
    · obtain ⟨ib, io, rfl, hib, hic⟩ := (HSX.out.later HBw.out).2 (by omega)
      have hik := hic k hlt
      have hl : k < ids.length := by rw [HLI.out]; exact hlt
      have HKc := Lib.hid (HKI.out _ (getD_memS ids k hl))
      have HST := Lib.hid (flatMap_step F ids k hl)
      have HF1 := Lib.hid (HFL.out (ids.getD k ByteArray.empty))
      have HTL : Hid ((D :: (ids.take k).flatMap F).length ≤ 1000001) := by
        unfold Hid
        have h1 := flatMap_len F HFL.out (ids.take k)
        rw [List.length_take] at h1
        rw [List.length_cons]
        omega
      clear hic hl
      generalize ids.getD k ByteArray.empty = col at *
      generalize hg : F col = gs at *
      clear hg
      generalize hfs : D :: (ids.take k).flatMap F = fs at *
      have HFS := Lib.hid hfs
      clear hfs
      have hN := HTL.out
      generalize hNN : fs.length = N at *
      have HN := Lib.hid hNN
      clear hNN
      have hM := HF1.out
      go_wp2_with fail
      go_region_law (first
        | (refine step_append_any _ (by rfl) _ _ _ (by rfl) WB.heap.size 88 i0 _ 4 64 Tryz.underlying61 hi0 hz0 hz1 hz2 rfl (by omega) u5 N (Own.flat chgK fs vs) (by rfl) (by exact HRA.out)
              w4.heap.size A4 gs.length cap4 (Own.flat chgK gs us) (by rfl) (by exact HRD.out) (by exact HONE.out)
              (by unfold maxLen; omega) (by omega) (by omega) ?_
           intro v5 w5 hown5 hgrow5 _
           have HOW := Lib.hid hown5
           have HGR := Lib.hid hgrow5
           clear hown5 hgrow5)
        | (go_simp
           go_at_call 60
           refine (HKc.out _ (by exact HBw.out.drew)).mono ?_
           rintro e w4 ⟨v4, rfl, ⟨us, hown4⟩, hb4'⟩
           have hb4 := undrew hb4'
           obtain ⟨A4, cap4, rfl, hcap4, _, _⟩ := Own.own_slice hown4.row
           have HB4 := Lib.hid hb4
           have hw4 := hb4.size
           have HO4 : Hid (Own.OwnL chgK w4 wr.heap.size 88 (.slice A4 gs.length cap4) gs us) := hown4
           have HRD := Lib.hid (Reads.of_own hown4.row)
           have HONE := Lib.hid (ownC_one hown4)
           have HRA : Hid (w4.ownsRow WB.heap.size 88 4 u5 N (Own.flat chgK fs vs)) := by
             have h := (HO.out.later hb4).row
             rw [HN.out] at h
             exact h
           clear hb4 hb4' hown4))
      all_goals
        have HC5 : Hid (ChgsO w5 WB.heap.size v5 (D :: (ids.take (k + 1)).flatMap F)) := by
          unfold Hid
          rw [HST.out, ← List.cons_append, HFS.out]
          exact chgs_grow HO.out hwr HB4.out HO4.out (by rw [HN.out]; exact HOW.out) HGR.out
        have HB5 : Hid (Below WB.heap.size WB w5) := (HB.out.later HB4.out).grown HGR.out (by omega) (fun g hg => (World.ownsRow.lt HRA.out g hg).1)
        clear x0 x1 x2 x3 x4
        go_wp2_with fail
        go_roundw
        case rel => exact ⟨k + 1, by omega, by go_num, HC5.out, HB5.out⟩
        case measure => simp [intOf]; omega
    · have HE : Hid (D :: (ids.take k).flatMap F = D :: IX) := by
        unfold Hid
        rw [List.take_of_length_le (by rw [HLI.out]; omega), HR.out]
      have HCE : Hid (ChgsO wr w.heap.size u5 (D :: IX)) := by
        unfold Hid
        rw [← HE.out]
        exact ChgsO.base ⟨vs, HO.out⟩ hwz
      go_wp2_with fail
      go_ret
      exact ⟨_, rfl, HCE.out, HBw.out⟩
end Go.Proofs.YtfpcjhajjejpdaaGreatDoor
