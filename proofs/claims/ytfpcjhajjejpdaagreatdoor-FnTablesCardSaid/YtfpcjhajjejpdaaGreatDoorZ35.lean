/-
  Tables of the reference: l29Pack, l29Set, l29Index.
-/
import Derived.Test.YtfpcjhajjejpdaaGreatDoorZ27
namespace Go.Proofs.YtfpcjhajjejpdaaGreatDoor
open Go.RowKit
set_option linter.unusedVariables false

set_option maxRecDepth 100000 in
set_option maxHeartbeats 8000000 in
theorem l29Pack_any (r0 : Value) (r : List ByteArray) (w : World) (h : RowR w w.heap.size r0 r) (hsm : smallR r) :
    Calls Tryz.prog 150 #[.agg #[r0]] w fun e w' => e = .returned (.string (packB r)) ∧ Below w.heap.size w w' := by
  obtain ⟨A, n, c, rfl, hs, hnc⟩ := h
  have hn := hsm.1
  have HZ : Hid (∀ k, (r.getD k ByteArray.empty).size ≤ 1048576) := fun k => by
    by_cases hk : k < r.length
    · exact hsm.2 _ (getD_memS r k hk)
    · rw [List.getD_eq_getElem?_getD, List.getElem?_eq_none (by omega)]; simp
  clear hsm
  have Hs := Lib.hid hs
  have HL := Lib.hid hs.1
  rw [hs.1] at hn
  have HN : Hid (packB (r.take 1) = ⟨#[]⟩) := pack_nil (by rw [List.length_take]; omega)
  have H2 : Hid (1 < n → packB (r.take 2) = r.getD 1 ByteArray.empty) := fun h => pack_two (by rw [HL.out]; exact h)
  have HST : Hid (∀ k, 1 < k → k < n → packB (r.take (k + 1)) = (packB (r.take k) ++ ⟨#[94]⟩) ++ r.getD k ByteArray.empty) := fun k h1 h2 => pack_step h1 (by rw [HL.out]; exact h2)
  have HE : Hid (∀ k, n ≤ k → packB (r.take k) = packB r) := fun k h => by rw [List.take_of_length_le (by rw [HL.out]; exact h)]
  clear hs
  generalize packB r = R at *
  go_enter Tryz.func150, Tryz.ntmps150
  go_wp2_with fail
  go_loopw [3, 4] (fun o i wr => ∃ (k : Nat), 1 ≤ k ∧ (k ≤ n ∨ k = 1) ∧ i = .int .i64 k ∧ o = .string (packB (r.take k)) ∧ Hid ((packB (r.take k)).size ≤ k * 1048577) ∧ Below (w.heap.size + 1) (w.alloc (.cells #[.slice A n c] 40)) wr) (fun _ i _ => n - (intOf i).toNat)
  case atStart => exact ⟨1, Nat.le_refl _, .inr rfl, rfl, by rw [HN.out], by unfold Hid; rw [HN.out]; exact Nat.zero_le _, Below.refl _ _⟩
  case round =>
    obtain ⟨k, hk1, hk, rfl, rfl, HSZ, hb⟩ := hrel
    have p0 := (Blk.later (heap_alloc_new w _) hb (by omega)).cell 0
    simp at p0
    have hz0 : w.heap.size < wr.heap.size := by have := hb.size; simp at this; omega
    have HB := Lib.hid hb
    have HBw := Lib.hid ((Below.new _ _).trans (hb.mono (by omega)))
    clear hb
    by_cases hlt : k < n
    · obtain ⟨b, o, rfl, hbB, hc⟩ := (Hs.out.later HBw.out).2 (by omega)
      have hck := hc k hlt
      clear hc
      by_cases h1 : k = 1
      · subst h1
        have HP := Lib.hid (H2.out hlt)
        have hsz1 := HZ.out 1
        generalize r.getD 1 ByteArray.empty = s at *
        rw [HN.out]
        go_wp2_with fail
        go_roundw
        case rel => exact ⟨2, by omega, .inl (by omega), by go_num, by rw [HP.out]; congr 1; first | done | (apply ByteArray.ext; simp [ByteArray.data_append]), by unfold Hid; rw [HP.out]; omega, HB.out⟩
        case measure => simp [intOf]; omega
      · have HP := Lib.hid (HST.out k (by omega) hlt)
        have hk3 : 1 < k := by omega
        have hsz1 := HZ.out k
        have HPS : Hid ((packB (r.take (k + 1))).size = (packB (r.take k)).size + 1 + (r.getD k ByteArray.empty).size) := by unfold Hid; rw [HP.out, ByteArray.size_append, ByteArray.size_append]; rfl
        have hz3 : (packB (r.take k)).size ≤ 1099512676352 := by have := HSZ.out; omega
        generalize r.getD k ByteArray.empty = s at *
        generalize packB (r.take k) = t at *
        go_wp2_with fail
        go_roundw
        case rel => exact ⟨k + 1, by omega, .inl (by omega), by go_num, by rw [HP.out], by have := HSZ.out; unfold Hid; rw [HPS.out]; omega, HB.out⟩
        case measure => simp [intOf]; omega
    · have HF := Lib.hid (HE.out k (by omega))
      generalize packB (r.take k) = t at *
      go_wp2_with fail
      go_ret
      exact ⟨by rw [HF.out]; rfl, HBw.out⟩

/-- A change in memory of the call's own. -/
def ChgPost (d : ChgD) (w : World) (e : Ending) (w' : World) : Prop := ∃ v, e = .returned (.agg #[.int .i64 d.kind, .string d.name, v, .string d.val]) ∧ Own.SubO w' w.heap.size v d.subs ∧ Below w.heap.size w w'
theorem sub_lit2 {Z : World} {bs g n : Nat} (ss : List ByteArray) (cs : Array Value) (hg : Z.heap.size = g) (hb : bs ≤ g) (hn : ss.length = n) (hm : n ≤ 1048576) (h : cs = strArr ss) : Own.SubO (Z.alloc (.cells cs 9)) bs (.slice (some ⟨g, 0, none⟩) n n) ss := by
  subst hg hn
  exact sub_lit ss cs hb hm h
theorem sub_later {w w' : World} {bs : Nat} {v : Value} {ss : List ByteArray} (h : Own.SubO w bs v ss) (hb : Below w.heap.size w w') : Own.SubO w' bs v ss := Own.own_later h hb
theorem sub_four {w : World} {bs g t : Nat} {v : Value} {ss : List ByteArray} {a0 a1 a2 a3 : Value} (h : Own.SubO w bs v ss) (hB : Blk w g t #[a0, a1, a2, a3]) (ht : 9 ≠ t) (x0 x1 x2 x3 : Value) : Own.SubO ((((w.setCell ⟨g, 0, none⟩ x0).setCell ⟨g, 1, none⟩ x1).setCell ⟨g, 2, none⟩ x2).setCell ⟨g, 3, none⟩ x3) bs v ss :=
  (((h.setBlk hB ht).setBlk (hB.set_ 0 x0) ht).setBlk ((hB.set_ 0 x0).set_ 1 x1) ht).setBlk (((hB.set_ 0 x0).set_ 1 x1).set_ 2 x2) ht
theorem below_four {a w : World} {B g : Nat} (h : Below B a w) (hg : B ≤ g) (x0 x1 x2 x3 : Value) : Below B a ((((w.setCell ⟨g, 0, none⟩ x0).setCell ⟨g, 1, none⟩ x1).setCell ⟨g, 2, none⟩ x2).setCell ⟨g, 3, none⟩ x3) :=
  (((h.setCell (p := ⟨g, 0, none⟩) hg _).setCell (p := ⟨g, 1, none⟩) hg _).setCell (p := ⟨g, 2, none⟩) hg _).setCell (p := ⟨g, 3, none⟩) hg _
set_option maxRecDepth 100000 in
set_option maxHeartbeats 8000000 in
theorem l29Set_any (b0 b1 b2 b3 r0 : Value) (b : TableD) (r : List ByteArray) (w : World) (hb : TableR w w.heap.size b0 b1 b2 b3 b) (h : RowR w w.heap.size r0 r) (hsm : smallR r) (hpos : 0 < r.length) :
    Calls Tryz.prog 89 #[.agg #[b0, b1, b2, b3], .agg #[r0]] w (ChgPost (setR b.glob r) w) := by
  have HKP := Lib.hid (fun W (hW : Below w.heap.size w W) => l29Pack_any r0 r W (h.later hW) hsm)
  obtain ⟨rfl, rfl, ⟨A2, n2, p2, rfl, s2, k2⟩, ⟨A3, n3, p3, rfl, s3, k3⟩⟩ := hb
  obtain ⟨A, n, c, rfl, hs, hnc⟩ := h
  rw [hs.1] at hpos
  obtain ⟨rb, ro, rfl, hrb, hrc⟩ := hs.2 hpos
  have hc0 := hrc 0 hpos
  rw [Nat.add_zero] at hc0
  have HR : Hid (setR b.glob r = ⟨1, b.glob, [rS, r.getD 0 ByteArray.empty], packB r⟩) := rfl
  clear s2 s3 hs hrc hsm
  generalize setR b.glob r = R at *
  generalize packB r = pk at *
  generalize r.getD 0 ByteArray.empty = key at *
  generalize b.name = nm at *
  generalize b.glob = gl at *
  obtain ⟨WB, hWB⟩ : ∃ WB, WB = ((w.alloc (.cells #[.string nm, .string gl, .slice A2 n2 p2, .slice A3 n3 p3] 29)).alloc (.cells #[.slice (some ⟨rb, ro, none⟩) n c] 40)).alloc (.cells #[.int .i64 0, .string ⟨#[]⟩, .slice none 0 0, .string ⟨#[]⟩] 88) := ⟨_, rfl⟩
  have HB0 : Hid (Below w.heap.size w WB) := by subst hWB; exact below_new3 w _ _ _
  have HTT : Hid (Blk WB w.heap.size 29 #[.string nm, .string gl, .slice A2 n2 p2, .slice A3 n3 p3]) := by subst hWB; exact heap_new0 _ _ _ _
  have HRR : Hid (Blk WB (w.heap.size + 1) 40 #[.slice (some ⟨rb, ro, none⟩) n c]) := by subst hWB; exact heap_new1 _ _ _ _
  have HYY : Hid (Blk WB (w.heap.size + 1 + 1) 88 #[.int .i64 0, .string ⟨#[]⟩, .slice none 0 0, .string ⟨#[]⟩]) := by subst hWB; exact heap_new2 _ _ _ _
  have hrb3 : rb < WB.heap.size := Nat.lt_of_lt_of_le hrb HB0.out.size
  have hk0 := (HB0.out.cell (p := ⟨rb, ro, none⟩) hrb).trans hc0
  have q1 := HTT.out.cell 1
  have q2 := HRR.out.cell 0
  have a1 := (HTT.out.alloc (.cells #[.string ⟨#[114]⟩, .string key] 9)).cell 1
  have a2 := (HRR.out.alloc (.cells #[.string ⟨#[114]⟩, .string key] 9)).cell 0
  have a3 := (World.cell?_alloc_some _ _ (.cells #[.string ⟨#[114]⟩, .string key] 9) (by rw [hk0]; rfl)).trans hk0
  have hwb := HB0.out.size
  have hwy := HYY.out.lt
  have hne1 : w.heap.size + 1 + 1 ≠ rb := by omega
  have hne0 : w.heap.size + 1 + 1 ≠ w.heap.size := by omega
  have hne2 : w.heap.size + 1 + 1 ≠ w.heap.size + 1 := by omega
  simp at q1 q2 a1 a2
  clear hc0
  go_enter Tryz.func89, Tryz.ntmps89
  go_wp2_with fail
  rw [← hWB]
  clear hWB
  go_region_held3 (fun w' => w'.cell? ⟨w.heap.size, 1, none⟩ = some (.string gl) ∧ w'.cell? ⟨w.heap.size + 1, 0, none⟩ = some (.slice (some ⟨rb, ro, none⟩) n c) ∧ w'.cell? ⟨rb, ro, none⟩ = some (.string key))
      (first | with_reducible exact ⟨q1, q2, hk0⟩ | with_reducible exact ⟨a1, a2, a3⟩ | with_reducible exact ⟨t1, t0, tk⟩ | go_keep) (first
        | (go_at_call 150
           with_reducible refine (HKP.out WB.drew ?_).mono ?_
           · exact HB0.out.drew
           rintro e w4 ⟨rfl, hb4'⟩
           have hbW := undrew hb4'
           have HARM : Hid (w4 = w4) := rfl
           have HY4 := Lib.hid (HYY.out.later hbW HYY.out.lt)
           have ht4 := HTT.out.later hbW HTT.out.lt
           have hr4 := HRR.out.later hbW HRR.out.lt
           have t1 := ht4.cell 1
           have t0 := hr4.cell 0
           have tz := ht4.lt
           have rz := hr4.lt
           have tk := (hbW.cell (p := ⟨rb, ro, none⟩) hrb3).trans hk0
           have y0 := HY4.out.cell 0
           have y1 := HY4.out.cell 1
           have y2 := HY4.out.cell 2
           have y3 := HY4.out.cell 3
           have f0 := HY4.out.frozen 0
           have f1 := HY4.out.frozen 1
           have f2 := HY4.out.frozen 2
           have f3 := HY4.out.frozen 3
           have z4 := HY4.out.lt
           simp at t1 t0 y0 y1 y2 y3
           have rz4 : rb < w4.heap.size := Nat.lt_of_lt_of_le hrb3 hbW.size
           have HBX := Lib.hid (HB0.out.later hbW)
           have hwz := HBX.out.size
           clear hbW hb4' ht4 hr4)
        | (go_at_call 150
           with_reducible refine (HKP.out (WB.alloc (.cells #[.string ⟨#[114]⟩, .string key] 9)).drew ?_).mono ?_
           · exact (HB0.out.later (Below.new _ _)).drew
           rintro e w4 ⟨rfl, hb4'⟩
           have hb4 := undrew hb4'
           have hbW := (Below.new WB (.cells #[.string ⟨#[114]⟩, .string key] 9)).later hb4
           have HSX : Hid (Own.SubO w4 w.heap.size (.slice (some ⟨WB.heap.size, 0, none⟩) 2 2) [rS, key]) := sub_later (sub_lit2 [rS, key] _ rfl hwb rfl (by decide) rfl) hb4
           have HY4 := Lib.hid (HYY.out.later hbW HYY.out.lt)
           have ht4 := HTT.out.later hbW HTT.out.lt
           have hr4 := HRR.out.later hbW HRR.out.lt
           have t1 := ht4.cell 1
           have t0 := hr4.cell 0
           have tz := ht4.lt
           have rz := hr4.lt
           have tk := (hbW.cell (p := ⟨rb, ro, none⟩) hrb3).trans hk0
           have y0 := HY4.out.cell 0
           have y1 := HY4.out.cell 1
           have y2 := HY4.out.cell 2
           have y3 := HY4.out.cell 3
           have f0 := HY4.out.frozen 0
           have f1 := HY4.out.frozen 1
           have f2 := HY4.out.frozen 2
           have f3 := HY4.out.frozen 3
           have z4 := HY4.out.lt
           simp at t1 t0 y0 y1 y2 y3
           have rz4 : rb < w4.heap.size := Nat.lt_of_lt_of_le hrb3 hbW.size
           have HBX := Lib.hid (HB0.out.later hbW)
           have hwz := HBX.out.size
           clear hbW hb4 hb4' ht4 hr4))
  all_goals
    go_wp2_with fail
    refine bodyPost_ret (v := .agg #[.int .i64 1, .string gl, .slice (some ⟨_, 0, none⟩) 2 2, .string pk]) (by simp [results, Tryz.results89, go_sem, World.cell?_alloc_lt, z4, y0, y1, y2, y3]; try exact rfl) rfl ?_
    refine ⟨_, by rw [HR.out], ?_, ?_⟩
    · rw [HR.out]
      first
        | (have := HARM.out
           exact sub_lit2 [rS, key] _ (by simp) hwz rfl (by decide) rfl)
        | exact sub_four HSX.out HY4.out (by decide) _ _ _ _
    · first
        | (have := HARM.out
           exact (below_four HBX.out (by omega) _ _ _ _).later (Below.new _ _))
        | exact below_four HBX.out (by omega) _ _ _ _
end Go.Proofs.YtfpcjhajjejpdaaGreatDoor
