import Derived.Test.YtlicffeicmoifaaGreatDoorZ27
import Derived.Test.YtlicffeicmoifaaGreatDoorZ26
import Derived.Test.YtlicffeicmoifaaGreatDoorZ19
import Derived.Test.YtlicffeicmoifaaGreatDoorZ23
import Derived.Test.YtlicffeicmoifaaGreatDoorZ41
set_option linter.unusedSimpArgs false
namespace Go.Proofs.YtlicffeicmoifaaGreatDoor
open Go.RowKit
set_option linter.unusedVariables false
def AreaPost (d : EvD) (w : World) (e : Ending) (w' : World) : Prop := ∃ A m cap, e = .returned (.slice A m cap) ∧ m ≤ cap ∧ m ≤ 1048576 ∧ Strs w' w'.heap.size A m (areaB d) ∧ Below w.heap.size w w'
def confT (a b : EvD) : Bool := (turnsB a || turnsB b) && wayB a.name (areaB a) b.name (areaB b)
theorem conf_eq (a b : EvD) : confB a b = (noteB a && (noteB b && confT a b)) := rfl
theorem note_area {d : EvD} (h : noteB d = true) : d.kind = 5 → 0 < d.subs.length := fun hk => by
 have h1 := (note_parts h).1
 unfold whereB at h1
 rw [if_pos hk, Bool.and_eq_true] at h1
 exact (level_parts h1.2).1
set_option maxRecDepth 100000 in
set_option maxHeartbeats 2000000 in
theorem l28Area_any (c0 c1 c2 c3 c4 : Value) (d : EvD) (w : World) (h : EvR w w.heap.size c0 c1 c2 c3 c4 d) (hsm : d.subs.length ≤ 1048576) (hp : d.kind = 5 → 0 < d.subs.length) :
 Calls Tryz.prog 116 #[.agg #[c0, c1, c2, c3, c4]] w (AreaPost d w) := by
 obtain ⟨rfl, rfl, ⟨S, m, q, rfl, hs, hmq⟩, rfl, rfl⟩ := h
 have hm : m ≤ 1048576 := by rw [← hs.1]; exact hsm
 have HK1 := Lib.hid (fun W (hW : Below w.heap.size w W) => l24SubsO_any S m q d.subs W (hs.later hW) hm)
 have HK2 := Lib.hid (fun W (hW : Below w.heap.size w W) => l24SubsO_any S (m - 1) q (d.subs.take (m - 1)) W ((hs.later hW).take (m - 1) (by omega)) (by omega))
 have HA : Hid (areaB d = if d.kind = 5 then d.subs.take (m - 1) else if d.kind = 6 then [] else d.subs) := by unfold Hid areaB; rw [hs.1]
 have HP : Hid (d.kind = 5 → 0 < m) := by rw [← hs.1]; exact hp
 clear hs hsm hp
 unfold AreaPost
 generalize areaB d = R at *
 generalize d.subs = ss at *
 generalize d.name = nm at *
 generalize d.val = vl at *
 generalize d.kind = kd at *
 generalize d.n = nn at *
 have HB0 : Hid (Below w.heap.size w (w.alloc (.cells #[.int .i64 kd, .string nm, .slice S m q, .string vl, .int .i64 nn] 37))) := Below.new _ _
 go_enter Tryz.func116, Tryz.ntmps116
 by_cases h5 : kd = 5
 · have HE : Hid (R = ss.take (m - 1)) := by unfold Hid; rw [HA.out, if_pos h5]
   subst h5
   have hm0 := HP.out rfl
   have hw1 : IntKind.i64.wrap ((m : Int) - 1) = (m : Int) - 1 := by rw [IntKind.wrap_i64]; omega
   have ht1 : ((m : Int) - 1).toNat = m - 1 := by omega
   have hz1 : (0 : Int) ≤ (m : Int) - 1 := by omega
   have hq1 : (m : Int) - 1 ≤ (q : Int) := by omega
   go_wp2_with fail
   refine (HK2.out _ HB0.out).mono ?_
   rintro e w1 ⟨A', c', rfl, hc, ho, hb1⟩
   have HB := Lib.hid (HB0.out.later hb1)
   obtain ⟨A1, cap1, e1, hc1, hs1⟩ := Own.SubO.strs ho
   injection e1 with e1 e2 e3
   subst e1 e3
   rw [← e2] at hs1
   have HS := Lib.hid hs1
   clear hb1 ho hs1 e2
   go_wp2_with fail
   go_ret
   exact ⟨_, _, _, rfl, hc, by omega, by rw [HE.out]; exact HS.out, HB.out⟩
 have hb5 : (kd == (5 : Int)) = false := beq_eq_false_iff_ne.2 h5
 by_cases h6 : kd = 6
 · have HE : Hid (R = []) := by unfold Hid; rw [HA.out, if_neg h5, if_pos h6]
   subst h6
   go_wp2_with fail
   go_ret
   exact ⟨_, 0, 0, rfl, Nat.le_refl _, by omega, by rw [HE.out]; exact ⟨rfl, fun h => absurd h (by omega)⟩, HB0.out.later (Below.new _ _)⟩
 have hb6 : (kd == (6 : Int)) = false := beq_eq_false_iff_ne.2 h6
 go_wp2_with fail
 refine (HK1.out _ HB0.out).mono ?_
 rintro e w1 ⟨A', c', rfl, hc, ho, hb1⟩
 have HB := Lib.hid (HB0.out.later hb1)
 obtain ⟨A1, cap1, e1, hc1, hs1⟩ := Own.SubO.strs ho
 injection e1 with e1 e2 e3
 subst e1 e3
 rw [← e2] at hs1
 have HS := Lib.hid hs1
 clear hb1 ho hs1 e2
 go_wp2_with fail
 go_ret
 exact ⟨_, _, _, rfl, hc, hm, by rw [HA.out, if_neg h5, if_neg h6]; exact HS.out, HB.out⟩
set_option maxRecDepth 100000 in
set_option maxHeartbeats 2000000 in
theorem area_any (c0 c1 c2 c3 c4 : Value) (d : EvD) (w : World) (h : EvR w w.heap.size c0 c1 c2 c3 c4 d) (hsm : d.subs.length ≤ 1048576) (hp : d.kind = 5 → 0 < d.subs.length) :
 Calls Tryz.prog 48 #[.agg #[c0, c1, c2, c3, c4]] w (AreaPost d w) := by
 obtain ⟨rfl, rfl, ⟨S, m, q, rfl, hs, hmq⟩, rfl, rfl⟩ := h
 have hm : m ≤ 1048576 := by rw [← hs.1]; exact hsm
 have HS1 := Lib.hid (fun W (hW : Below w.heap.size w W) => hs.later hW)
 have HS2 := Lib.hid (fun W (hW : Below w.heap.size w W) => (hs.later hW).take (m - 1) (by omega))
 have HA : Hid (areaB d = if d.kind = 5 then d.subs.take (m - 1) else if d.kind = 6 then [] else d.subs) := by unfold Hid areaB; rw [hs.1]
 have HP : Hid (d.kind = 5 → 0 < m) := by rw [← hs.1]; exact hp
 clear hs hsm hp
 unfold AreaPost
 generalize areaB d = R at *
 generalize d.subs = ss at *
 generalize d.name = nm at *
 generalize d.val = vl at *
 generalize d.kind = kd at *
 generalize d.n = nn at *
 have HB0 : Hid (Below w.heap.size w (w.alloc (.cells #[.int .i64 kd, .string nm, .slice S m q, .string vl, .int .i64 nn] 37))) := Below.new _ _
 go_enter Tryz.func48, Tryz.ntmps48
 by_cases h5 : kd = 5
 · have HE : Hid (R = ss.take (m - 1)) := by unfold Hid; rw [HA.out, if_pos h5]
   subst h5
   have hm0 := HP.out rfl
   have hw1 : IntKind.i64.wrap ((m : Int) - 1) = (m : Int) - 1 := by rw [IntKind.wrap_i64]; omega
   have ht1 : ((m : Int) - 1).toNat = m - 1 := by omega
   have hz1 : (0 : Int) ≤ (m : Int) - 1 := by omega
   have hq1 : (m : Int) - 1 ≤ (q : Int) := by omega
   go_wp2_with fail
   go_ret
   exact ⟨_, _, _, rfl, by omega, by omega, by rw [HE.out]; exact HS2.out _ HB0.out, HB0.out⟩
 have hb5 : (kd == (5 : Int)) = false := beq_eq_false_iff_ne.2 h5
 by_cases h6 : kd = 6
 · have HE : Hid (R = []) := by unfold Hid; rw [HA.out, if_neg h5, if_pos h6]
   subst h6
   go_wp2_with fail
   go_ret
   exact ⟨_, 0, 0, rfl, Nat.le_refl _, by omega, by rw [HE.out]; exact ⟨rfl, fun h => absurd h (by omega)⟩, HB0.out⟩
 have hb6 : (kd == (6 : Int)) = false := beq_eq_false_iff_ne.2 h6
 go_wp2_with fail
 go_ret
 exact ⟨_, _, _, rfl, hmq, hm, by rw [HA.out, if_neg h5, if_neg h6]; exact HS1.out _ HB0.out, HB0.out⟩
def evAt (W : World) (g : Nat) (k n : Int) (nm vl : ByteArray) (S : Option Addr) (m q : Nat) : Prop := W.cell? ⟨g, 0, none⟩ = some (.int .i64 k) ∧ W.cell? ⟨g, 1, none⟩ = some (.string nm) ∧ W.cell? ⟨g, 2, none⟩ = some (.slice S m q) ∧ W.cell? ⟨g, 3, none⟩ = some (.string vl) ∧ W.cell? ⟨g, 4, none⟩ = some (.int .i64 n)
theorem evAt_of {W : World} {g : Nat} {k n : Int} {nm vl : ByteArray} {S : Option Addr} {m q : Nat} (h : Blk W g 37 #[.int .i64 k, .string nm, .slice S m q, .string vl, .int .i64 n]) : evAt W g k n nm vl S m q := ⟨h.at 0 rfl, h.at 1 rfl, h.at 2 rfl, h.at 3 rfl, h.at 4 rfl⟩
set_option maxRecDepth 100000 in
set_option maxHeartbeats 4000000 in
theorem l28Conflict_any (c0 c1 c2 c3 c4 d0 d1 d2 d3 d4 : Value) (a b : EvD) (w : World) (h : EvR w w.heap.size c0 c1 c2 c3 c4 a) (h' : EvR w w.heap.size d0 d1 d2 d3 d4 b) (hsa : a.subs.length ≤ 1048576) (hsb : b.subs.length ≤ 1048576) (hpa : a.kind = 5 → 0 < a.subs.length) (hpb : b.kind = 5 → 0 < b.subs.length) :
 Calls Tryz.prog 50 #[.agg #[c0, c1, c2, c3, c4], .agg #[d0, d1, d2, d3, d4]] w fun e w' => e = .returned (.bool (confT a b)) ∧ Below w.heap.size w w' := by
 have HK1 := Lib.hid (fun W (hW : Below w.heap.size w W) => specTurnsOf_any c0 c1 c2 c3 c4 a W (h.later hW))
 have HK2 := Lib.hid (fun W (hW : Below w.heap.size w W) => specTurnsOf_any d0 d1 d2 d3 d4 b W (h'.later hW))
 have HK3 := Lib.hid (fun W (hW : Below w.heap.size w W) => l28Area_any c0 c1 c2 c3 c4 a W (h.later hW) hsa hpa)
 have HK4 := Lib.hid (fun W (hW : Below w.heap.size w W) => l28Area_any d0 d1 d2 d3 d4 b W (h'.later hW) hsb hpb)
 obtain ⟨rfl, rfl, ⟨S, m, q, rfl, _, _⟩, rfl, rfl⟩ := h
 obtain ⟨rfl, rfl, ⟨S', m', q', rfl, _, _⟩, rfl, rfl⟩ := h'
 obtain ⟨WB, hWB⟩ : ∃ WB, WB = (w.alloc (.cells #[.int .i64 a.kind, .string a.name, .slice S m q, .string a.val, .int .i64 a.n] 37)).alloc (.cells #[.int .i64 b.kind, .string b.name, .slice S' m' q', .string b.val, .int .i64 b.n] 37) := ⟨_, rfl⟩
 have HB0 : Hid (Below w.heap.size w WB) := by subst hWB; exact (Below.new _ _).later (Below.new _ _)
 have HX0 : Hid (Blk WB w.heap.size 37 #[.int .i64 a.kind, .string a.name, .slice S m q, .string a.val, .int .i64 a.n]) := by subst hWB; exact heap_two0 _ _ _
 have HY0 : Hid (Blk WB (w.heap.size + 1) 37 #[.int .i64 b.kind, .string b.name, .slice S' m' q', .string b.val, .int .i64 b.n]) := by subst hWB; exact heap_two1 _ _ _
 have HX : Hid (∀ W, Below WB.heap.size WB W → evAt W w.heap.size a.kind a.n a.name a.val S m q) := fun W hW => evAt_of (HX0.out.later hW HX0.out.lt)
 have HY : Hid (∀ W, Below WB.heap.size WB W → evAt W (w.heap.size + 1) b.kind b.n b.name b.val S' m' q') := fun W hW => evAt_of (HY0.out.later hW HY0.out.lt)
 have HR : Hid (confT a b = ((turnsB a || turnsB b) && wayB a.name (areaB a) b.name (areaB b))) := rfl
 unfold AreaPost at HK3 HK4
 generalize confT a b = R at *
 generalize turnsB a = x at *
 generalize turnsB b = y at *
 generalize areaB a = sa at *
 generalize areaB b = sb at *
 generalize a.kind = ak at *
 generalize a.name = an at *
 generalize a.val = av at *
 generalize a.n = ai at *
 generalize b.kind = bk at *
 generalize b.name = bn at *
 generalize b.val = bv at *
 generalize b.n = bi at *
 have HSS : Hid (∀ W, Below WB.heap.size WB W → (W.cell? ⟨w.heap.size, 0, none⟩ = some (.int .i64 ak) ∧ W.cell? ⟨w.heap.size, 1, none⟩ = some (.string an) ∧ W.cell? ⟨w.heap.size, 2, none⟩ = some (.slice S m q) ∧ W.cell? ⟨w.heap.size, 3, none⟩ = some (.string av) ∧ W.cell? ⟨w.heap.size, 4, none⟩ = some (.int .i64 ai) ∧ W.cell? ⟨w.heap.size + 1, 0, none⟩ = some (.int .i64 bk) ∧ W.cell? ⟨w.heap.size + 1, 1, none⟩ = some (.string bn) ∧ W.cell? ⟨w.heap.size + 1, 2, none⟩ = some (.slice S' m' q') ∧ W.cell? ⟨w.heap.size + 1, 3, none⟩ = some (.string bv) ∧ W.cell? ⟨w.heap.size + 1, 4, none⟩ = some (.int .i64 bi))) := fun W hW => by
  obtain ⟨p0, p1, p2, p3, p4⟩ := HX.out W hW
  obtain ⟨q0, q1, q2, q3, q4⟩ := HY.out W hW
  exact ⟨p0, p1, p2, p3, p4, q0, q1, q2, q3, q4⟩
 clear hsa hsb hpa hpb HX0 HY0
 have hwz := HB0.out.size
 go_enter Tryz.func50, Tryz.ntmps50
 cases x
 · cases y
   · go_wp2_with fail
     rw [← hWB]
     clear hWB
     refine wpEnd_begin (S := fun W => W.cell? ⟨w.heap.size, 0, none⟩ = some (.int .i64 ak) ∧ W.cell? ⟨w.heap.size, 1, none⟩ = some (.string an) ∧ W.cell? ⟨w.heap.size, 2, none⟩ = some (.slice S m q) ∧ W.cell? ⟨w.heap.size, 3, none⟩ = some (.string av) ∧ W.cell? ⟨w.heap.size, 4, none⟩ = some (.int .i64 ai) ∧ W.cell? ⟨w.heap.size + 1, 0, none⟩ = some (.int .i64 bk) ∧ W.cell? ⟨w.heap.size + 1, 1, none⟩ = some (.string bn) ∧ W.cell? ⟨w.heap.size + 1, 2, none⟩ = some (.slice S' m' q') ∧ W.cell? ⟨w.heap.size + 1, 3, none⟩ = some (.string bv) ∧ W.cell? ⟨w.heap.size + 1, 4, none⟩ = some (.int .i64 bi)) 17 (by kernel_rfl) ?hSa (fun hHeld => ?rga)
     case hSa => exact HSS.out _ (Below.refl _ _).drew
     refine wt 0 ?aa1 [] ?ab2 ?ac3
     case ab2 => intro w hSw; (try dsimp only at hSw); obtain ⟨s0, s1, s2, s3, s4, s5, s6, s7, s8, s9⟩ := hSw; go_simp; (try with_reducible rfl)
     try simp only [Act.put, List.setIfInBounds_toArray, List.set_cons_zero, List.set_cons_succ, List.getElem_toArray, List.getElem_cons_zero]
     refine wpEnd_ready (rs := [1]) (by kernel_rfl) (by simp) ?_
     refine AllReadyE.cons rfl (fun KW hK => ?ast4) AllReadyE.nil
     go_simp
     refine (HK1.out _ (by exact HB0.out.drew)).mono ?_
     rintro e wb ⟨rfl, hb1⟩
     have HB1 := Lib.hid (undrew hb1)
     obtain ⟨w1, rfl⟩ : ∃ w0, w0 = wb := ⟨wb, rfl⟩
     clear hb1
     try go_wp2_with fail
     refine hK.out _ _ (fun _ => ?ake5) (fun hHeld' => ?ars6)
     case ake5 => exact HSS.out _ HB1.out
     have hHeld := hHeld' (by decide)
     clear hHeld'
     clear hK KW
     try simp only [Act.put, List.setIfInBounds_toArray, List.set_cons_zero, List.set_cons_succ, List.getElem_toArray, List.getElem_cons_succ, List.getElem_cons_zero]
     refine wt 2 ?aa7 [] ?ab8 ?ac9
     case ab8 => intro w hSw; (try dsimp only at hSw); obtain ⟨s0, s1, s2, s3, s4, s5, s6, s7, s8, s9⟩ := hSw; go_simp; (try with_reducible rfl)
     try simp only [Act.put, List.setIfInBounds_toArray, List.set_cons_zero, List.set_cons_succ, List.getElem_toArray, List.getElem_cons_succ, List.getElem_cons_zero]
     refine wt 3 ?aa10 [] ?ab11 ?ac12
     case ab11 => intro w hSw; (try dsimp only at hSw); obtain ⟨s0, s1, s2, s3, s4, s5, s6, s7, s8, s9⟩ := hSw; go_simp; (try with_reducible rfl)
     try simp only [Act.put, List.setIfInBounds_toArray, List.set_cons_zero, List.set_cons_succ, List.getElem_toArray, List.getElem_cons_succ, List.getElem_cons_zero]
     refine wpEnd_ready (rs := [4]) (by kernel_rfl) (by simp) ?_
     refine AllReadyE.cons rfl (fun KW hK => ?ast13) AllReadyE.nil
     go_simp
     refine (HK2.out _ (HB0.out.later HB1.out)).mono ?_
     rintro e wb ⟨rfl, hb2⟩
     have HB2 := Lib.hid (HB1.out.later hb2)
     obtain ⟨w2, rfl⟩ : ∃ w0, w0 = wb := ⟨wb, rfl⟩
     clear hb2
     try go_wp2_with fail
     refine hK.out _ _ (fun _ => ?ake14) (fun hHeld' => ?ars15)
     case ake14 => exact HSS.out _ HB2.out
     have hHeld := hHeld' (by decide)
     clear hHeld'
     clear hK KW
     try simp only [Act.put, List.setIfInBounds_toArray, List.set_cons_zero, List.set_cons_succ, List.getElem_toArray, List.getElem_cons_succ, List.getElem_cons_zero]
     refine wt 5 ?aa16 [] ?ab17 ?ac18
     case ab17 => intro w hSw; (try dsimp only at hSw); obtain ⟨s0, s1, s2, s3, s4, s5, s6, s7, s8, s9⟩ := hSw; go_simp; (try with_reducible rfl)
     try simp only [Act.put, List.setIfInBounds_toArray, List.set_cons_zero, List.set_cons_succ, List.getElem_toArray, List.getElem_cons_succ, List.getElem_cons_zero]
     refine wt 6 ?aa19 [] ?ab20 ?ac21
     case ab20 => intro w hSw; (try dsimp only at hSw); obtain ⟨s0, s1, s2, s3, s4, s5, s6, s7, s8, s9⟩ := hSw; go_simp; (try with_reducible rfl)
     try simp only [Act.put, List.setIfInBounds_toArray, List.set_cons_zero, List.set_cons_succ, List.getElem_toArray, List.getElem_cons_succ, List.getElem_cons_zero]
     refine wu 7 [] ?ac22
     try simp only [Act.put, List.setIfInBounds_toArray, List.set_cons_zero, List.set_cons_succ, List.getElem_toArray, List.getElem_cons_succ, List.getElem_cons_zero]
     refine wu 8 [] ?ac23
     try simp only [Act.put, List.setIfInBounds_toArray, List.set_cons_zero, List.set_cons_succ, List.getElem_toArray, List.getElem_cons_succ, List.getElem_cons_zero]
     refine wu 9 [] ?ac24
     try simp only [Act.put, List.setIfInBounds_toArray, List.set_cons_zero, List.set_cons_succ, List.getElem_toArray, List.getElem_cons_succ, List.getElem_cons_zero]
     refine wu 10 [] ?ac25
     try simp only [Act.put, List.setIfInBounds_toArray, List.set_cons_zero, List.set_cons_succ, List.getElem_toArray, List.getElem_cons_succ, List.getElem_cons_zero]
     refine wu 11 [] ?ac26
     try simp only [Act.put, List.setIfInBounds_toArray, List.set_cons_zero, List.set_cons_succ, List.getElem_toArray, List.getElem_cons_succ, List.getElem_cons_zero]
     refine wu 12 [] ?ac27
     try simp only [Act.put, List.setIfInBounds_toArray, List.set_cons_zero, List.set_cons_succ, List.getElem_toArray, List.getElem_cons_succ, List.getElem_cons_zero]
     refine wu 13 [] ?ac28
     try simp only [Act.put, List.setIfInBounds_toArray, List.set_cons_zero, List.set_cons_succ, List.getElem_toArray, List.getElem_cons_succ, List.getElem_cons_zero]
     refine wu 14 [] ?ac29
     try simp only [Act.put, List.setIfInBounds_toArray, List.set_cons_zero, List.set_cons_succ, List.getElem_toArray, List.getElem_cons_succ, List.getElem_cons_zero]
     refine wu 15 [] ?ac30
     try simp only [Act.put, List.setIfInBounds_toArray, List.set_cons_zero, List.set_cons_succ, List.getElem_toArray, List.getElem_cons_succ, List.getElem_cons_zero]
     refine wt 16 ?aa31 [] ?ab32 ?ac33
     case ab32 => intro w hSw; (try dsimp only at hSw); obtain ⟨s0, s1, s2, s3, s4, s5, s6, s7, s8, s9⟩ := hSw; go_simp; (try with_reducible rfl)
     try simp only [Act.put, List.setIfInBounds_toArray, List.set_cons_zero, List.set_cons_succ, List.getElem_toArray, List.getElem_cons_succ, List.getElem_cons_zero]
     refine wpEnd_ready (rs := [17]) (by kernel_rfl) (by simp) ?_
     refine AllReadyE.cons rfl (fun KW hK => ?ast34) AllReadyE.nil
     go_simp
     refine hK.out _ _ (fun h => absurd rfl h) (fun hHeld => ?ars36)
     clear hK KW
     try simp only [Act.put, List.setIfInBounds_toArray, List.set_cons_zero, List.set_cons_succ, List.getElem_toArray, List.getElem_cons_succ, List.getElem_cons_zero]
     refine wpEnd_done (by kernel_rfl) ?_ _
     go_wp2_with fail
     go_ret
     exact ⟨ret_bool (by rw [HR.out]; rfl), HB0.out.later HB2.out⟩
   · go_wp2_with fail
     rw [← hWB]
     clear hWB
     refine wpEnd_begin (S := fun W => W.cell? ⟨w.heap.size, 0, none⟩ = some (.int .i64 ak) ∧ W.cell? ⟨w.heap.size, 1, none⟩ = some (.string an) ∧ W.cell? ⟨w.heap.size, 2, none⟩ = some (.slice S m q) ∧ W.cell? ⟨w.heap.size, 3, none⟩ = some (.string av) ∧ W.cell? ⟨w.heap.size, 4, none⟩ = some (.int .i64 ai) ∧ W.cell? ⟨w.heap.size + 1, 0, none⟩ = some (.int .i64 bk) ∧ W.cell? ⟨w.heap.size + 1, 1, none⟩ = some (.string bn) ∧ W.cell? ⟨w.heap.size + 1, 2, none⟩ = some (.slice S' m' q') ∧ W.cell? ⟨w.heap.size + 1, 3, none⟩ = some (.string bv) ∧ W.cell? ⟨w.heap.size + 1, 4, none⟩ = some (.int .i64 bi)) 17 (by kernel_rfl) ?hSb (fun hHeld => ?rgb)
     case hSb => exact HSS.out _ (Below.refl _ _).drew
     refine wt 0 ?ba1 [] ?bb2 ?bc3
     case bb2 => intro w hSw; (try dsimp only at hSw); obtain ⟨s0, s1, s2, s3, s4, s5, s6, s7, s8, s9⟩ := hSw; go_simp; (try with_reducible rfl)
     try simp only [Act.put, List.setIfInBounds_toArray, List.set_cons_zero, List.set_cons_succ, List.getElem_toArray, List.getElem_cons_zero]
     refine wpEnd_ready (rs := [1]) (by kernel_rfl) (by simp) ?_
     refine AllReadyE.cons rfl (fun KW hK => ?bst4) AllReadyE.nil
     go_simp
     refine (HK1.out _ (by exact HB0.out.drew)).mono ?_
     rintro e wb ⟨rfl, hb1⟩
     have HB1 := Lib.hid (undrew hb1)
     obtain ⟨w1, rfl⟩ : ∃ w0, w0 = wb := ⟨wb, rfl⟩
     clear hb1
     try go_wp2_with fail
     refine hK.out _ _ (fun _ => ?bke5) (fun hHeld' => ?brs6)
     case bke5 => exact HSS.out _ HB1.out
     have hHeld := hHeld' (by decide)
     clear hHeld'
     clear hK KW
     try simp only [Act.put, List.setIfInBounds_toArray, List.set_cons_zero, List.set_cons_succ, List.getElem_toArray, List.getElem_cons_succ, List.getElem_cons_zero]
     refine wt 2 ?ba7 [] ?bb8 ?bc9
     case bb8 => intro w hSw; (try dsimp only at hSw); obtain ⟨s0, s1, s2, s3, s4, s5, s6, s7, s8, s9⟩ := hSw; go_simp; (try with_reducible rfl)
     try simp only [Act.put, List.setIfInBounds_toArray, List.set_cons_zero, List.set_cons_succ, List.getElem_toArray, List.getElem_cons_succ, List.getElem_cons_zero]
     refine wt 3 ?ba10 [] ?bb11 ?bc12
     case bb11 => intro w hSw; (try dsimp only at hSw); obtain ⟨s0, s1, s2, s3, s4, s5, s6, s7, s8, s9⟩ := hSw; go_simp; (try with_reducible rfl)
     try simp only [Act.put, List.setIfInBounds_toArray, List.set_cons_zero, List.set_cons_succ, List.getElem_toArray, List.getElem_cons_succ, List.getElem_cons_zero]
     refine wpEnd_ready (rs := [4]) (by kernel_rfl) (by simp) ?_
     refine AllReadyE.cons rfl (fun KW hK => ?bst13) AllReadyE.nil
     go_simp
     refine (HK2.out _ (HB0.out.later HB1.out)).mono ?_
     rintro e wb ⟨rfl, hb2⟩
     have HB2 := Lib.hid (HB1.out.later hb2)
     obtain ⟨w2, rfl⟩ : ∃ w0, w0 = wb := ⟨wb, rfl⟩
     clear hb2
     try go_wp2_with fail
     refine hK.out _ _ (fun _ => ?bke14) (fun hHeld' => ?brs15)
     case bke14 => exact HSS.out _ HB2.out
     have hHeld := hHeld' (by decide)
     clear hHeld'
     clear hK KW
     try simp only [Act.put, List.setIfInBounds_toArray, List.set_cons_zero, List.set_cons_succ, List.getElem_toArray, List.getElem_cons_succ, List.getElem_cons_zero]
     refine wt 5 ?ba16 [] ?bb17 ?bc18
     case bb17 => intro w hSw; (try dsimp only at hSw); obtain ⟨s0, s1, s2, s3, s4, s5, s6, s7, s8, s9⟩ := hSw; go_simp; (try with_reducible rfl)
     try simp only [Act.put, List.setIfInBounds_toArray, List.set_cons_zero, List.set_cons_succ, List.getElem_toArray, List.getElem_cons_succ, List.getElem_cons_zero]
     refine wt 6 ?ba19 [] ?bb20 ?bc21
     case bb20 => intro w hSw; (try dsimp only at hSw); obtain ⟨s0, s1, s2, s3, s4, s5, s6, s7, s8, s9⟩ := hSw; go_simp; (try with_reducible rfl)
     try simp only [Act.put, List.setIfInBounds_toArray, List.set_cons_zero, List.set_cons_succ, List.getElem_toArray, List.getElem_cons_succ, List.getElem_cons_zero]
     refine wt 7 ?ba22 [] ?bb23 ?bc24
     case bb23 => intro w hSw; (try dsimp only at hSw); obtain ⟨s0, s1, s2, s3, s4, s5, s6, s7, s8, s9⟩ := hSw; go_simp; (try with_reducible rfl)
     try simp only [Act.put, List.setIfInBounds_toArray, List.set_cons_zero, List.set_cons_succ, List.getElem_toArray, List.getElem_cons_succ, List.getElem_cons_zero]
     refine wt 8 ?ba25 [] ?bb26 ?bc27
     case bb26 => intro w hSw; (try dsimp only at hSw); obtain ⟨s0, s1, s2, s3, s4, s5, s6, s7, s8, s9⟩ := hSw; go_simp; (try with_reducible rfl)
     try simp only [Act.put, List.setIfInBounds_toArray, List.set_cons_zero, List.set_cons_succ, List.getElem_toArray, List.getElem_cons_succ, List.getElem_cons_zero]
     refine wt 9 ?ba28 [] ?bb29 ?bc30
     case bb29 => intro w hSw; (try dsimp only at hSw); obtain ⟨s0, s1, s2, s3, s4, s5, s6, s7, s8, s9⟩ := hSw; go_simp; (try with_reducible rfl)
     try simp only [Act.put, List.setIfInBounds_toArray, List.set_cons_zero, List.set_cons_succ, List.getElem_toArray, List.getElem_cons_succ, List.getElem_cons_zero]
     refine wt 11 ?ba31 [] ?bb32 ?bc33
     case bb32 => intro w hSw; (try dsimp only at hSw); obtain ⟨s0, s1, s2, s3, s4, s5, s6, s7, s8, s9⟩ := hSw; go_simp; (try with_reducible rfl)
     try simp only [Act.put, List.setIfInBounds_toArray, List.set_cons_zero, List.set_cons_succ, List.getElem_toArray, List.getElem_cons_succ, List.getElem_cons_zero]
     refine wt 12 ?ba34 [] ?bb35 ?bc36
     case bb35 => intro w hSw; (try dsimp only at hSw); obtain ⟨s0, s1, s2, s3, s4, s5, s6, s7, s8, s9⟩ := hSw; go_simp; (try with_reducible rfl)
     try simp only [Act.put, List.setIfInBounds_toArray, List.set_cons_zero, List.set_cons_succ, List.getElem_toArray, List.getElem_cons_succ, List.getElem_cons_zero]
     refine wt 13 ?ba37 [] ?bb38 ?bc39
     case bb38 => intro w hSw; (try dsimp only at hSw); obtain ⟨s0, s1, s2, s3, s4, s5, s6, s7, s8, s9⟩ := hSw; go_simp; (try with_reducible rfl)
     try simp only [Act.put, List.setIfInBounds_toArray, List.set_cons_zero, List.set_cons_succ, List.getElem_toArray, List.getElem_cons_succ, List.getElem_cons_zero]
     refine wpEnd_ready (rs := [10]) (by kernel_rfl) (by simp) ?_
     refine AllReadyE.cons rfl (fun KW hK => ?bst40) AllReadyE.nil
     go_simp
     refine (HK3.out _ (HB0.out.later HB2.out)).mono ?_
     rintro e wb ⟨A1, m1, c1, rfl, hmc1, hm1, hs1, hb3⟩
     have HB3 := Lib.hid (HB2.out.later hb3)
     obtain ⟨w3, rfl⟩ : ∃ w0, w0 = wb := ⟨wb, rfl⟩
     have HS1 := Lib.hid hs1
     clear hb3 hs1
     try go_wp2_with fail
     refine hK.out _ _ (fun _ => ?bke41) (fun hHeld' => ?brs42)
     case bke41 => exact HSS.out _ HB3.out
     have hHeld := hHeld' (by decide)
     clear hHeld'
     clear hK KW
     try simp only [Act.put, List.setIfInBounds_toArray, List.set_cons_zero, List.set_cons_succ, List.getElem_toArray, List.getElem_cons_succ, List.getElem_cons_zero]
     refine wpEnd_ready (rs := [14]) (by kernel_rfl) (by simp) ?_
     refine AllReadyE.cons rfl (fun KW hK => ?bst43) AllReadyE.nil
     go_simp
     refine (HK4.out _ (HB0.out.later HB3.out)).mono ?_
     rintro e wb ⟨A2, m2, c2, rfl, hmc2, hm2, hs2, hb4⟩
     have HB4 := Lib.hid (HB3.out.later hb4)
     obtain ⟨w4, rfl⟩ : ∃ w0, w0 = wb := ⟨wb, rfl⟩
     have HS2 := Lib.hid hs2
     have HS1 := Lib.hid (HS1.out.later hb4)
     clear hb4 hs2
     try go_wp2_with fail
     refine hK.out _ _ (fun _ => ?bke44) (fun hHeld' => ?brs45)
     case bke44 => exact HSS.out _ HB4.out
     have hHeld := hHeld' (by decide)
     clear hHeld'
     clear hK KW
     try simp only [Act.put, List.setIfInBounds_toArray, List.set_cons_zero, List.set_cons_succ, List.getElem_toArray, List.getElem_cons_succ, List.getElem_cons_zero]
     refine wpEnd_ready (rs := [15]) (by kernel_rfl) (by simp) ?_
     refine AllReadyE.cons rfl (fun KW hK => ?bst46) AllReadyE.nil
     go_simp
     refine (l24Way_any an bn A1 A2 m1 c1 m2 c2 sa sb _ HS1.out HS2.out hm1 hm2).mono ?_
     rintro e wb ⟨rfl, qq, rfl⟩
     have HBE := Lib.hid (below_drewN HB4.out qq)
     try go_wp2_with fail
     refine hK.out _ _ (fun _ => ?bke47) (fun hHeld' => ?brs48)
     case bke47 => exact HSS.out _ HBE.out
     have hHeld := hHeld' (by decide)
     clear hHeld'
     clear hK KW
     try simp only [Act.put, List.setIfInBounds_toArray, List.set_cons_zero, List.set_cons_succ, List.getElem_toArray, List.getElem_cons_succ, List.getElem_cons_zero]
     refine wt 16 ?ba49 [] ?bb50 ?bc51
     case bb50 => intro w hSw; (try dsimp only at hSw); obtain ⟨s0, s1, s2, s3, s4, s5, s6, s7, s8, s9⟩ := hSw; go_simp; (try with_reducible rfl)
     try simp only [Act.put, List.setIfInBounds_toArray, List.set_cons_zero, List.set_cons_succ, List.getElem_toArray, List.getElem_cons_succ, List.getElem_cons_zero]
     refine wpEnd_ready (rs := [17]) (by kernel_rfl) (by simp) ?_
     refine AllReadyE.cons rfl (fun KW hK => ?bst52) AllReadyE.nil
     go_simp
     refine hK.out _ _ (fun h => absurd rfl h) (fun hHeld => ?brs54)
     clear hK KW
     try simp only [Act.put, List.setIfInBounds_toArray, List.set_cons_zero, List.set_cons_succ, List.getElem_toArray, List.getElem_cons_succ, List.getElem_cons_zero]
     refine wpEnd_done (by kernel_rfl) ?_ _
     go_wp2_with fail
     go_ret
     exact ⟨ret_bool (by rw [HR.out]; rfl), HB0.out.later HBE.out⟩
 · go_wp2_with fail
   rw [← hWB]
   clear hWB
   refine wpEnd_begin (S := fun W => W.cell? ⟨w.heap.size, 0, none⟩ = some (.int .i64 ak) ∧ W.cell? ⟨w.heap.size, 1, none⟩ = some (.string an) ∧ W.cell? ⟨w.heap.size, 2, none⟩ = some (.slice S m q) ∧ W.cell? ⟨w.heap.size, 3, none⟩ = some (.string av) ∧ W.cell? ⟨w.heap.size, 4, none⟩ = some (.int .i64 ai) ∧ W.cell? ⟨w.heap.size + 1, 0, none⟩ = some (.int .i64 bk) ∧ W.cell? ⟨w.heap.size + 1, 1, none⟩ = some (.string bn) ∧ W.cell? ⟨w.heap.size + 1, 2, none⟩ = some (.slice S' m' q') ∧ W.cell? ⟨w.heap.size + 1, 3, none⟩ = some (.string bv) ∧ W.cell? ⟨w.heap.size + 1, 4, none⟩ = some (.int .i64 bi)) 17 (by kernel_rfl) ?hSc (fun hHeld => ?rgc)
   case hSc => exact HSS.out _ (Below.refl _ _).drew
   refine wt 0 ?ca1 [] ?cb2 ?cc3
   case cb2 => intro w hSw; (try dsimp only at hSw); obtain ⟨s0, s1, s2, s3, s4, s5, s6, s7, s8, s9⟩ := hSw; go_simp; (try with_reducible rfl)
   try simp only [Act.put, List.setIfInBounds_toArray, List.set_cons_zero, List.set_cons_succ, List.getElem_toArray, List.getElem_cons_zero]
   refine wpEnd_ready (rs := [1]) (by kernel_rfl) (by simp) ?_
   refine AllReadyE.cons rfl (fun KW hK => ?cst4) AllReadyE.nil
   go_simp
   refine (HK1.out _ (by exact HB0.out.drew)).mono ?_
   rintro e wb ⟨rfl, hb1⟩
   have HB1 := Lib.hid (undrew hb1)
   obtain ⟨w1, rfl⟩ : ∃ w0, w0 = wb := ⟨wb, rfl⟩
   clear hb1
   try go_wp2_with fail
   refine hK.out _ _ (fun _ => ?cke5) (fun hHeld' => ?crs6)
   case cke5 => exact HSS.out _ HB1.out
   have hHeld := hHeld' (by decide)
   clear hHeld'
   clear hK KW
   try simp only [Act.put, List.setIfInBounds_toArray, List.set_cons_zero, List.set_cons_succ, List.getElem_toArray, List.getElem_cons_succ, List.getElem_cons_zero]
   refine wt 2 ?ca7 [] ?cb8 ?cc9
   case cb8 => intro w hSw; (try dsimp only at hSw); obtain ⟨s0, s1, s2, s3, s4, s5, s6, s7, s8, s9⟩ := hSw; go_simp; (try with_reducible rfl)
   try simp only [Act.put, List.setIfInBounds_toArray, List.set_cons_zero, List.set_cons_succ, List.getElem_toArray, List.getElem_cons_succ, List.getElem_cons_zero]
   refine wu 3 [] ?cc10
   try simp only [Act.put, List.setIfInBounds_toArray, List.set_cons_zero, List.set_cons_succ, List.getElem_toArray, List.getElem_cons_succ, List.getElem_cons_zero]
   refine wu 4 [] ?cc11
   try simp only [Act.put, List.setIfInBounds_toArray, List.set_cons_zero, List.set_cons_succ, List.getElem_toArray, List.getElem_cons_succ, List.getElem_cons_zero]
   refine wt 5 ?ca12 [] ?cb13 ?cc14
   case cb13 => intro w hSw; (try dsimp only at hSw); obtain ⟨s0, s1, s2, s3, s4, s5, s6, s7, s8, s9⟩ := hSw; go_simp; (try with_reducible rfl)
   try simp only [Act.put, List.setIfInBounds_toArray, List.set_cons_zero, List.set_cons_succ, List.getElem_toArray, List.getElem_cons_succ, List.getElem_cons_zero]
   refine wt 6 ?ca15 [] ?cb16 ?cc17
   case cb16 => intro w hSw; (try dsimp only at hSw); obtain ⟨s0, s1, s2, s3, s4, s5, s6, s7, s8, s9⟩ := hSw; go_simp; (try with_reducible rfl)
   try simp only [Act.put, List.setIfInBounds_toArray, List.set_cons_zero, List.set_cons_succ, List.getElem_toArray, List.getElem_cons_succ, List.getElem_cons_zero]
   refine wt 7 ?ca18 [] ?cb19 ?cc20
   case cb19 => intro w hSw; (try dsimp only at hSw); obtain ⟨s0, s1, s2, s3, s4, s5, s6, s7, s8, s9⟩ := hSw; go_simp; (try with_reducible rfl)
   try simp only [Act.put, List.setIfInBounds_toArray, List.set_cons_zero, List.set_cons_succ, List.getElem_toArray, List.getElem_cons_succ, List.getElem_cons_zero]
   refine wt 8 ?ca21 [] ?cb22 ?cc23
   case cb22 => intro w hSw; (try dsimp only at hSw); obtain ⟨s0, s1, s2, s3, s4, s5, s6, s7, s8, s9⟩ := hSw; go_simp; (try with_reducible rfl)
   try simp only [Act.put, List.setIfInBounds_toArray, List.set_cons_zero, List.set_cons_succ, List.getElem_toArray, List.getElem_cons_succ, List.getElem_cons_zero]
   refine wt 9 ?ca24 [] ?cb25 ?cc26
   case cb25 => intro w hSw; (try dsimp only at hSw); obtain ⟨s0, s1, s2, s3, s4, s5, s6, s7, s8, s9⟩ := hSw; go_simp; (try with_reducible rfl)
   try simp only [Act.put, List.setIfInBounds_toArray, List.set_cons_zero, List.set_cons_succ, List.getElem_toArray, List.getElem_cons_succ, List.getElem_cons_zero]
   refine wt 11 ?ca27 [] ?cb28 ?cc29
   case cb28 => intro w hSw; (try dsimp only at hSw); obtain ⟨s0, s1, s2, s3, s4, s5, s6, s7, s8, s9⟩ := hSw; go_simp; (try with_reducible rfl)
   try simp only [Act.put, List.setIfInBounds_toArray, List.set_cons_zero, List.set_cons_succ, List.getElem_toArray, List.getElem_cons_succ, List.getElem_cons_zero]
   refine wt 12 ?ca30 [] ?cb31 ?cc32
   case cb31 => intro w hSw; (try dsimp only at hSw); obtain ⟨s0, s1, s2, s3, s4, s5, s6, s7, s8, s9⟩ := hSw; go_simp; (try with_reducible rfl)
   try simp only [Act.put, List.setIfInBounds_toArray, List.set_cons_zero, List.set_cons_succ, List.getElem_toArray, List.getElem_cons_succ, List.getElem_cons_zero]
   refine wt 13 ?ca33 [] ?cb34 ?cc35
   case cb34 => intro w hSw; (try dsimp only at hSw); obtain ⟨s0, s1, s2, s3, s4, s5, s6, s7, s8, s9⟩ := hSw; go_simp; (try with_reducible rfl)
   try simp only [Act.put, List.setIfInBounds_toArray, List.set_cons_zero, List.set_cons_succ, List.getElem_toArray, List.getElem_cons_succ, List.getElem_cons_zero]
   refine wpEnd_ready (rs := [10]) (by kernel_rfl) (by simp) ?_
   refine AllReadyE.cons rfl (fun KW hK => ?cst36) AllReadyE.nil
   go_simp
   refine (HK3.out _ (HB0.out.later HB1.out)).mono ?_
   rintro e wb ⟨A1, m1, c1, rfl, hmc1, hm1, hs1, hb2⟩
   have HB2 := Lib.hid (HB1.out.later hb2)
   obtain ⟨w2, rfl⟩ : ∃ w0, w0 = wb := ⟨wb, rfl⟩
   have HS1 := Lib.hid hs1
   clear hb2 hs1
   try go_wp2_with fail
   refine hK.out _ _ (fun _ => ?cke37) (fun hHeld' => ?crs38)
   case cke37 => exact HSS.out _ HB2.out
   have hHeld := hHeld' (by decide)
   clear hHeld'
   clear hK KW
   try simp only [Act.put, List.setIfInBounds_toArray, List.set_cons_zero, List.set_cons_succ, List.getElem_toArray, List.getElem_cons_succ, List.getElem_cons_zero]
   refine wpEnd_ready (rs := [14]) (by kernel_rfl) (by simp) ?_
   refine AllReadyE.cons rfl (fun KW hK => ?cst39) AllReadyE.nil
   go_simp
   refine (HK4.out _ (HB0.out.later HB2.out)).mono ?_
   rintro e wb ⟨A2, m2, c2, rfl, hmc2, hm2, hs2, hb3⟩
   have HB3 := Lib.hid (HB2.out.later hb3)
   obtain ⟨w3, rfl⟩ : ∃ w0, w0 = wb := ⟨wb, rfl⟩
   have HS2 := Lib.hid hs2
   have HS1 := Lib.hid (HS1.out.later hb3)
   clear hb3 hs2
   try go_wp2_with fail
   refine hK.out _ _ (fun _ => ?cke40) (fun hHeld' => ?crs41)
   case cke40 => exact HSS.out _ HB3.out
   have hHeld := hHeld' (by decide)
   clear hHeld'
   clear hK KW
   try simp only [Act.put, List.setIfInBounds_toArray, List.set_cons_zero, List.set_cons_succ, List.getElem_toArray, List.getElem_cons_succ, List.getElem_cons_zero]
   refine wpEnd_ready (rs := [15]) (by kernel_rfl) (by simp) ?_
   refine AllReadyE.cons rfl (fun KW hK => ?cst42) AllReadyE.nil
   go_simp
   refine (l24Way_any an bn A1 A2 m1 c1 m2 c2 sa sb _ HS1.out HS2.out hm1 hm2).mono ?_
   rintro e wb ⟨rfl, qq, rfl⟩
   have HBE := Lib.hid (below_drewN HB3.out qq)
   try go_wp2_with fail
   refine hK.out _ _ (fun _ => ?cke43) (fun hHeld' => ?crs44)
   case cke43 => exact HSS.out _ HBE.out
   have hHeld := hHeld' (by decide)
   clear hHeld'
   clear hK KW
   try simp only [Act.put, List.setIfInBounds_toArray, List.set_cons_zero, List.set_cons_succ, List.getElem_toArray, List.getElem_cons_succ, List.getElem_cons_zero]
   refine wt 16 ?ca45 [] ?cb46 ?cc47
   case cb46 => intro w hSw; (try dsimp only at hSw); obtain ⟨s0, s1, s2, s3, s4, s5, s6, s7, s8, s9⟩ := hSw; go_simp; (try with_reducible rfl)
   try simp only [Act.put, List.setIfInBounds_toArray, List.set_cons_zero, List.set_cons_succ, List.getElem_toArray, List.getElem_cons_succ, List.getElem_cons_zero]
   refine wpEnd_ready (rs := [17]) (by kernel_rfl) (by simp) ?_
   refine AllReadyE.cons rfl (fun KW hK => ?cst48) AllReadyE.nil
   go_simp
   refine hK.out _ _ (fun h => absurd rfl h) (fun hHeld => ?crs50)
   clear hK KW
   try simp only [Act.put, List.setIfInBounds_toArray, List.set_cons_zero, List.set_cons_succ, List.getElem_toArray, List.getElem_cons_succ, List.getElem_cons_zero]
   refine wpEnd_done (by kernel_rfl) ?_ _
   go_wp2_with fail
   go_ret
   exact ⟨ret_bool (by rw [HR.out]; rfl), HB0.out.later HBE.out⟩
set_option maxRecDepth 100000 in
set_option maxHeartbeats 4000000 in
theorem specConf_any (c0 c1 c2 c3 c4 d0 d1 d2 d3 d4 : Value) (a b : EvD) (w : World) (h : EvR w w.heap.size c0 c1 c2 c3 c4 a) (h' : EvR w w.heap.size d0 d1 d2 d3 d4 b) (hoa : okE a) (hob : okE b) :
 Calls Tryz.prog 14 #[.agg #[c0, c1, c2, c3, c4], .agg #[d0, d1, d2, d3, d4]] w fun e w' => e = .returned (.bool (confB a b)) ∧ Below w.heap.size w w' := by
 have HKA := Lib.hid (fun W (hW : Below w.heap.size w W) => specNoteOk_any c0 c1 c2 c3 c4 a W (h.later hW) hoa.1 hoa.2)
 have HKB := Lib.hid (fun W (hW : Below w.heap.size w W) => specNoteOk_any d0 d1 d2 d3 d4 b W (h'.later hW) hob.1 hob.2)
 have HKC := Lib.hid (fun W (hW : Below w.heap.size w W) (ha : noteB a = true) (hb : noteB b = true) => l28Conflict_any c0 c1 c2 c3 c4 d0 d1 d2 d3 d4 a b W (h.later hW) (h'.later hW) hoa.1.2.1.1 hob.1.2.1.1 (note_area ha) (note_area hb))
 obtain ⟨rfl, rfl, ⟨S, m, q, rfl, _, _⟩, rfl, rfl⟩ := h
 obtain ⟨rfl, rfl, ⟨S', m', q', rfl, _, _⟩, rfl, rfl⟩ := h'
 obtain ⟨WB, hWB⟩ : ∃ WB, WB = (w.alloc (.cells #[.int .i64 a.kind, .string a.name, .slice S m q, .string a.val, .int .i64 a.n] 37)).alloc (.cells #[.int .i64 b.kind, .string b.name, .slice S' m' q', .string b.val, .int .i64 b.n] 37) := ⟨_, rfl⟩
 have HB0 : Hid (Below w.heap.size w WB) := by subst hWB; exact (Below.new _ _).later (Below.new _ _)
 have HX0 : Hid (Blk WB w.heap.size 37 #[.int .i64 a.kind, .string a.name, .slice S m q, .string a.val, .int .i64 a.n]) := by subst hWB; exact heap_two0 _ _ _
 have HY0 : Hid (Blk WB (w.heap.size + 1) 37 #[.int .i64 b.kind, .string b.name, .slice S' m' q', .string b.val, .int .i64 b.n]) := by subst hWB; exact heap_two1 _ _ _
 have HX : Hid (∀ W, Below WB.heap.size WB W → evAt W w.heap.size a.kind a.n a.name a.val S m q) := fun W hW => evAt_of (HX0.out.later hW HX0.out.lt)
 have HY : Hid (∀ W, Below WB.heap.size WB W → evAt W (w.heap.size + 1) b.kind b.n b.name b.val S' m' q') := fun W hW => evAt_of (HY0.out.later hW HY0.out.lt)
 have HR := Lib.hid (conf_eq a b)
 generalize confB a b = R at *
 generalize confT a b = z at *
 generalize noteB a = x at *
 generalize noteB b = y at *
 generalize a.kind = ak at *
 generalize a.name = an at *
 generalize a.val = av at *
 generalize a.n = ai at *
 generalize b.kind = bk at *
 generalize b.name = bn at *
 generalize b.val = bv at *
 generalize b.n = bi at *
 obtain ⟨p0, p1, p2, p3, p4⟩ := HX.out _ (Below.refl _ _)
 clear hoa hob HX0 HY0
 go_enter Tryz.func14, Tryz.ntmps14
 go_wp2_with fail
 rw [← hWB]
 clear hWB
 refine (HKA.out _ HB0.out).mono ?_
 rintro e w1 ⟨rfl, hb1⟩
 have HB1 := Lib.hid hb1
 clear hb1 p0 p1 p2 p3 p4
 cases x
 · go_wp2_with fail
   go_ret
   exact ⟨ret_bool (by rw [HR.out]; rfl), HB0.out.later HB1.out⟩
 obtain ⟨q0, q1, q2, q3, q4⟩ := HY.out _ HB1.out
 go_wp2_with fail
 refine (HKB.out _ (HB0.out.later HB1.out)).mono ?_
 rintro e w2 ⟨rfl, hb2⟩
 have HB2 := Lib.hid (HB1.out.later hb2)
 clear hb2 q0 q1 q2 q3 q4
 cases y
 · go_wp2_with fail
   go_ret
   exact ⟨ret_bool (by rw [HR.out]; rfl), HB0.out.later HB2.out⟩
 obtain ⟨p0, p1, p2, p3, p4⟩ := HX.out _ HB2.out
 obtain ⟨q0, q1, q2, q3, q4⟩ := HY.out _ HB2.out
 have HKD := Lib.hid (HKC.out w2 (HB0.out.later HB2.out) (by first | rfl | trivial) (by first | rfl | trivial))
 clear HKC
 go_wp2_with fail
 refine HKD.out.mono ?_
 rintro e w3 ⟨rfl, hb3⟩
 have HB3 := Lib.hid (HB2.out.later hb3)
 clear hb3 HKD p0 p1 p2 p3 p4 q0 q1 q2 q3 q4
 go_wp2_with fail
 go_ret
 exact ⟨ret_bool (by rw [HR.out]; rfl), HB0.out.later HB3.out⟩
set_option maxRecDepth 100000 in
set_option maxHeartbeats 4000000 in
theorem Conf_any (c0 c1 c2 c3 c4 d0 d1 d2 d3 d4 : Value) (a b : EvD) (w : World) (htab : tabT w) (h : EvR w w.heap.size c0 c1 c2 c3 c4 a) (h' : EvR w w.heap.size d0 d1 d2 d3 d4 b) (hoa : okE a) (hob : okE b) :
 Calls Tryz.prog 13 #[.agg #[c0, c1, c2, c3, c4], .agg #[d0, d1, d2, d3, d4]] w fun e w' => e = .returned (.bool (confB a b)) ∧ Below w.heap.size w w' := by
 have HKA := Lib.hid (fun W (hW : Below w.heap.size w W) => NoteOk_any c0 c1 c2 c3 c4 a W (tab_later htab hW) (h.later hW) hoa.1 hoa.2)
 have HKB := Lib.hid (fun W (hW : Below w.heap.size w W) => NoteOk_any d0 d1 d2 d3 d4 b W (tab_later htab hW) (h'.later hW) hob.1 hob.2)
 have HK1 := Lib.hid (fun W (hW : Below w.heap.size w W) => TurnsOf_any c0 c1 c2 c3 c4 a W (h.later hW))
 have HK2 := Lib.hid (fun W (hW : Below w.heap.size w W) => TurnsOf_any d0 d1 d2 d3 d4 b W (h'.later hW))
 have HK3 := Lib.hid (fun (ha : noteB a = true) W (hW : Below w.heap.size w W) => area_any c0 c1 c2 c3 c4 a W (h.later hW) hoa.1.2.1.1 (note_area ha))
 have HK4 := Lib.hid (fun (hb : noteB b = true) W (hW : Below w.heap.size w W) => area_any d0 d1 d2 d3 d4 b W (h'.later hW) hob.1.2.1.1 (note_area hb))
 obtain ⟨rfl, rfl, ⟨S, m, q, rfl, _, _⟩, rfl, rfl⟩ := h
 obtain ⟨rfl, rfl, ⟨S', m', q', rfl, _, _⟩, rfl, rfl⟩ := h'
 obtain ⟨WB, hWB⟩ : ∃ WB, WB = (w.alloc (.cells #[.int .i64 a.kind, .string a.name, .slice S m q, .string a.val, .int .i64 a.n] 37)).alloc (.cells #[.int .i64 b.kind, .string b.name, .slice S' m' q', .string b.val, .int .i64 b.n] 37) := ⟨_, rfl⟩
 have HB0 : Hid (Below w.heap.size w WB) := by subst hWB; exact (Below.new _ _).later (Below.new _ _)
 have HX0 : Hid (Blk WB w.heap.size 37 #[.int .i64 a.kind, .string a.name, .slice S m q, .string a.val, .int .i64 a.n]) := by subst hWB; exact heap_two0 _ _ _
 have HY0 : Hid (Blk WB (w.heap.size + 1) 37 #[.int .i64 b.kind, .string b.name, .slice S' m' q', .string b.val, .int .i64 b.n]) := by subst hWB; exact heap_two1 _ _ _
 have HX : Hid (∀ W, Below WB.heap.size WB W → evAt W w.heap.size a.kind a.n a.name a.val S m q) := fun W hW => evAt_of (HX0.out.later hW HX0.out.lt)
 have HY : Hid (∀ W, Below WB.heap.size WB W → evAt W (w.heap.size + 1) b.kind b.n b.name b.val S' m' q') := fun W hW => evAt_of (HY0.out.later hW HY0.out.lt)
 have HR : Hid (confB a b = (noteB a && (noteB b && ((turnsB a || turnsB b) && wayB a.name (areaB a) b.name (areaB b))))) := rfl
 unfold AreaPost at HK3 HK4
 generalize confB a b = R at *
 generalize noteB a = na at *
 generalize noteB b = nb at *
 generalize turnsB a = x at *
 generalize turnsB b = y at *
 generalize areaB a = sa at *
 generalize areaB b = sb at *
 generalize a.kind = ak at *
 generalize a.name = an at *
 generalize a.val = av at *
 generalize a.n = ai at *
 generalize b.kind = bk at *
 generalize b.name = bn at *
 generalize b.val = bv at *
 generalize b.n = bi at *
 have HSS : Hid (∀ W, Below WB.heap.size WB W → (W.cell? ⟨w.heap.size, 0, none⟩ = some (.int .i64 ak) ∧ W.cell? ⟨w.heap.size, 1, none⟩ = some (.string an) ∧ W.cell? ⟨w.heap.size, 2, none⟩ = some (.slice S m q) ∧ W.cell? ⟨w.heap.size, 3, none⟩ = some (.string av) ∧ W.cell? ⟨w.heap.size, 4, none⟩ = some (.int .i64 ai) ∧ W.cell? ⟨w.heap.size + 1, 0, none⟩ = some (.int .i64 bk) ∧ W.cell? ⟨w.heap.size + 1, 1, none⟩ = some (.string bn) ∧ W.cell? ⟨w.heap.size + 1, 2, none⟩ = some (.slice S' m' q') ∧ W.cell? ⟨w.heap.size + 1, 3, none⟩ = some (.string bv) ∧ W.cell? ⟨w.heap.size + 1, 4, none⟩ = some (.int .i64 bi))) := fun W hW => by
  obtain ⟨p0, p1, p2, p3, p4⟩ := HX.out W hW
  obtain ⟨q0, q1, q2, q3, q4⟩ := HY.out W hW
  exact ⟨p0, p1, p2, p3, p4, q0, q1, q2, q3, q4⟩
 clear hoa hob htab HX0 HY0
 have hwz := HB0.out.size
 go_enter Tryz.func13, Tryz.ntmps13
 cases na
 · go_wp2_with fail
   rw [← hWB]
   clear hWB
   refine wpEnd_begin (S := fun W => W.cell? ⟨w.heap.size, 0, none⟩ = some (.int .i64 ak) ∧ W.cell? ⟨w.heap.size, 1, none⟩ = some (.string an) ∧ W.cell? ⟨w.heap.size, 2, none⟩ = some (.slice S m q) ∧ W.cell? ⟨w.heap.size, 3, none⟩ = some (.string av) ∧ W.cell? ⟨w.heap.size, 4, none⟩ = some (.int .i64 ai) ∧ W.cell? ⟨w.heap.size + 1, 0, none⟩ = some (.int .i64 bk) ∧ W.cell? ⟨w.heap.size + 1, 1, none⟩ = some (.string bn) ∧ W.cell? ⟨w.heap.size + 1, 2, none⟩ = some (.slice S' m' q') ∧ W.cell? ⟨w.heap.size + 1, 3, none⟩ = some (.string bv) ∧ W.cell? ⟨w.heap.size + 1, 4, none⟩ = some (.int .i64 bi)) 25 (by kernel_rfl) ?hSa (fun hHeld => ?rga)
   case hSa => exact HSS.out _ (Below.refl _ _).drew
   refine wt 0 ?aa1 [] ?ab2 ?ac3
   case ab2 => intro w hSw; (try dsimp only at hSw); obtain ⟨s0, s1, s2, s3, s4, s5, s6, s7, s8, s9⟩ := hSw; go_simp; (try with_reducible rfl)
   try simp only [Act.put, List.setIfInBounds_toArray, List.set_cons_zero, List.set_cons_succ, List.getElem_toArray, List.getElem_cons_zero]
   refine wpEnd_ready (rs := [1]) (by kernel_rfl) (by simp) ?_
   refine AllReadyE.cons rfl (fun KW hK => ?ast4) AllReadyE.nil
   go_simp
   refine (HKA.out _ (by exact HB0.out.drew)).mono ?_
   rintro e wb ⟨rfl, hb1⟩
   have HB1 := Lib.hid (undrew hb1)
   obtain ⟨w1, rfl⟩ : ∃ w0, w0 = wb := ⟨wb, rfl⟩
   clear hb1
   try go_wp2_with fail
   refine hK.out _ _ (fun _ => ?ake5) (fun hHeld' => ?ars6)
   case ake5 => exact HSS.out _ HB1.out
   have hHeld := hHeld' (by decide)
   clear hHeld'
   clear hK KW
   try simp only [Act.put, List.setIfInBounds_toArray, List.set_cons_zero, List.set_cons_succ, List.getElem_toArray, List.getElem_cons_succ, List.getElem_cons_zero]
   refine wt 2 ?aa7 [] ?ab8 ?ac9
   case ab8 => intro w hSw; (try dsimp only at hSw); obtain ⟨s0, s1, s2, s3, s4, s5, s6, s7, s8, s9⟩ := hSw; go_simp; (try with_reducible rfl)
   try simp only [Act.put, List.setIfInBounds_toArray, List.set_cons_zero, List.set_cons_succ, List.getElem_toArray, List.getElem_cons_succ, List.getElem_cons_zero]
   refine wu 3 [] ?ac10
   try simp only [Act.put, List.setIfInBounds_toArray, List.set_cons_zero, List.set_cons_succ, List.getElem_toArray, List.getElem_cons_succ, List.getElem_cons_zero]
   refine wu 4 [] ?ac11
   try simp only [Act.put, List.setIfInBounds_toArray, List.set_cons_zero, List.set_cons_succ, List.getElem_toArray, List.getElem_cons_succ, List.getElem_cons_zero]
   refine wt 5 ?aa12 [] ?ab13 ?ac14
   case ab13 => intro w hSw; (try dsimp only at hSw); obtain ⟨s0, s1, s2, s3, s4, s5, s6, s7, s8, s9⟩ := hSw; go_simp; (try with_reducible rfl)
   try simp only [Act.put, List.setIfInBounds_toArray, List.set_cons_zero, List.set_cons_succ, List.getElem_toArray, List.getElem_cons_succ, List.getElem_cons_zero]
   refine wt 6 ?aa15 [] ?ab16 ?ac17
   case ab16 => intro w hSw; (try dsimp only at hSw); obtain ⟨s0, s1, s2, s3, s4, s5, s6, s7, s8, s9⟩ := hSw; go_simp; (try with_reducible rfl)
   try simp only [Act.put, List.setIfInBounds_toArray, List.set_cons_zero, List.set_cons_succ, List.getElem_toArray, List.getElem_cons_succ, List.getElem_cons_zero]
   refine wu 7 [] ?ac18
   try simp only [Act.put, List.setIfInBounds_toArray, List.set_cons_zero, List.set_cons_succ, List.getElem_toArray, List.getElem_cons_succ, List.getElem_cons_zero]
   refine wu 8 [] ?ac19
   try simp only [Act.put, List.setIfInBounds_toArray, List.set_cons_zero, List.set_cons_succ, List.getElem_toArray, List.getElem_cons_succ, List.getElem_cons_zero]
   refine wu 9 [] ?ac20
   try simp only [Act.put, List.setIfInBounds_toArray, List.set_cons_zero, List.set_cons_succ, List.getElem_toArray, List.getElem_cons_succ, List.getElem_cons_zero]
   refine wu 10 [] ?ac21
   try simp only [Act.put, List.setIfInBounds_toArray, List.set_cons_zero, List.set_cons_succ, List.getElem_toArray, List.getElem_cons_succ, List.getElem_cons_zero]
   refine wu 11 [] ?ac22
   try simp only [Act.put, List.setIfInBounds_toArray, List.set_cons_zero, List.set_cons_succ, List.getElem_toArray, List.getElem_cons_succ, List.getElem_cons_zero]
   refine wu 12 [] ?ac23
   try simp only [Act.put, List.setIfInBounds_toArray, List.set_cons_zero, List.set_cons_succ, List.getElem_toArray, List.getElem_cons_succ, List.getElem_cons_zero]
   refine wt 13 ?aa24 [] ?ab25 ?ac26
   case ab25 => intro w hSw; (try dsimp only at hSw); obtain ⟨s0, s1, s2, s3, s4, s5, s6, s7, s8, s9⟩ := hSw; go_simp; (try with_reducible rfl)
   try simp only [Act.put, List.setIfInBounds_toArray, List.set_cons_zero, List.set_cons_succ, List.getElem_toArray, List.getElem_cons_succ, List.getElem_cons_zero]
   refine wt 14 ?aa27 [] ?ab28 ?ac29
   case ab28 => intro w hSw; (try dsimp only at hSw); obtain ⟨s0, s1, s2, s3, s4, s5, s6, s7, s8, s9⟩ := hSw; go_simp; (try with_reducible rfl)
   try simp only [Act.put, List.setIfInBounds_toArray, List.set_cons_zero, List.set_cons_succ, List.getElem_toArray, List.getElem_cons_succ, List.getElem_cons_zero]
   refine wu 15 [] ?ac30
   try simp only [Act.put, List.setIfInBounds_toArray, List.set_cons_zero, List.set_cons_succ, List.getElem_toArray, List.getElem_cons_succ, List.getElem_cons_zero]
   refine wu 16 [] ?ac31
   try simp only [Act.put, List.setIfInBounds_toArray, List.set_cons_zero, List.set_cons_succ, List.getElem_toArray, List.getElem_cons_succ, List.getElem_cons_zero]
   refine wu 17 [] ?ac32
   try simp only [Act.put, List.setIfInBounds_toArray, List.set_cons_zero, List.set_cons_succ, List.getElem_toArray, List.getElem_cons_succ, List.getElem_cons_zero]
   refine wu 18 [] ?ac33
   try simp only [Act.put, List.setIfInBounds_toArray, List.set_cons_zero, List.set_cons_succ, List.getElem_toArray, List.getElem_cons_succ, List.getElem_cons_zero]
   refine wu 19 [] ?ac34
   try simp only [Act.put, List.setIfInBounds_toArray, List.set_cons_zero, List.set_cons_succ, List.getElem_toArray, List.getElem_cons_succ, List.getElem_cons_zero]
   refine wu 20 [] ?ac35
   try simp only [Act.put, List.setIfInBounds_toArray, List.set_cons_zero, List.set_cons_succ, List.getElem_toArray, List.getElem_cons_succ, List.getElem_cons_zero]
   refine wu 21 [] ?ac36
   try simp only [Act.put, List.setIfInBounds_toArray, List.set_cons_zero, List.set_cons_succ, List.getElem_toArray, List.getElem_cons_succ, List.getElem_cons_zero]
   refine wu 22 [] ?ac37
   try simp only [Act.put, List.setIfInBounds_toArray, List.set_cons_zero, List.set_cons_succ, List.getElem_toArray, List.getElem_cons_succ, List.getElem_cons_zero]
   refine wu 23 [] ?ac38
   try simp only [Act.put, List.setIfInBounds_toArray, List.set_cons_zero, List.set_cons_succ, List.getElem_toArray, List.getElem_cons_succ, List.getElem_cons_zero]
   refine wt 24 ?aa39 [] ?ab40 ?ac41
   case ab40 => intro w hSw; (try dsimp only at hSw); obtain ⟨s0, s1, s2, s3, s4, s5, s6, s7, s8, s9⟩ := hSw; go_simp; (try with_reducible rfl)
   try simp only [Act.put, List.setIfInBounds_toArray, List.set_cons_zero, List.set_cons_succ, List.getElem_toArray, List.getElem_cons_succ, List.getElem_cons_zero]
   refine wpEnd_ready (rs := [25]) (by kernel_rfl) (by simp) ?_
   refine AllReadyE.cons rfl (fun KW hK => ?ast42) AllReadyE.nil
   go_simp
   refine hK.out _ _ (fun h => absurd rfl h) (fun hHeld => ?ars44)
   clear hK KW
   try simp only [Act.put, List.setIfInBounds_toArray, List.set_cons_zero, List.set_cons_succ, List.getElem_toArray, List.getElem_cons_succ, List.getElem_cons_zero]
   refine wpEnd_done (by kernel_rfl) ?_ _
   go_wp2_with fail
   go_ret
   exact ⟨ret_bool (by rw [HR.out]; rfl), HB0.out.later HB1.out⟩
 cases nb
 · go_wp2_with fail
   rw [← hWB]
   clear hWB
   refine wpEnd_begin (S := fun W => W.cell? ⟨w.heap.size, 0, none⟩ = some (.int .i64 ak) ∧ W.cell? ⟨w.heap.size, 1, none⟩ = some (.string an) ∧ W.cell? ⟨w.heap.size, 2, none⟩ = some (.slice S m q) ∧ W.cell? ⟨w.heap.size, 3, none⟩ = some (.string av) ∧ W.cell? ⟨w.heap.size, 4, none⟩ = some (.int .i64 ai) ∧ W.cell? ⟨w.heap.size + 1, 0, none⟩ = some (.int .i64 bk) ∧ W.cell? ⟨w.heap.size + 1, 1, none⟩ = some (.string bn) ∧ W.cell? ⟨w.heap.size + 1, 2, none⟩ = some (.slice S' m' q') ∧ W.cell? ⟨w.heap.size + 1, 3, none⟩ = some (.string bv) ∧ W.cell? ⟨w.heap.size + 1, 4, none⟩ = some (.int .i64 bi)) 25 (by kernel_rfl) ?hSb (fun hHeld => ?rgb)
   case hSb => exact HSS.out _ (Below.refl _ _).drew
   refine wt 0 ?ba1 [] ?bb2 ?bc3
   case bb2 => intro w hSw; (try dsimp only at hSw); obtain ⟨s0, s1, s2, s3, s4, s5, s6, s7, s8, s9⟩ := hSw; go_simp; (try with_reducible rfl)
   try simp only [Act.put, List.setIfInBounds_toArray, List.set_cons_zero, List.set_cons_succ, List.getElem_toArray, List.getElem_cons_zero]
   refine wpEnd_ready (rs := [1]) (by kernel_rfl) (by simp) ?_
   refine AllReadyE.cons rfl (fun KW hK => ?bst4) AllReadyE.nil
   go_simp
   refine (HKA.out _ (by exact HB0.out.drew)).mono ?_
   rintro e wb ⟨rfl, hb1⟩
   have HB1 := Lib.hid (undrew hb1)
   obtain ⟨w1, rfl⟩ : ∃ w0, w0 = wb := ⟨wb, rfl⟩
   clear hb1
   try go_wp2_with fail
   refine hK.out _ _ (fun _ => ?bke5) (fun hHeld' => ?brs6)
   case bke5 => exact HSS.out _ HB1.out
   have hHeld := hHeld' (by decide)
   clear hHeld'
   clear hK KW
   try simp only [Act.put, List.setIfInBounds_toArray, List.set_cons_zero, List.set_cons_succ, List.getElem_toArray, List.getElem_cons_succ, List.getElem_cons_zero]
   refine wt 2 ?ba7 [] ?bb8 ?bc9
   case bb8 => intro w hSw; (try dsimp only at hSw); obtain ⟨s0, s1, s2, s3, s4, s5, s6, s7, s8, s9⟩ := hSw; go_simp; (try with_reducible rfl)
   try simp only [Act.put, List.setIfInBounds_toArray, List.set_cons_zero, List.set_cons_succ, List.getElem_toArray, List.getElem_cons_succ, List.getElem_cons_zero]
   refine wt 3 ?ba10 [] ?bb11 ?bc12
   case bb11 => intro w hSw; (try dsimp only at hSw); obtain ⟨s0, s1, s2, s3, s4, s5, s6, s7, s8, s9⟩ := hSw; go_simp; (try with_reducible rfl)
   try simp only [Act.put, List.setIfInBounds_toArray, List.set_cons_zero, List.set_cons_succ, List.getElem_toArray, List.getElem_cons_succ, List.getElem_cons_zero]
   refine wpEnd_ready (rs := [4]) (by kernel_rfl) (by simp) ?_
   refine AllReadyE.cons rfl (fun KW hK => ?bst13) AllReadyE.nil
   go_simp
   refine (HKB.out _ (HB0.out.later HB1.out)).mono ?_
   rintro e wb ⟨rfl, hb2⟩
   have HB2 := Lib.hid (HB1.out.later hb2)
   obtain ⟨w2, rfl⟩ : ∃ w0, w0 = wb := ⟨wb, rfl⟩
   clear hb2
   try go_wp2_with fail
   refine hK.out _ _ (fun _ => ?bke14) (fun hHeld' => ?brs15)
   case bke14 => exact HSS.out _ HB2.out
   have hHeld := hHeld' (by decide)
   clear hHeld'
   clear hK KW
   try simp only [Act.put, List.setIfInBounds_toArray, List.set_cons_zero, List.set_cons_succ, List.getElem_toArray, List.getElem_cons_succ, List.getElem_cons_zero]
   refine wt 5 ?ba16 [] ?bb17 ?bc18
   case bb17 => intro w hSw; (try dsimp only at hSw); obtain ⟨s0, s1, s2, s3, s4, s5, s6, s7, s8, s9⟩ := hSw; go_simp; (try with_reducible rfl)
   try simp only [Act.put, List.setIfInBounds_toArray, List.set_cons_zero, List.set_cons_succ, List.getElem_toArray, List.getElem_cons_succ, List.getElem_cons_zero]
   refine wt 6 ?ba19 [] ?bb20 ?bc21
   case bb20 => intro w hSw; (try dsimp only at hSw); obtain ⟨s0, s1, s2, s3, s4, s5, s6, s7, s8, s9⟩ := hSw; go_simp; (try with_reducible rfl)
   try simp only [Act.put, List.setIfInBounds_toArray, List.set_cons_zero, List.set_cons_succ, List.getElem_toArray, List.getElem_cons_succ, List.getElem_cons_zero]
   refine wu 7 [] ?bc22
   try simp only [Act.put, List.setIfInBounds_toArray, List.set_cons_zero, List.set_cons_succ, List.getElem_toArray, List.getElem_cons_succ, List.getElem_cons_zero]
   refine wu 8 [] ?bc23
   try simp only [Act.put, List.setIfInBounds_toArray, List.set_cons_zero, List.set_cons_succ, List.getElem_toArray, List.getElem_cons_succ, List.getElem_cons_zero]
   refine wu 9 [] ?bc24
   try simp only [Act.put, List.setIfInBounds_toArray, List.set_cons_zero, List.set_cons_succ, List.getElem_toArray, List.getElem_cons_succ, List.getElem_cons_zero]
   refine wu 10 [] ?bc25
   try simp only [Act.put, List.setIfInBounds_toArray, List.set_cons_zero, List.set_cons_succ, List.getElem_toArray, List.getElem_cons_succ, List.getElem_cons_zero]
   refine wu 11 [] ?bc26
   try simp only [Act.put, List.setIfInBounds_toArray, List.set_cons_zero, List.set_cons_succ, List.getElem_toArray, List.getElem_cons_succ, List.getElem_cons_zero]
   refine wu 12 [] ?bc27
   try simp only [Act.put, List.setIfInBounds_toArray, List.set_cons_zero, List.set_cons_succ, List.getElem_toArray, List.getElem_cons_succ, List.getElem_cons_zero]
   refine wt 13 ?ba28 [] ?bb29 ?bc30
   case bb29 => intro w hSw; (try dsimp only at hSw); obtain ⟨s0, s1, s2, s3, s4, s5, s6, s7, s8, s9⟩ := hSw; go_simp; (try with_reducible rfl)
   try simp only [Act.put, List.setIfInBounds_toArray, List.set_cons_zero, List.set_cons_succ, List.getElem_toArray, List.getElem_cons_succ, List.getElem_cons_zero]
   refine wt 14 ?ba31 [] ?bb32 ?bc33
   case bb32 => intro w hSw; (try dsimp only at hSw); obtain ⟨s0, s1, s2, s3, s4, s5, s6, s7, s8, s9⟩ := hSw; go_simp; (try with_reducible rfl)
   try simp only [Act.put, List.setIfInBounds_toArray, List.set_cons_zero, List.set_cons_succ, List.getElem_toArray, List.getElem_cons_succ, List.getElem_cons_zero]
   refine wu 15 [] ?bc34
   try simp only [Act.put, List.setIfInBounds_toArray, List.set_cons_zero, List.set_cons_succ, List.getElem_toArray, List.getElem_cons_succ, List.getElem_cons_zero]
   refine wu 16 [] ?bc35
   try simp only [Act.put, List.setIfInBounds_toArray, List.set_cons_zero, List.set_cons_succ, List.getElem_toArray, List.getElem_cons_succ, List.getElem_cons_zero]
   refine wu 17 [] ?bc36
   try simp only [Act.put, List.setIfInBounds_toArray, List.set_cons_zero, List.set_cons_succ, List.getElem_toArray, List.getElem_cons_succ, List.getElem_cons_zero]
   refine wu 18 [] ?bc37
   try simp only [Act.put, List.setIfInBounds_toArray, List.set_cons_zero, List.set_cons_succ, List.getElem_toArray, List.getElem_cons_succ, List.getElem_cons_zero]
   refine wu 19 [] ?bc38
   try simp only [Act.put, List.setIfInBounds_toArray, List.set_cons_zero, List.set_cons_succ, List.getElem_toArray, List.getElem_cons_succ, List.getElem_cons_zero]
   refine wu 20 [] ?bc39
   try simp only [Act.put, List.setIfInBounds_toArray, List.set_cons_zero, List.set_cons_succ, List.getElem_toArray, List.getElem_cons_succ, List.getElem_cons_zero]
   refine wu 21 [] ?bc40
   try simp only [Act.put, List.setIfInBounds_toArray, List.set_cons_zero, List.set_cons_succ, List.getElem_toArray, List.getElem_cons_succ, List.getElem_cons_zero]
   refine wu 22 [] ?bc41
   try simp only [Act.put, List.setIfInBounds_toArray, List.set_cons_zero, List.set_cons_succ, List.getElem_toArray, List.getElem_cons_succ, List.getElem_cons_zero]
   refine wu 23 [] ?bc42
   try simp only [Act.put, List.setIfInBounds_toArray, List.set_cons_zero, List.set_cons_succ, List.getElem_toArray, List.getElem_cons_succ, List.getElem_cons_zero]
   refine wt 24 ?ba43 [] ?bb44 ?bc45
   case bb44 => intro w hSw; (try dsimp only at hSw); obtain ⟨s0, s1, s2, s3, s4, s5, s6, s7, s8, s9⟩ := hSw; go_simp; (try with_reducible rfl)
   try simp only [Act.put, List.setIfInBounds_toArray, List.set_cons_zero, List.set_cons_succ, List.getElem_toArray, List.getElem_cons_succ, List.getElem_cons_zero]
   refine wpEnd_ready (rs := [25]) (by kernel_rfl) (by simp) ?_
   refine AllReadyE.cons rfl (fun KW hK => ?bst46) AllReadyE.nil
   go_simp
   refine hK.out _ _ (fun h => absurd rfl h) (fun hHeld => ?brs48)
   clear hK KW
   try simp only [Act.put, List.setIfInBounds_toArray, List.set_cons_zero, List.set_cons_succ, List.getElem_toArray, List.getElem_cons_succ, List.getElem_cons_zero]
   refine wpEnd_done (by kernel_rfl) ?_ _
   go_wp2_with fail
   go_ret
   exact ⟨ret_bool (by rw [HR.out]; rfl), HB0.out.later HB2.out⟩
 have HK3' := Lib.hid (HK3.out (by first | rfl | trivial))
 have HK4' := Lib.hid (HK4.out (by first | rfl | trivial))
 clear HK3 HK4
 cases x
 · cases y
   · go_wp2_with fail
     rw [← hWB]
     clear hWB
     refine wpEnd_begin (S := fun W => W.cell? ⟨w.heap.size, 0, none⟩ = some (.int .i64 ak) ∧ W.cell? ⟨w.heap.size, 1, none⟩ = some (.string an) ∧ W.cell? ⟨w.heap.size, 2, none⟩ = some (.slice S m q) ∧ W.cell? ⟨w.heap.size, 3, none⟩ = some (.string av) ∧ W.cell? ⟨w.heap.size, 4, none⟩ = some (.int .i64 ai) ∧ W.cell? ⟨w.heap.size + 1, 0, none⟩ = some (.int .i64 bk) ∧ W.cell? ⟨w.heap.size + 1, 1, none⟩ = some (.string bn) ∧ W.cell? ⟨w.heap.size + 1, 2, none⟩ = some (.slice S' m' q') ∧ W.cell? ⟨w.heap.size + 1, 3, none⟩ = some (.string bv) ∧ W.cell? ⟨w.heap.size + 1, 4, none⟩ = some (.int .i64 bi)) 25 (by kernel_rfl) ?hSc (fun hHeld => ?rgc)
     case hSc => exact HSS.out _ (Below.refl _ _).drew
     refine wt 0 ?ca1 [] ?cb2 ?cc3
     case cb2 => intro w hSw; (try dsimp only at hSw); obtain ⟨s0, s1, s2, s3, s4, s5, s6, s7, s8, s9⟩ := hSw; go_simp; (try with_reducible rfl)
     try simp only [Act.put, List.setIfInBounds_toArray, List.set_cons_zero, List.set_cons_succ, List.getElem_toArray, List.getElem_cons_zero]
     refine wpEnd_ready (rs := [1]) (by kernel_rfl) (by simp) ?_
     refine AllReadyE.cons rfl (fun KW hK => ?cst4) AllReadyE.nil
     go_simp
     refine (HKA.out _ (by exact HB0.out.drew)).mono ?_
     rintro e wb ⟨rfl, hb1⟩
     have HB1 := Lib.hid (undrew hb1)
     obtain ⟨w1, rfl⟩ : ∃ w0, w0 = wb := ⟨wb, rfl⟩
     clear hb1
     try go_wp2_with fail
     refine hK.out _ _ (fun _ => ?cke5) (fun hHeld' => ?crs6)
     case cke5 => exact HSS.out _ HB1.out
     have hHeld := hHeld' (by decide)
     clear hHeld'
     clear hK KW
     try simp only [Act.put, List.setIfInBounds_toArray, List.set_cons_zero, List.set_cons_succ, List.getElem_toArray, List.getElem_cons_succ, List.getElem_cons_zero]
     refine wt 2 ?ca7 [] ?cb8 ?cc9
     case cb8 => intro w hSw; (try dsimp only at hSw); obtain ⟨s0, s1, s2, s3, s4, s5, s6, s7, s8, s9⟩ := hSw; go_simp; (try with_reducible rfl)
     try simp only [Act.put, List.setIfInBounds_toArray, List.set_cons_zero, List.set_cons_succ, List.getElem_toArray, List.getElem_cons_succ, List.getElem_cons_zero]
     refine wt 3 ?ca10 [] ?cb11 ?cc12
     case cb11 => intro w hSw; (try dsimp only at hSw); obtain ⟨s0, s1, s2, s3, s4, s5, s6, s7, s8, s9⟩ := hSw; go_simp; (try with_reducible rfl)
     try simp only [Act.put, List.setIfInBounds_toArray, List.set_cons_zero, List.set_cons_succ, List.getElem_toArray, List.getElem_cons_succ, List.getElem_cons_zero]
     refine wpEnd_ready (rs := [4]) (by kernel_rfl) (by simp) ?_
     refine AllReadyE.cons rfl (fun KW hK => ?cst13) AllReadyE.nil
     go_simp
     refine (HKB.out _ (HB0.out.later HB1.out)).mono ?_
     rintro e wb ⟨rfl, hb2⟩
     have HB2 := Lib.hid (HB1.out.later hb2)
     obtain ⟨w2, rfl⟩ : ∃ w0, w0 = wb := ⟨wb, rfl⟩
     clear hb2
     try go_wp2_with fail
     refine hK.out _ _ (fun _ => ?cke14) (fun hHeld' => ?crs15)
     case cke14 => exact HSS.out _ HB2.out
     have hHeld := hHeld' (by decide)
     clear hHeld'
     clear hK KW
     try simp only [Act.put, List.setIfInBounds_toArray, List.set_cons_zero, List.set_cons_succ, List.getElem_toArray, List.getElem_cons_succ, List.getElem_cons_zero]
     refine wt 5 ?ca16 [] ?cb17 ?cc18
     case cb17 => intro w hSw; (try dsimp only at hSw); obtain ⟨s0, s1, s2, s3, s4, s5, s6, s7, s8, s9⟩ := hSw; go_simp; (try with_reducible rfl)
     try simp only [Act.put, List.setIfInBounds_toArray, List.set_cons_zero, List.set_cons_succ, List.getElem_toArray, List.getElem_cons_succ, List.getElem_cons_zero]
     refine wt 6 ?ca19 [] ?cb20 ?cc21
     case cb20 => intro w hSw; (try dsimp only at hSw); obtain ⟨s0, s1, s2, s3, s4, s5, s6, s7, s8, s9⟩ := hSw; go_simp; (try with_reducible rfl)
     try simp only [Act.put, List.setIfInBounds_toArray, List.set_cons_zero, List.set_cons_succ, List.getElem_toArray, List.getElem_cons_succ, List.getElem_cons_zero]
     refine wt 7 ?ca22 [] ?cb23 ?cc24
     case cb23 => intro w hSw; (try dsimp only at hSw); obtain ⟨s0, s1, s2, s3, s4, s5, s6, s7, s8, s9⟩ := hSw; go_simp; (try with_reducible rfl)
     try simp only [Act.put, List.setIfInBounds_toArray, List.set_cons_zero, List.set_cons_succ, List.getElem_toArray, List.getElem_cons_succ, List.getElem_cons_zero]
     refine wpEnd_ready (rs := [8]) (by kernel_rfl) (by simp) ?_
     refine AllReadyE.cons rfl (fun KW hK => ?cst25) AllReadyE.nil
     go_simp
     refine (HK1.out _ (HB0.out.later HB2.out)).mono ?_
     rintro e wb ⟨rfl, hb3⟩
     have HB3 := Lib.hid (HB2.out.later hb3)
     obtain ⟨w3, rfl⟩ : ∃ w0, w0 = wb := ⟨wb, rfl⟩
     clear hb3
     try go_wp2_with fail
     refine hK.out _ _ (fun _ => ?cke26) (fun hHeld' => ?crs27)
     case cke26 => exact HSS.out _ HB3.out
     have hHeld := hHeld' (by decide)
     clear hHeld'
     clear hK KW
     try simp only [Act.put, List.setIfInBounds_toArray, List.set_cons_zero, List.set_cons_succ, List.getElem_toArray, List.getElem_cons_succ, List.getElem_cons_zero]
     refine wt 9 ?ca28 [] ?cb29 ?cc30
     case cb29 => intro w hSw; (try dsimp only at hSw); obtain ⟨s0, s1, s2, s3, s4, s5, s6, s7, s8, s9⟩ := hSw; go_simp; (try with_reducible rfl)
     try simp only [Act.put, List.setIfInBounds_toArray, List.set_cons_zero, List.set_cons_succ, List.getElem_toArray, List.getElem_cons_succ, List.getElem_cons_zero]
     refine wt 10 ?ca31 [] ?cb32 ?cc33
     case cb32 => intro w hSw; (try dsimp only at hSw); obtain ⟨s0, s1, s2, s3, s4, s5, s6, s7, s8, s9⟩ := hSw; go_simp; (try with_reducible rfl)
     try simp only [Act.put, List.setIfInBounds_toArray, List.set_cons_zero, List.set_cons_succ, List.getElem_toArray, List.getElem_cons_succ, List.getElem_cons_zero]
     refine wpEnd_ready (rs := [11]) (by kernel_rfl) (by simp) ?_
     refine AllReadyE.cons rfl (fun KW hK => ?cst34) AllReadyE.nil
     go_simp
     refine (HK2.out _ (HB0.out.later HB3.out)).mono ?_
     rintro e wb ⟨rfl, hb4⟩
     have HB4 := Lib.hid (HB3.out.later hb4)
     obtain ⟨w4, rfl⟩ : ∃ w0, w0 = wb := ⟨wb, rfl⟩
     clear hb4
     try go_wp2_with fail
     refine hK.out _ _ (fun _ => ?cke35) (fun hHeld' => ?crs36)
     case cke35 => exact HSS.out _ HB4.out
     have hHeld := hHeld' (by decide)
     clear hHeld'
     clear hK KW
     try simp only [Act.put, List.setIfInBounds_toArray, List.set_cons_zero, List.set_cons_succ, List.getElem_toArray, List.getElem_cons_succ, List.getElem_cons_zero]
     refine wt 12 ?ca37 [] ?cb38 ?cc39
     case cb38 => intro w hSw; (try dsimp only at hSw); obtain ⟨s0, s1, s2, s3, s4, s5, s6, s7, s8, s9⟩ := hSw; go_simp; (try with_reducible rfl)
     try simp only [Act.put, List.setIfInBounds_toArray, List.set_cons_zero, List.set_cons_succ, List.getElem_toArray, List.getElem_cons_succ, List.getElem_cons_zero]
     refine wt 13 ?ca40 [] ?cb41 ?cc42
     case cb41 => intro w hSw; (try dsimp only at hSw); obtain ⟨s0, s1, s2, s3, s4, s5, s6, s7, s8, s9⟩ := hSw; go_simp; (try with_reducible rfl)
     try simp only [Act.put, List.setIfInBounds_toArray, List.set_cons_zero, List.set_cons_succ, List.getElem_toArray, List.getElem_cons_succ, List.getElem_cons_zero]
     refine wt 14 ?ca43 [] ?cb44 ?cc45
     case cb44 => intro w hSw; (try dsimp only at hSw); obtain ⟨s0, s1, s2, s3, s4, s5, s6, s7, s8, s9⟩ := hSw; go_simp; (try with_reducible rfl)
     try simp only [Act.put, List.setIfInBounds_toArray, List.set_cons_zero, List.set_cons_succ, List.getElem_toArray, List.getElem_cons_succ, List.getElem_cons_zero]
     refine wu 15 [] ?cc46
     try simp only [Act.put, List.setIfInBounds_toArray, List.set_cons_zero, List.set_cons_succ, List.getElem_toArray, List.getElem_cons_succ, List.getElem_cons_zero]
     refine wu 16 [] ?cc47
     try simp only [Act.put, List.setIfInBounds_toArray, List.set_cons_zero, List.set_cons_succ, List.getElem_toArray, List.getElem_cons_succ, List.getElem_cons_zero]
     refine wu 17 [] ?cc48
     try simp only [Act.put, List.setIfInBounds_toArray, List.set_cons_zero, List.set_cons_succ, List.getElem_toArray, List.getElem_cons_succ, List.getElem_cons_zero]
     refine wu 18 [] ?cc49
     try simp only [Act.put, List.setIfInBounds_toArray, List.set_cons_zero, List.set_cons_succ, List.getElem_toArray, List.getElem_cons_succ, List.getElem_cons_zero]
     refine wu 19 [] ?cc50
     try simp only [Act.put, List.setIfInBounds_toArray, List.set_cons_zero, List.set_cons_succ, List.getElem_toArray, List.getElem_cons_succ, List.getElem_cons_zero]
     refine wu 20 [] ?cc51
     try simp only [Act.put, List.setIfInBounds_toArray, List.set_cons_zero, List.set_cons_succ, List.getElem_toArray, List.getElem_cons_succ, List.getElem_cons_zero]
     refine wu 21 [] ?cc52
     try simp only [Act.put, List.setIfInBounds_toArray, List.set_cons_zero, List.set_cons_succ, List.getElem_toArray, List.getElem_cons_succ, List.getElem_cons_zero]
     refine wu 22 [] ?cc53
     try simp only [Act.put, List.setIfInBounds_toArray, List.set_cons_zero, List.set_cons_succ, List.getElem_toArray, List.getElem_cons_succ, List.getElem_cons_zero]
     refine wu 23 [] ?cc54
     try simp only [Act.put, List.setIfInBounds_toArray, List.set_cons_zero, List.set_cons_succ, List.getElem_toArray, List.getElem_cons_succ, List.getElem_cons_zero]
     refine wt 24 ?ca55 [] ?cb56 ?cc57
     case cb56 => intro w hSw; (try dsimp only at hSw); obtain ⟨s0, s1, s2, s3, s4, s5, s6, s7, s8, s9⟩ := hSw; go_simp; (try with_reducible rfl)
     try simp only [Act.put, List.setIfInBounds_toArray, List.set_cons_zero, List.set_cons_succ, List.getElem_toArray, List.getElem_cons_succ, List.getElem_cons_zero]
     refine wpEnd_ready (rs := [25]) (by kernel_rfl) (by simp) ?_
     refine AllReadyE.cons rfl (fun KW hK => ?cst58) AllReadyE.nil
     go_simp
     refine hK.out _ _ (fun h => absurd rfl h) (fun hHeld => ?crs60)
     clear hK KW
     try simp only [Act.put, List.setIfInBounds_toArray, List.set_cons_zero, List.set_cons_succ, List.getElem_toArray, List.getElem_cons_succ, List.getElem_cons_zero]
     refine wpEnd_done (by kernel_rfl) ?_ _
     go_wp2_with fail
     go_ret
     exact ⟨ret_bool (by rw [HR.out]; rfl), HB0.out.later HB4.out⟩
   · go_wp2_with fail
     rw [← hWB]
     clear hWB
     refine wpEnd_begin (S := fun W => W.cell? ⟨w.heap.size, 0, none⟩ = some (.int .i64 ak) ∧ W.cell? ⟨w.heap.size, 1, none⟩ = some (.string an) ∧ W.cell? ⟨w.heap.size, 2, none⟩ = some (.slice S m q) ∧ W.cell? ⟨w.heap.size, 3, none⟩ = some (.string av) ∧ W.cell? ⟨w.heap.size, 4, none⟩ = some (.int .i64 ai) ∧ W.cell? ⟨w.heap.size + 1, 0, none⟩ = some (.int .i64 bk) ∧ W.cell? ⟨w.heap.size + 1, 1, none⟩ = some (.string bn) ∧ W.cell? ⟨w.heap.size + 1, 2, none⟩ = some (.slice S' m' q') ∧ W.cell? ⟨w.heap.size + 1, 3, none⟩ = some (.string bv) ∧ W.cell? ⟨w.heap.size + 1, 4, none⟩ = some (.int .i64 bi)) 25 (by kernel_rfl) ?hSd (fun hHeld => ?rgd)
     case hSd => exact HSS.out _ (Below.refl _ _).drew
     refine wt 0 ?da1 [] ?db2 ?dc3
     case db2 => intro w hSw; (try dsimp only at hSw); obtain ⟨s0, s1, s2, s3, s4, s5, s6, s7, s8, s9⟩ := hSw; go_simp; (try with_reducible rfl)
     try simp only [Act.put, List.setIfInBounds_toArray, List.set_cons_zero, List.set_cons_succ, List.getElem_toArray, List.getElem_cons_zero]
     refine wpEnd_ready (rs := [1]) (by kernel_rfl) (by simp) ?_
     refine AllReadyE.cons rfl (fun KW hK => ?dst4) AllReadyE.nil
     go_simp
     refine (HKA.out _ (by exact HB0.out.drew)).mono ?_
     rintro e wb ⟨rfl, hb1⟩
     have HB1 := Lib.hid (undrew hb1)
     obtain ⟨w1, rfl⟩ : ∃ w0, w0 = wb := ⟨wb, rfl⟩
     clear hb1
     try go_wp2_with fail
     refine hK.out _ _ (fun _ => ?dke5) (fun hHeld' => ?drs6)
     case dke5 => exact HSS.out _ HB1.out
     have hHeld := hHeld' (by decide)
     clear hHeld'
     clear hK KW
     try simp only [Act.put, List.setIfInBounds_toArray, List.set_cons_zero, List.set_cons_succ, List.getElem_toArray, List.getElem_cons_succ, List.getElem_cons_zero]
     refine wt 2 ?da7 [] ?db8 ?dc9
     case db8 => intro w hSw; (try dsimp only at hSw); obtain ⟨s0, s1, s2, s3, s4, s5, s6, s7, s8, s9⟩ := hSw; go_simp; (try with_reducible rfl)
     try simp only [Act.put, List.setIfInBounds_toArray, List.set_cons_zero, List.set_cons_succ, List.getElem_toArray, List.getElem_cons_succ, List.getElem_cons_zero]
     refine wt 3 ?da10 [] ?db11 ?dc12
     case db11 => intro w hSw; (try dsimp only at hSw); obtain ⟨s0, s1, s2, s3, s4, s5, s6, s7, s8, s9⟩ := hSw; go_simp; (try with_reducible rfl)
     try simp only [Act.put, List.setIfInBounds_toArray, List.set_cons_zero, List.set_cons_succ, List.getElem_toArray, List.getElem_cons_succ, List.getElem_cons_zero]
     refine wpEnd_ready (rs := [4]) (by kernel_rfl) (by simp) ?_
     refine AllReadyE.cons rfl (fun KW hK => ?dst13) AllReadyE.nil
     go_simp
     refine (HKB.out _ (HB0.out.later HB1.out)).mono ?_
     rintro e wb ⟨rfl, hb2⟩
     have HB2 := Lib.hid (HB1.out.later hb2)
     obtain ⟨w2, rfl⟩ : ∃ w0, w0 = wb := ⟨wb, rfl⟩
     clear hb2
     try go_wp2_with fail
     refine hK.out _ _ (fun _ => ?dke14) (fun hHeld' => ?drs15)
     case dke14 => exact HSS.out _ HB2.out
     have hHeld := hHeld' (by decide)
     clear hHeld'
     clear hK KW
     try simp only [Act.put, List.setIfInBounds_toArray, List.set_cons_zero, List.set_cons_succ, List.getElem_toArray, List.getElem_cons_succ, List.getElem_cons_zero]
     refine wt 5 ?da16 [] ?db17 ?dc18
     case db17 => intro w hSw; (try dsimp only at hSw); obtain ⟨s0, s1, s2, s3, s4, s5, s6, s7, s8, s9⟩ := hSw; go_simp; (try with_reducible rfl)
     try simp only [Act.put, List.setIfInBounds_toArray, List.set_cons_zero, List.set_cons_succ, List.getElem_toArray, List.getElem_cons_succ, List.getElem_cons_zero]
     refine wt 6 ?da19 [] ?db20 ?dc21
     case db20 => intro w hSw; (try dsimp only at hSw); obtain ⟨s0, s1, s2, s3, s4, s5, s6, s7, s8, s9⟩ := hSw; go_simp; (try with_reducible rfl)
     try simp only [Act.put, List.setIfInBounds_toArray, List.set_cons_zero, List.set_cons_succ, List.getElem_toArray, List.getElem_cons_succ, List.getElem_cons_zero]
     refine wt 7 ?da22 [] ?db23 ?dc24
     case db23 => intro w hSw; (try dsimp only at hSw); obtain ⟨s0, s1, s2, s3, s4, s5, s6, s7, s8, s9⟩ := hSw; go_simp; (try with_reducible rfl)
     try simp only [Act.put, List.setIfInBounds_toArray, List.set_cons_zero, List.set_cons_succ, List.getElem_toArray, List.getElem_cons_succ, List.getElem_cons_zero]
     refine wpEnd_ready (rs := [8]) (by kernel_rfl) (by simp) ?_
     refine AllReadyE.cons rfl (fun KW hK => ?dst25) AllReadyE.nil
     go_simp
     refine (HK1.out _ (HB0.out.later HB2.out)).mono ?_
     rintro e wb ⟨rfl, hb3⟩
     have HB3 := Lib.hid (HB2.out.later hb3)
     obtain ⟨w3, rfl⟩ : ∃ w0, w0 = wb := ⟨wb, rfl⟩
     clear hb3
     try go_wp2_with fail
     refine hK.out _ _ (fun _ => ?dke26) (fun hHeld' => ?drs27)
     case dke26 => exact HSS.out _ HB3.out
     have hHeld := hHeld' (by decide)
     clear hHeld'
     clear hK KW
     try simp only [Act.put, List.setIfInBounds_toArray, List.set_cons_zero, List.set_cons_succ, List.getElem_toArray, List.getElem_cons_succ, List.getElem_cons_zero]
     refine wt 9 ?da28 [] ?db29 ?dc30
     case db29 => intro w hSw; (try dsimp only at hSw); obtain ⟨s0, s1, s2, s3, s4, s5, s6, s7, s8, s9⟩ := hSw; go_simp; (try with_reducible rfl)
     try simp only [Act.put, List.setIfInBounds_toArray, List.set_cons_zero, List.set_cons_succ, List.getElem_toArray, List.getElem_cons_succ, List.getElem_cons_zero]
     refine wt 10 ?da31 [] ?db32 ?dc33
     case db32 => intro w hSw; (try dsimp only at hSw); obtain ⟨s0, s1, s2, s3, s4, s5, s6, s7, s8, s9⟩ := hSw; go_simp; (try with_reducible rfl)
     try simp only [Act.put, List.setIfInBounds_toArray, List.set_cons_zero, List.set_cons_succ, List.getElem_toArray, List.getElem_cons_succ, List.getElem_cons_zero]
     refine wpEnd_ready (rs := [11]) (by kernel_rfl) (by simp) ?_
     refine AllReadyE.cons rfl (fun KW hK => ?dst34) AllReadyE.nil
     go_simp
     refine (HK2.out _ (HB0.out.later HB3.out)).mono ?_
     rintro e wb ⟨rfl, hb4⟩
     have HB4 := Lib.hid (HB3.out.later hb4)
     obtain ⟨w4, rfl⟩ : ∃ w0, w0 = wb := ⟨wb, rfl⟩
     clear hb4
     try go_wp2_with fail
     refine hK.out _ _ (fun _ => ?dke35) (fun hHeld' => ?drs36)
     case dke35 => exact HSS.out _ HB4.out
     have hHeld := hHeld' (by decide)
     clear hHeld'
     clear hK KW
     try simp only [Act.put, List.setIfInBounds_toArray, List.set_cons_zero, List.set_cons_succ, List.getElem_toArray, List.getElem_cons_succ, List.getElem_cons_zero]
     refine wt 12 ?da37 [] ?db38 ?dc39
     case db38 => intro w hSw; (try dsimp only at hSw); obtain ⟨s0, s1, s2, s3, s4, s5, s6, s7, s8, s9⟩ := hSw; go_simp; (try with_reducible rfl)
     try simp only [Act.put, List.setIfInBounds_toArray, List.set_cons_zero, List.set_cons_succ, List.getElem_toArray, List.getElem_cons_succ, List.getElem_cons_zero]
     refine wt 13 ?da40 [] ?db41 ?dc42
     case db41 => intro w hSw; (try dsimp only at hSw); obtain ⟨s0, s1, s2, s3, s4, s5, s6, s7, s8, s9⟩ := hSw; go_simp; (try with_reducible rfl)
     try simp only [Act.put, List.setIfInBounds_toArray, List.set_cons_zero, List.set_cons_succ, List.getElem_toArray, List.getElem_cons_succ, List.getElem_cons_zero]
     refine wt 14 ?da43 [] ?db44 ?dc45
     case db44 => intro w hSw; (try dsimp only at hSw); obtain ⟨s0, s1, s2, s3, s4, s5, s6, s7, s8, s9⟩ := hSw; go_simp; (try with_reducible rfl)
     try simp only [Act.put, List.setIfInBounds_toArray, List.set_cons_zero, List.set_cons_succ, List.getElem_toArray, List.getElem_cons_succ, List.getElem_cons_zero]
     refine wt 15 ?da46 [] ?db47 ?dc48
     case db47 => intro w hSw; (try dsimp only at hSw); obtain ⟨s0, s1, s2, s3, s4, s5, s6, s7, s8, s9⟩ := hSw; go_simp; (try with_reducible rfl)
     try simp only [Act.put, List.setIfInBounds_toArray, List.set_cons_zero, List.set_cons_succ, List.getElem_toArray, List.getElem_cons_succ, List.getElem_cons_zero]
     refine wt 16 ?da49 [] ?db50 ?dc51
     case db50 => intro w hSw; (try dsimp only at hSw); obtain ⟨s0, s1, s2, s3, s4, s5, s6, s7, s8, s9⟩ := hSw; go_simp; (try with_reducible rfl)
     try simp only [Act.put, List.setIfInBounds_toArray, List.set_cons_zero, List.set_cons_succ, List.getElem_toArray, List.getElem_cons_succ, List.getElem_cons_zero]
     refine wt 17 ?da52 [] ?db53 ?dc54
     case db53 => intro w hSw; (try dsimp only at hSw); obtain ⟨s0, s1, s2, s3, s4, s5, s6, s7, s8, s9⟩ := hSw; go_simp; (try with_reducible rfl)
     try simp only [Act.put, List.setIfInBounds_toArray, List.set_cons_zero, List.set_cons_succ, List.getElem_toArray, List.getElem_cons_succ, List.getElem_cons_zero]
     refine wt 19 ?da55 [] ?db56 ?dc57
     case db56 => intro w hSw; (try dsimp only at hSw); obtain ⟨s0, s1, s2, s3, s4, s5, s6, s7, s8, s9⟩ := hSw; go_simp; (try with_reducible rfl)
     try simp only [Act.put, List.setIfInBounds_toArray, List.set_cons_zero, List.set_cons_succ, List.getElem_toArray, List.getElem_cons_succ, List.getElem_cons_zero]
     refine wt 20 ?da58 [] ?db59 ?dc60
     case db59 => intro w hSw; (try dsimp only at hSw); obtain ⟨s0, s1, s2, s3, s4, s5, s6, s7, s8, s9⟩ := hSw; go_simp; (try with_reducible rfl)
     try simp only [Act.put, List.setIfInBounds_toArray, List.set_cons_zero, List.set_cons_succ, List.getElem_toArray, List.getElem_cons_succ, List.getElem_cons_zero]
     refine wt 21 ?da61 [] ?db62 ?dc63
     case db62 => intro w hSw; (try dsimp only at hSw); obtain ⟨s0, s1, s2, s3, s4, s5, s6, s7, s8, s9⟩ := hSw; go_simp; (try with_reducible rfl)
     try simp only [Act.put, List.setIfInBounds_toArray, List.set_cons_zero, List.set_cons_succ, List.getElem_toArray, List.getElem_cons_succ, List.getElem_cons_zero]
     refine wpEnd_ready (rs := [18]) (by kernel_rfl) (by simp) ?_
     refine AllReadyE.cons rfl (fun KW hK => ?dst64) AllReadyE.nil
     go_simp
     refine (HK3'.out _ (HB0.out.later HB4.out)).mono ?_
     rintro e wb ⟨A1, m1, c1, rfl, hmc1, hm1, hs1, hb5⟩
     have HB5 := Lib.hid (HB4.out.later hb5)
     obtain ⟨w5, rfl⟩ : ∃ w0, w0 = wb := ⟨wb, rfl⟩
     have HS1 := Lib.hid hs1
     clear hb5 hs1
     try go_wp2_with fail
     refine hK.out _ _ (fun _ => ?dke65) (fun hHeld' => ?drs66)
     case dke65 => exact HSS.out _ HB5.out
     have hHeld := hHeld' (by decide)
     clear hHeld'
     clear hK KW
     try simp only [Act.put, List.setIfInBounds_toArray, List.set_cons_zero, List.set_cons_succ, List.getElem_toArray, List.getElem_cons_succ, List.getElem_cons_zero]
     refine wpEnd_ready (rs := [22]) (by kernel_rfl) (by simp) ?_
     refine AllReadyE.cons rfl (fun KW hK => ?dst67) AllReadyE.nil
     go_simp
     refine (HK4'.out _ (HB0.out.later HB5.out)).mono ?_
     rintro e wb ⟨A2, m2, c2, rfl, hmc2, hm2, hs2, hb6⟩
     have HB6 := Lib.hid (HB5.out.later hb6)
     obtain ⟨w6, rfl⟩ : ∃ w0, w0 = wb := ⟨wb, rfl⟩
     have HS2 := Lib.hid hs2
     have HS1 := Lib.hid (HS1.out.later hb6)
     clear hb6 hs2
     try go_wp2_with fail
     refine hK.out _ _ (fun _ => ?dke68) (fun hHeld' => ?drs69)
     case dke68 => exact HSS.out _ HB6.out
     have hHeld := hHeld' (by decide)
     clear hHeld'
     clear hK KW
     try simp only [Act.put, List.setIfInBounds_toArray, List.set_cons_zero, List.set_cons_succ, List.getElem_toArray, List.getElem_cons_succ, List.getElem_cons_zero]
     refine wpEnd_ready (rs := [23]) (by kernel_rfl) (by simp) ?_
     refine AllReadyE.cons rfl (fun KW hK => ?dst70) AllReadyE.nil
     go_simp
     refine (conflict_any an bn A1 A2 m1 c1 m2 c2 sa sb _ HS1.out HS2.out hm1 hm2 hmc1 hmc2).mono ?_
     rintro e wb ⟨rfl, qq, rfl⟩
     have HBE := Lib.hid (below_drewN HB6.out qq)
     try go_wp2_with fail
     refine hK.out _ _ (fun _ => ?dke71) (fun hHeld' => ?drs72)
     case dke71 => exact HSS.out _ HBE.out
     have hHeld := hHeld' (by decide)
     clear hHeld'
     clear hK KW
     try simp only [Act.put, List.setIfInBounds_toArray, List.set_cons_zero, List.set_cons_succ, List.getElem_toArray, List.getElem_cons_succ, List.getElem_cons_zero]
     refine wt 24 ?da73 [] ?db74 ?dc75
     case db74 => intro w hSw; (try dsimp only at hSw); obtain ⟨s0, s1, s2, s3, s4, s5, s6, s7, s8, s9⟩ := hSw; go_simp; (try with_reducible rfl)
     try simp only [Act.put, List.setIfInBounds_toArray, List.set_cons_zero, List.set_cons_succ, List.getElem_toArray, List.getElem_cons_succ, List.getElem_cons_zero]
     refine wpEnd_ready (rs := [25]) (by kernel_rfl) (by simp) ?_
     refine AllReadyE.cons rfl (fun KW hK => ?dst76) AllReadyE.nil
     go_simp
     refine hK.out _ _ (fun h => absurd rfl h) (fun hHeld => ?drs78)
     clear hK KW
     try simp only [Act.put, List.setIfInBounds_toArray, List.set_cons_zero, List.set_cons_succ, List.getElem_toArray, List.getElem_cons_succ, List.getElem_cons_zero]
     refine wpEnd_done (by kernel_rfl) ?_ _
     go_wp2_with fail
     go_ret
     exact ⟨ret_bool (by rw [HR.out]; rfl), HB0.out.later HBE.out⟩
 · go_wp2_with fail
   rw [← hWB]
   clear hWB
   refine wpEnd_begin (S := fun W => W.cell? ⟨w.heap.size, 0, none⟩ = some (.int .i64 ak) ∧ W.cell? ⟨w.heap.size, 1, none⟩ = some (.string an) ∧ W.cell? ⟨w.heap.size, 2, none⟩ = some (.slice S m q) ∧ W.cell? ⟨w.heap.size, 3, none⟩ = some (.string av) ∧ W.cell? ⟨w.heap.size, 4, none⟩ = some (.int .i64 ai) ∧ W.cell? ⟨w.heap.size + 1, 0, none⟩ = some (.int .i64 bk) ∧ W.cell? ⟨w.heap.size + 1, 1, none⟩ = some (.string bn) ∧ W.cell? ⟨w.heap.size + 1, 2, none⟩ = some (.slice S' m' q') ∧ W.cell? ⟨w.heap.size + 1, 3, none⟩ = some (.string bv) ∧ W.cell? ⟨w.heap.size + 1, 4, none⟩ = some (.int .i64 bi)) 25 (by kernel_rfl) ?hSe (fun hHeld => ?rge)
   case hSe => exact HSS.out _ (Below.refl _ _).drew
   refine wt 0 ?ea1 [] ?eb2 ?ec3
   case eb2 => intro w hSw; (try dsimp only at hSw); obtain ⟨s0, s1, s2, s3, s4, s5, s6, s7, s8, s9⟩ := hSw; go_simp; (try with_reducible rfl)
   try simp only [Act.put, List.setIfInBounds_toArray, List.set_cons_zero, List.set_cons_succ, List.getElem_toArray, List.getElem_cons_zero]
   refine wpEnd_ready (rs := [1]) (by kernel_rfl) (by simp) ?_
   refine AllReadyE.cons rfl (fun KW hK => ?est4) AllReadyE.nil
   go_simp
   refine (HKA.out _ (by exact HB0.out.drew)).mono ?_
   rintro e wb ⟨rfl, hb1⟩
   have HB1 := Lib.hid (undrew hb1)
   obtain ⟨w1, rfl⟩ : ∃ w0, w0 = wb := ⟨wb, rfl⟩
   clear hb1
   try go_wp2_with fail
   refine hK.out _ _ (fun _ => ?eke5) (fun hHeld' => ?ers6)
   case eke5 => exact HSS.out _ HB1.out
   have hHeld := hHeld' (by decide)
   clear hHeld'
   clear hK KW
   try simp only [Act.put, List.setIfInBounds_toArray, List.set_cons_zero, List.set_cons_succ, List.getElem_toArray, List.getElem_cons_succ, List.getElem_cons_zero]
   refine wt 2 ?ea7 [] ?eb8 ?ec9
   case eb8 => intro w hSw; (try dsimp only at hSw); obtain ⟨s0, s1, s2, s3, s4, s5, s6, s7, s8, s9⟩ := hSw; go_simp; (try with_reducible rfl)
   try simp only [Act.put, List.setIfInBounds_toArray, List.set_cons_zero, List.set_cons_succ, List.getElem_toArray, List.getElem_cons_succ, List.getElem_cons_zero]
   refine wt 3 ?ea10 [] ?eb11 ?ec12
   case eb11 => intro w hSw; (try dsimp only at hSw); obtain ⟨s0, s1, s2, s3, s4, s5, s6, s7, s8, s9⟩ := hSw; go_simp; (try with_reducible rfl)
   try simp only [Act.put, List.setIfInBounds_toArray, List.set_cons_zero, List.set_cons_succ, List.getElem_toArray, List.getElem_cons_succ, List.getElem_cons_zero]
   refine wpEnd_ready (rs := [4]) (by kernel_rfl) (by simp) ?_
   refine AllReadyE.cons rfl (fun KW hK => ?est13) AllReadyE.nil
   go_simp
   refine (HKB.out _ (HB0.out.later HB1.out)).mono ?_
   rintro e wb ⟨rfl, hb2⟩
   have HB2 := Lib.hid (HB1.out.later hb2)
   obtain ⟨w2, rfl⟩ : ∃ w0, w0 = wb := ⟨wb, rfl⟩
   clear hb2
   try go_wp2_with fail
   refine hK.out _ _ (fun _ => ?eke14) (fun hHeld' => ?ers15)
   case eke14 => exact HSS.out _ HB2.out
   have hHeld := hHeld' (by decide)
   clear hHeld'
   clear hK KW
   try simp only [Act.put, List.setIfInBounds_toArray, List.set_cons_zero, List.set_cons_succ, List.getElem_toArray, List.getElem_cons_succ, List.getElem_cons_zero]
   refine wt 5 ?ea16 [] ?eb17 ?ec18
   case eb17 => intro w hSw; (try dsimp only at hSw); obtain ⟨s0, s1, s2, s3, s4, s5, s6, s7, s8, s9⟩ := hSw; go_simp; (try with_reducible rfl)
   try simp only [Act.put, List.setIfInBounds_toArray, List.set_cons_zero, List.set_cons_succ, List.getElem_toArray, List.getElem_cons_succ, List.getElem_cons_zero]
   refine wt 6 ?ea19 [] ?eb20 ?ec21
   case eb20 => intro w hSw; (try dsimp only at hSw); obtain ⟨s0, s1, s2, s3, s4, s5, s6, s7, s8, s9⟩ := hSw; go_simp; (try with_reducible rfl)
   try simp only [Act.put, List.setIfInBounds_toArray, List.set_cons_zero, List.set_cons_succ, List.getElem_toArray, List.getElem_cons_succ, List.getElem_cons_zero]
   refine wt 7 ?ea22 [] ?eb23 ?ec24
   case eb23 => intro w hSw; (try dsimp only at hSw); obtain ⟨s0, s1, s2, s3, s4, s5, s6, s7, s8, s9⟩ := hSw; go_simp; (try with_reducible rfl)
   try simp only [Act.put, List.setIfInBounds_toArray, List.set_cons_zero, List.set_cons_succ, List.getElem_toArray, List.getElem_cons_succ, List.getElem_cons_zero]
   refine wpEnd_ready (rs := [8]) (by kernel_rfl) (by simp) ?_
   refine AllReadyE.cons rfl (fun KW hK => ?est25) AllReadyE.nil
   go_simp
   refine (HK1.out _ (HB0.out.later HB2.out)).mono ?_
   rintro e wb ⟨rfl, hb3⟩
   have HB3 := Lib.hid (HB2.out.later hb3)
   obtain ⟨w3, rfl⟩ : ∃ w0, w0 = wb := ⟨wb, rfl⟩
   clear hb3
   try go_wp2_with fail
   refine hK.out _ _ (fun _ => ?eke26) (fun hHeld' => ?ers27)
   case eke26 => exact HSS.out _ HB3.out
   have hHeld := hHeld' (by decide)
   clear hHeld'
   clear hK KW
   try simp only [Act.put, List.setIfInBounds_toArray, List.set_cons_zero, List.set_cons_succ, List.getElem_toArray, List.getElem_cons_succ, List.getElem_cons_zero]
   refine wt 9 ?ea28 [] ?eb29 ?ec30
   case eb29 => intro w hSw; (try dsimp only at hSw); obtain ⟨s0, s1, s2, s3, s4, s5, s6, s7, s8, s9⟩ := hSw; go_simp; (try with_reducible rfl)
   try simp only [Act.put, List.setIfInBounds_toArray, List.set_cons_zero, List.set_cons_succ, List.getElem_toArray, List.getElem_cons_succ, List.getElem_cons_zero]
   refine wu 10 [] ?ec31
   try simp only [Act.put, List.setIfInBounds_toArray, List.set_cons_zero, List.set_cons_succ, List.getElem_toArray, List.getElem_cons_succ, List.getElem_cons_zero]
   refine wu 11 [] ?ec32
   try simp only [Act.put, List.setIfInBounds_toArray, List.set_cons_zero, List.set_cons_succ, List.getElem_toArray, List.getElem_cons_succ, List.getElem_cons_zero]
   refine wt 12 ?ea33 [] ?eb34 ?ec35
   case eb34 => intro w hSw; (try dsimp only at hSw); obtain ⟨s0, s1, s2, s3, s4, s5, s6, s7, s8, s9⟩ := hSw; go_simp; (try with_reducible rfl)
   try simp only [Act.put, List.setIfInBounds_toArray, List.set_cons_zero, List.set_cons_succ, List.getElem_toArray, List.getElem_cons_succ, List.getElem_cons_zero]
   refine wt 13 ?ea36 [] ?eb37 ?ec38
   case eb37 => intro w hSw; (try dsimp only at hSw); obtain ⟨s0, s1, s2, s3, s4, s5, s6, s7, s8, s9⟩ := hSw; go_simp; (try with_reducible rfl)
   try simp only [Act.put, List.setIfInBounds_toArray, List.set_cons_zero, List.set_cons_succ, List.getElem_toArray, List.getElem_cons_succ, List.getElem_cons_zero]
   refine wt 14 ?ea39 [] ?eb40 ?ec41
   case eb40 => intro w hSw; (try dsimp only at hSw); obtain ⟨s0, s1, s2, s3, s4, s5, s6, s7, s8, s9⟩ := hSw; go_simp; (try with_reducible rfl)
   try simp only [Act.put, List.setIfInBounds_toArray, List.set_cons_zero, List.set_cons_succ, List.getElem_toArray, List.getElem_cons_succ, List.getElem_cons_zero]
   refine wt 15 ?ea42 [] ?eb43 ?ec44
   case eb43 => intro w hSw; (try dsimp only at hSw); obtain ⟨s0, s1, s2, s3, s4, s5, s6, s7, s8, s9⟩ := hSw; go_simp; (try with_reducible rfl)
   try simp only [Act.put, List.setIfInBounds_toArray, List.set_cons_zero, List.set_cons_succ, List.getElem_toArray, List.getElem_cons_succ, List.getElem_cons_zero]
   refine wt 16 ?ea45 [] ?eb46 ?ec47
   case eb46 => intro w hSw; (try dsimp only at hSw); obtain ⟨s0, s1, s2, s3, s4, s5, s6, s7, s8, s9⟩ := hSw; go_simp; (try with_reducible rfl)
   try simp only [Act.put, List.setIfInBounds_toArray, List.set_cons_zero, List.set_cons_succ, List.getElem_toArray, List.getElem_cons_succ, List.getElem_cons_zero]
   refine wt 17 ?ea48 [] ?eb49 ?ec50
   case eb49 => intro w hSw; (try dsimp only at hSw); obtain ⟨s0, s1, s2, s3, s4, s5, s6, s7, s8, s9⟩ := hSw; go_simp; (try with_reducible rfl)
   try simp only [Act.put, List.setIfInBounds_toArray, List.set_cons_zero, List.set_cons_succ, List.getElem_toArray, List.getElem_cons_succ, List.getElem_cons_zero]
   refine wt 19 ?ea51 [] ?eb52 ?ec53
   case eb52 => intro w hSw; (try dsimp only at hSw); obtain ⟨s0, s1, s2, s3, s4, s5, s6, s7, s8, s9⟩ := hSw; go_simp; (try with_reducible rfl)
   try simp only [Act.put, List.setIfInBounds_toArray, List.set_cons_zero, List.set_cons_succ, List.getElem_toArray, List.getElem_cons_succ, List.getElem_cons_zero]
   refine wt 20 ?ea54 [] ?eb55 ?ec56
   case eb55 => intro w hSw; (try dsimp only at hSw); obtain ⟨s0, s1, s2, s3, s4, s5, s6, s7, s8, s9⟩ := hSw; go_simp; (try with_reducible rfl)
   try simp only [Act.put, List.setIfInBounds_toArray, List.set_cons_zero, List.set_cons_succ, List.getElem_toArray, List.getElem_cons_succ, List.getElem_cons_zero]
   refine wt 21 ?ea57 [] ?eb58 ?ec59
   case eb58 => intro w hSw; (try dsimp only at hSw); obtain ⟨s0, s1, s2, s3, s4, s5, s6, s7, s8, s9⟩ := hSw; go_simp; (try with_reducible rfl)
   try simp only [Act.put, List.setIfInBounds_toArray, List.set_cons_zero, List.set_cons_succ, List.getElem_toArray, List.getElem_cons_succ, List.getElem_cons_zero]
   refine wpEnd_ready (rs := [18]) (by kernel_rfl) (by simp) ?_
   refine AllReadyE.cons rfl (fun KW hK => ?est60) AllReadyE.nil
   go_simp
   refine (HK3'.out _ (HB0.out.later HB3.out)).mono ?_
   rintro e wb ⟨A1, m1, c1, rfl, hmc1, hm1, hs1, hb4⟩
   have HB4 := Lib.hid (HB3.out.later hb4)
   obtain ⟨w4, rfl⟩ : ∃ w0, w0 = wb := ⟨wb, rfl⟩
   have HS1 := Lib.hid hs1
   clear hb4 hs1
   try go_wp2_with fail
   refine hK.out _ _ (fun _ => ?eke61) (fun hHeld' => ?ers62)
   case eke61 => exact HSS.out _ HB4.out
   have hHeld := hHeld' (by decide)
   clear hHeld'
   clear hK KW
   try simp only [Act.put, List.setIfInBounds_toArray, List.set_cons_zero, List.set_cons_succ, List.getElem_toArray, List.getElem_cons_succ, List.getElem_cons_zero]
   refine wpEnd_ready (rs := [22]) (by kernel_rfl) (by simp) ?_
   refine AllReadyE.cons rfl (fun KW hK => ?est63) AllReadyE.nil
   go_simp
   refine (HK4'.out _ (HB0.out.later HB4.out)).mono ?_
   rintro e wb ⟨A2, m2, c2, rfl, hmc2, hm2, hs2, hb5⟩
   have HB5 := Lib.hid (HB4.out.later hb5)
   obtain ⟨w5, rfl⟩ : ∃ w0, w0 = wb := ⟨wb, rfl⟩
   have HS2 := Lib.hid hs2
   have HS1 := Lib.hid (HS1.out.later hb5)
   clear hb5 hs2
   try go_wp2_with fail
   refine hK.out _ _ (fun _ => ?eke64) (fun hHeld' => ?ers65)
   case eke64 => exact HSS.out _ HB5.out
   have hHeld := hHeld' (by decide)
   clear hHeld'
   clear hK KW
   try simp only [Act.put, List.setIfInBounds_toArray, List.set_cons_zero, List.set_cons_succ, List.getElem_toArray, List.getElem_cons_succ, List.getElem_cons_zero]
   refine wpEnd_ready (rs := [23]) (by kernel_rfl) (by simp) ?_
   refine AllReadyE.cons rfl (fun KW hK => ?est66) AllReadyE.nil
   go_simp
   refine (conflict_any an bn A1 A2 m1 c1 m2 c2 sa sb _ HS1.out HS2.out hm1 hm2 hmc1 hmc2).mono ?_
   rintro e wb ⟨rfl, qq, rfl⟩
   have HBE := Lib.hid (below_drewN HB5.out qq)
   try go_wp2_with fail
   refine hK.out _ _ (fun _ => ?eke67) (fun hHeld' => ?ers68)
   case eke67 => exact HSS.out _ HBE.out
   have hHeld := hHeld' (by decide)
   clear hHeld'
   clear hK KW
   try simp only [Act.put, List.setIfInBounds_toArray, List.set_cons_zero, List.set_cons_succ, List.getElem_toArray, List.getElem_cons_succ, List.getElem_cons_zero]
   refine wt 24 ?ea69 [] ?eb70 ?ec71
   case eb70 => intro w hSw; (try dsimp only at hSw); obtain ⟨s0, s1, s2, s3, s4, s5, s6, s7, s8, s9⟩ := hSw; go_simp; (try with_reducible rfl)
   try simp only [Act.put, List.setIfInBounds_toArray, List.set_cons_zero, List.set_cons_succ, List.getElem_toArray, List.getElem_cons_succ, List.getElem_cons_zero]
   refine wpEnd_ready (rs := [25]) (by kernel_rfl) (by simp) ?_
   refine AllReadyE.cons rfl (fun KW hK => ?est72) AllReadyE.nil
   go_simp
   refine hK.out _ _ (fun h => absurd rfl h) (fun hHeld => ?ers74)
   clear hK KW
   try simp only [Act.put, List.setIfInBounds_toArray, List.set_cons_zero, List.set_cons_succ, List.getElem_toArray, List.getElem_cons_succ, List.getElem_cons_zero]
   refine wpEnd_done (by kernel_rfl) ?_ _
   go_wp2_with fail
   go_ret
   exact ⟨ret_bool (by rw [HR.out]; rfl), HB0.out.later HBE.out⟩
end Go.Proofs.YtlicffeicmoifaaGreatDoor
