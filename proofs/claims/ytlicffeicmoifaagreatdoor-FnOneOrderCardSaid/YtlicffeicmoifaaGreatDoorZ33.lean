import Derived.Test.YtlicffeicmoifaaGreatDoorZ31
import Derived.Test.YtlicffeicmoifaaGreatDoorZ32
import Derived.Test.YtlicffeicmoifaaGreatDoorZ30
import Derived.Test.YtlicffeicmoifaaGreatDoorZ26
set_option linter.unusedSimpArgs false
namespace Go.Proofs.YtlicffeicmoifaaGreatDoor
open Go.RowKit
set_option linter.unusedVariables false
set_option maxRecDepth 100000 in
set_option maxHeartbeats 8000000 in
theorem l28Odd_any (p K b0 : Nat) (tv0 : Value) (fs0 : List NodeD) (w : World) (h : SrcR w p K) (hK : K ≤ 68719476736) (hN : NodesO w b0 tv0 fs0) (ht : treeB fs0 = true) (hf : fineT fs0) (hb0 : b0 ≤ w.heap.size) :
 Calls Tryz.prog 35 #[.pointer (some ⟨p, 0, none⟩), .agg #[tv0]] w (DoPost p (K + 210) w) := by
 have hpw := h.lt
 obtain ⟨A0, cap0, rfl, _, _⟩ := hN.reads
 obtain ⟨WB, hWB⟩ : ∃ WB, WB = w.alloc (.cells #[.slice A0 fs0.length cap0] 26) := ⟨_, rfl⟩
 have HB0 : Hid (Below w.heap.size w WB) := by subst hWB; exact Below.new _ _
 have HT0 : Hid (Blk WB w.heap.size 26 #[.slice A0 fs0.length cap0]) := by subst hWB; exact heap_alloc_new _ _
 have HD0 : Hid (Drawn p K w WB) := (Drawn.refl h).later HB0.out
 have hbz : w.heap.size ≤ WB.heap.size := HB0.out.size
 have HK1 := Lib.hid (l28Doings_any p K b0 (.slice A0 fs0.length cap0) fs0 WB HD0.out.src hK (hN.later HB0.out) ht hf (by omega))
 have t0 := HT0.out.cell 0
 simp at t0
 clear h hN ht hf
 go_enter Tryz.func35, Tryz.ntmps35
 go_wp2_with fail
 rw [← hWB]
 clear hWB
 refine HK1.out.mono ?_
 rintro e w1 ⟨ov, l, rfl, ⟨vs, hB⟩, hnn, hgd, hd1⟩
 obtain ⟨OA, oc, rfl, hoc, _, hOA⟩ := Own.own_slice hB.row
 have HB1 : Hid (Own.OwnL doK w1 w.heap.size 39 (.slice OA l.length oc) l vs) := hB.base hbz
 have HD1 : Hid (Drawn p (K + 200) w w1) := HD0.out.trans hd1
 have HGD := Lib.hid hgd
 have hl9 := hgd.1
 clear hB hgd hd1 HK1 t0 HT0 HD0
 generalize hn : l.length = n at *
 have HN := Lib.hid hn
 clear hn
 by_cases hn0 : n = 0
 · subst hn0
   go_wp2_with fail
   go_ret
   exact ⟨_, l, rfl, ⟨vs, HB1.out⟩, hnn, HGD.out, HD1.out.mono (by omega)⟩
 obtain ⟨g, rfl, hgw, hbg⟩ := hOA (by omega)
 have hbg' : w.heap.size ≤ g := by omega
 have hn0' : ((n : Int) == 0) = false := by simpa using hn0
 have HK2 := Lib.hid (pick_any p (K + 200) n w1 HD1.out.src (by omega) (by omega))
 go_wp2_with fail
 refine HK2.out.mono ?_
 rintro e w2 ⟨k, rfl, hk, hd2⟩
 have hkn : k < n := by omega
 have HD2 := Lib.hid (HD1.out.trans hd2)
 have HB2 := Lib.hid (OwnL.drawn HB1.out HD1.out.src hd2 (by decide))
 have HK3 := Lib.hid (pick_any p (K + 200 + 2) 12 w2 HD2.out.src (by omega) (by omega))
 clear hd2 HK2 hk HD1 HB1
 go_wp2_with fail
 refine HK3.out.mono ?_
 rintro e w3 ⟨y, rfl, hy, hd3⟩
 have HD3 := Lib.hid (HD2.out.trans hd3)
 have HB3 := Lib.hid (OwnL.drawn HB2.out HD2.out.src hd3 (by decide))
 clear hd3 HK3 HD2 HB2 hOA
 have hgw3 : g < w3.heap.size := by
  obtain ⟨A', c', e', _, _, hA'⟩ := Own.own_slice HB3.out.row
  obtain ⟨g', e2, h2, _⟩ := hA' (by rw [HN.out]; omega)
  injection e' with e3
  rw [e2] at e3
  cases e3
  exact h2
 by_cases hy0' : y = 0
 · subst hy0'
   have HK4 := Lib.hid (pick_any p (K + 200 + 2 + 2) 6 w3 HD3.out.src (by omega) (by omega))
   go_wp2_with fail
   refine HK4.out.mono ?_
   rintro e w4 ⟨z, rfl, hz, hd4⟩
   have HB4 := Lib.hid (OwnL.drawn HB3.out HD3.out.src hd4 (by decide))
   have HD4 := Lib.hid (HD3.out.trans hd4)
   have hgw4 : g < w4.heap.size := Nat.lt_of_lt_of_le hgw3 hd4.chg.size
   have hfz := (show w4.ownsRow w.heap.size 39 6 (.slice (some ⟨g, 0, none⟩) n oc) n _ from by have h := HB4.out.row; rw [HN.out] at h; exact h).frozenAt (k * 6)
   have c0 := HB4.out.cellAt HN.out k 0 hkn (by decide)
   have c0' : w4.cell? ⟨g, k * 6, none⟩ = some (.int .i64 (l.getD k default).job) := c0
   have HJB := Lib.hid (HB4.out.put HN.out hkn (show (0 : Nat) < 6 by decide) (show k * 6 = k * 6 + 0 from rfl) (u := .int .i64 (z : Int)) (d := l.getD k default) (d' := ⟨z, (l.getD k default).ev⟩) rfl (fun v => rfl) rfl (by decide))
   have hgk := HGD.out.2 _ (getD_memQ l k (by rw [HN.out]; exact hkn))
   clear hd4 HK4 hz HB3 HD3 c0
   go_wp2_with fail
   go_ret
   exact ⟨_, _, rfl, ⟨vs, HJB.out⟩, by simp, goodDs_set HGD.out hgk, (HD4.out.set hbg' hpw _ _).mono (by omega)⟩
 have hb0' : ((y : Int) == 0) = false := by simpa using hy0'
 by_cases hy1' : y = 1
 · subst hy1'
   have HK4 := Lib.hid (pick_any p (K + 200 + 2 + 2) 17 w3 HD3.out.src (by omega) (by omega))
   go_wp2_with fail
   refine HK4.out.mono ?_
   rintro e w4 ⟨z, rfl, hz, hd4⟩
   have HB4 := Lib.hid (OwnL.drawn HB3.out HD3.out.src hd4 (by decide))
   have HD4 := Lib.hid (HD3.out.trans hd4)
   have hgw4 : g < w4.heap.size := Nat.lt_of_lt_of_le hgw3 hd4.chg.size
   have hfz := (show w4.ownsRow w.heap.size 39 6 (.slice (some ⟨g, 0, none⟩) n oc) n _ from by have h := HB4.out.row; rw [HN.out] at h; exact h).frozenAt (k * 6 + 1)
   have c0 := HB4.out.cellAt HN.out k 1 hkn (by decide)
   have c0' : w4.cell? ⟨g, k * 6 + 1, none⟩ = some (.int .i64 (l.getD k default).ev.kind) := c0
   have HJB := Lib.hid (HB4.out.put HN.out hkn (show (1 : Nat) < 6 by decide) (show k * 6 + 1 = k * 6 + 1 from rfl) (u := .int .i64 (z : Int)) (d := l.getD k default) (d' := ⟨(l.getD k default).job, { (l.getD k default).ev with kind := z }⟩) rfl (fun v => rfl) rfl (by decide))
   have hgk := HGD.out.2 _ (getD_memQ l k (by rw [HN.out]; exact hkn))
   clear hd4 HK4 hz HB3 HD3 c0
   go_wp2_with fail
   go_ret
   exact ⟨_, _, rfl, ⟨vs, HJB.out⟩, by simp, goodDs_set HGD.out hgk, (HD4.out.set hbg' hpw _ _).mono (by omega)⟩
 have hb1' : ((y : Int) == 1) = false := by rw [beq_eq_false_iff_ne]; omega
 go_wp2_with fail
 go_ret
 exact ⟨_, l, rfl, ⟨vs, HB3.out⟩, hnn, HGD.out, HD3.out.mono (by omega)⟩
def DPlayPost (w : World) (e : Ending) (w' : World) : Prop := ∃ tv fs ov l, e = .returned (.tuple #[.agg #[tv], ov]) ∧ NodesO w' w.heap.size tv fs ∧ treeB fs = true ∧ fineT fs ∧ fs.length ≤ 7 ∧ DosO w' w.heap.size ov l ∧ ov ≠ .slice none 0 0 ∧ goodDs l ∧ Below w.heap.size w w'
theorem dosL_chgLow {P : Nat → Prop} {w w' : World} {base : Nat} {v : Value} {l : List DoD} (h : DosO w base v l) (k : Own.Chg P w w') (hP : ∀ g, P g → g < base) : DosO w' base v l := by
 obtain ⟨vs, h⟩ := h
 obtain ⟨h1, h2⟩ := Own.OwnL.inP h (P := fun g => ¬ P g) (fun g h1 _ hp => by have := hP g hp; omega)
 exact ⟨vs, Own.OwnL.chg h k h1 h2⟩
set_option maxRecDepth 100000 in
set_option maxHeartbeats 8000000 in
theorem DrawPlay_any (A : Option Addr) (n c : Nat) (w : World) (h : BytesR w w.heap.size A n) (hn : n ≤ 1048576) :
 Calls Tryz.prog 8 #[.slice A n c] w (DPlayPost w) := by
 obtain ⟨WB, hWB⟩ : ∃ WB, WB = w.alloc (.cells #[.slice none 0 0] 26) := ⟨_, rfl⟩
 have HBB : Hid (Below w.heap.size w WB) := by subst hWB; exact Below.new _ _
 have HR0 : Hid (Blk WB w.heap.size 26 #[.slice none 0 0]) := by subst hWB; exact heap_alloc_new _ _
 have HK1 := Lib.hid (l00FromS_any A n c WB (BytesR.laterS h HBB.out) hn)
 have hp3 : WB.heap.size = w.heap.size + 1 := by subst hWB; simp
 clear h hn
 go_enter Tryz.func8, Tryz.ntmps8
 go_wp2_with fail
 rw [← hWB]
 clear hWB
 refine HK1.out.mono ?_
 rintro e w1 ⟨rfl, hs1, hb1⟩
 rw [hp3] at hs1 hb1 ⊢
 have HB1 := Lib.hid (HBB.out.trans (hb1.mono (by omega)))
 have HA1 := Lib.hid (Blk.later HR0.out (hb1.mono (Nat.le_of_eq hp3)) HR0.out.lt)
 have hw1 : w.heap.size + 1 < w1.heap.size := hs1.lt
 generalize hp : w.heap.size + 1 = p at *
 have HS1 := Lib.hid hs1
 have HK2 := Lib.hid (l25DrawN_any p 0 w1 hs1 (by omega))
 clear hs1 hb1 HK1 HR0 HBB hp3
 go_wp2_with fail
 refine HK2.out.mono ?_
 rintro e w2 ⟨tv, fs, rfl, hT, htr, hfi, hl7, hd⟩
 obtain ⟨A1, cap1, rfl, _, _⟩ := hT.reads
 have HT2 := Lib.hid hT
 have HD2 := Lib.hid hd
 have HTF := Lib.hid (And.intro htr hfi)
 have HE2 := Lib.hid (Blk.drawn HA1.out hd (by omega))
 have hw2 := hd.chg.size
 clear hT htr hfi hd HK2 HA1
 obtain ⟨WX, hWX⟩ : ∃ WX, WX = w2.alloc (.cells #[.slice A1 fs.length cap1] 26) := ⟨_, rfl⟩
 have HX : Hid (Blk WX w2.heap.size 26 #[.slice A1 fs.length cap1]) := by subst hWX; exact heap_alloc_new _ _
 have HDX : Hid (Drawn p (0 + 100) w1 WX) := by subst hWX; exact HD2.out.later (Below.new _ _)
 have HTX : Hid (NodesO WX w1.heap.size (.slice A1 fs.length cap1) fs) := by subst hWX; exact HT2.out.later (Below.new _ _)
 have HX2 : Hid (Blk WX w.heap.size 26 #[.slice none 0 0]) := by subst hWX; exact HE2.out.alloc _
 have hwx := HX.out.lt
 have HKB := Lib.hid (fun W (hW : Below WX.heap.size WX W) => l28Odd_any p (0 + 100) w1.heap.size (.slice A1 fs.length cap1) fs W (HDX.out.src.later hW) (by omega) (HTX.out.later hW) HTF.out.1 HTF.out.2 (by have := hW.size; omega))
 have x0 := HX.out.cell 0
 simp at x0
 clear HT2 HD2 HE2
 go_wp2_with fail
 rw [← hWX]
 clear hWX
 have hnx : ¬ w2.heap.size = w.heap.size := by omega
 have hnx' : ¬ w.heap.size = w2.heap.size := by omega
 go_region_law (first
  | (go_simp
     go_at_call 35
     refine (HKB.out _ (Below.refl _ _).drew).mono ?_
     rintro e w3 ⟨ov, l, rfl, hB, hnn, hgd, hd3'⟩
     have hd3 := hd3'.pre (Below.refl _ WX).drew
     obtain ⟨OA, ocap, rfl, _, _⟩ := hB.reads
     have HD3 := Lib.hid (HDX.out.trans hd3)
     have HT3 := Lib.hid (HTX.out.drawn HDX.out.src hd3)
     have HGD := Lib.hid hgd
     have HB3 : Hid (DosO w3 w1.heap.size (.slice OA l.length ocap) l) := hB.base (show w1.heap.size ≤ WX.heap.size by omega)
     have HX3 := Lib.hid (Blk.drawn HX.out hd3 (by omega))
     have HR3 := Lib.hid (Blk.drawn HX2.out hd3 (by omega))
     have x3 := HX3.out.cell 0
     have r3 := HR3.out.cell 0
     have rf := HR3.out.frozen 0
     have rz := HR3.out.lt
     simp at x3 r3
     clear hd3 hd3' hgd hB))
 all_goals
  go_wp2_with fail
  refine bodyPost_ret (v := .tuple #[.agg #[.slice A1 fs.length cap1], .slice OA l.length ocap]) (by simp [results, Tryz.results8, go_sem, r3]; try first | exact rfl | exact ⟨rfl, rfl⟩) rfl ?_
  have hk : Own.Chg (fun g => g = w.heap.size) w3 (w3.setCell ⟨w.heap.size, 0, none⟩ (.slice A1 fs.length cap1)) := Own.Chg.set (P := fun g => g = w.heap.size) (Own.Chg.refl _ w3) (g := w.heap.size) rfl 0 _
  exact ⟨_, fs, _, l, rfl, (HT3.out.chgLow hk (fun g e => by omega)).base (by omega), HTF.out.1, HTF.out.2, hl7, (dosL_chgLow HB3.out hk (fun g e => by omega)).base (by omega), hnn, HGD.out, (Own.Chg.below HB1.out HD3.out.chg (fun g e => by omega) (Nat.le_refl _)).setCell (Nat.le_refl _) _⟩
end Go.Proofs.YtlicffeicmoifaaGreatDoor
namespace Go.Proofs.YtlicffeicmoifaaGreatDoor
open Go.RowKit
set_option linter.unusedVariables false
theorem reads_turns {e : EvD} (h : noteB e = true) : turnsB e = !readsB e := by
 have h2 := (note_parts h).2
 have hk : e.kind = 1 ∨ e.kind = 4 ∨ e.kind = 5 ∨ e.kind = 6 ∨ e.kind = 2 ∨ e.kind = 3 := by
  unfold resB at h2
  split at h2
  · next h => exact .inl h
  split at h2
  · next h => exact .inr (.inl h)
  split at h2
  · next h => exact .inr (.inr (.inl h))
  split at h2
  · next h => exact .inr (.inr (.inr (.inl h)))
  split at h2
  · next h => exact .inr (.inr (.inr (.inr (.inl h))))
  · simp only [Bool.and_eq_true, decide_eq_true_eq] at h2
    exact .inr (.inr (.inr (.inr (.inr h2.1))))
 unfold readsB turnsB
 rcases hk with h | h | h | h | h | h <;> rw [h] <;> rfl
def TreeW (v0 : Value) (fs0 : List NodeD) (base : Nat) (wr : World) (v : Value) (gs : List NodeD) : Prop := (v = v0 ∧ gs = fs0) ∨ NodesO wr base v gs
theorem TreeW.later {v0 : Value} {fs0 : List NodeD} {base : Nat} {w w' : World} {v : Value} {gs : List NodeD} (h : TreeW v0 fs0 base w v gs) (hb : Below w.heap.size w w') : TreeW v0 fs0 base w' v gs :=
 h.imp id (fun h => h.later hb)
theorem TreeW.setBlk {v0 : Value} {fs0 : List NodeD} {base : Nat} {w : World} {v : Value} {gs : List NodeD} {g i : Nat} {t : TypeId} {u : Value} {cs : Array Value} (h : TreeW v0 fs0 base w v gs) (hB : Blk w g t cs) (h1 : 89 ≠ t) (h2 : 9 ≠ t) : TreeW v0 fs0 base (w.setCell ⟨g, i, none⟩ u) v gs :=
 h.imp id (fun h => h.setBlk hB h1 h2)
theorem TreeW.reads {base : Nat} {w0 w : World} {A : Option Addr} {n c : Nat} {fs0 : List NodeD} {v : Value} {gs : List NodeD} (h : TreeW (.slice A n c) fs0 base w v gs) (h0 : Nodes w0 w0.heap.size A n fs0) (hnc : n ≤ c) (hb : Below w0.heap.size w0 w) : ∃ A' cap, v = .slice A' gs.length cap ∧ gs.length ≤ cap ∧ Nodes w w.heap.size A' gs.length gs := by
 rcases h with ⟨rfl, rfl⟩ | h
 · refine ⟨A, c, by rw [h0.1], by rw [h0.1]; exact hnc, by rw [h0.1]; exact h0.later hb⟩
 · exact h.reads
def RpPost (v0 : Value) (fs0 : List NodeD) (r : Int × Nat × List NodeD) (w : World) (e : Ending) (w' : World) : Prop := ∃ v, e = .returned (.tuple #[.agg #[v], .int .i64 r.2.1, .int .i64 r.1]) ∧ TreeW v0 fs0 w.heap.size w' v r.2.2 ∧ Below w.heap.size w w'
theorem TreeW.nil (v0 : Value) (fs0 : List NodeD) (base : Nat) (w : World) : TreeW v0 fs0 base w (.slice none 0 0) [] := .inr (nodesO_nil _ _)
theorem evR_of {w : World} {B : Nat} {A : Option Addr} {m c : Nat} {d : EvD} (h : Own.SubO w B (.slice A m c) d.subs) : EvR w w.heap.size (.int .i64 d.kind) (.string d.name) (.slice A m c) (.string d.val) (.int .i64 d.n) d := by
 obtain ⟨A1, cap1, e1, hc1, hs1⟩ := h.strs
 cases e1
 exact ⟨rfl, rfl, ⟨A, _, c, rfl, hs1, hc1⟩, rfl, rfl⟩
theorem again_subs (fs : List NodeD) (d : EvD) : (againB fs d).subs = d.subs := by
 unfold againB
 repeat' split
 all_goals rfl
theorem drop_consQ {α : Type} [Inhabited α] (cs : List α) (k : Nat) (h : k < cs.length) : cs.drop k = cs.getD k default :: cs.drop (k + 1) := by
 rw [List.drop_eq_getElem_cons h, List.getD_eq_getElem?_getD, List.getElem?_eq_getElem h]; rfl
set_option maxRecDepth 100000 in
set_option maxHeartbeats 8000000 in
theorem l25Replay_any (A : Option Addr) (n c : Nat) (L : Option Addr) (m q : Nat) (fs : List NodeD) (l : List EvD) (w : World) (hN : Nodes w w.heap.size A n fs) (hnc : n ≤ c) (ht : treeB fs = true) (hcl : cleanT fs) (hL : Evs w w.heap.size L m l) (hm : m ≤ 60) (hall : ∀ e ∈ l, noteB e = true ∧ e.small ∧ cleanE e) :
 Calls Tryz.prog 41 #[.agg #[.slice A n c], .slice L m q] w (RpPost (.slice A n c) fs (repB fs l 0) w) := by
 have HN := Lib.hid hN
 have HLC := Lib.hid hL
 have HLL := Lib.hid hL.1
 have HAL := Lib.hid hall
 have HT0 := Lib.hid ht
 have HC0 := Lib.hid hcl
 have HNC := Lib.hid hnc
 have HPB0 : Hid (repB fs l 0 = repB fs l 0) := rfl
 clear hN hnc ht hcl hL hall
 generalize hPB : repB fs l 0 = PB at *
 clear HPB0
 obtain ⟨WB, hWB⟩ : ∃ WB, WB = (w.alloc (.cells #[.slice A n c] 26)).alloc (.cells #[.slice none 0 0] 26) := ⟨_, rfl⟩
 have HB0 : Hid (Below w.heap.size w WB) := by subst hWB; exact (Below.new _ _).later (Below.new _ _)
 have HX0 : Hid (Blk WB w.heap.size 26 #[.slice A n c]) := by subst hWB; exact heap_two0 _ _ _
 have HY0 : Hid (Blk WB (w.heap.size + 1) 26 #[.slice none 0 0]) := by subst hWB; exact heap_two1 _ _ _
 have HPB := Lib.hid hPB
 clear hPB
 go_enter Tryz.func41, Tryz.ntmps41
 go_wp2_with fail
 rw [← hWB]
 clear hWB
 go_loopw [7] (fun i wr => ∃ (k : Nat) (v : Value) (gs : List NodeD), k ≤ m ∧ i = .int .i64 k ∧ Hid (Blk wr w.heap.size 26 #[v]) ∧ Hid (Blk wr (w.heap.size + 1) 26 #[.slice none 0 0]) ∧ Hid (TreeW (.slice A n c) fs w.heap.size wr v gs) ∧ Hid (treeB gs = true) ∧ Hid (cleanT gs) ∧ Hid (Below w.heap.size w wr) ∧ Hid (PB = repB gs (l.drop k) k)) (fun i _ => m - (intOf i).toNat)
 case atStart => exact ⟨0, _, fs, Nat.zero_le _, rfl, HX0.out, HY0.out, .inl ⟨rfl, rfl⟩, HT0.out, HC0.out, HB0.out, by unfold Hid; rw [List.drop_zero]; exact HPB.out.symm⟩
 case round =>
  obtain ⟨k, v, gs, hk, rfl, HV, HYR, HTW, HTG, HCG, HBW, HPK⟩ := hrel
  obtain ⟨A3, cap3, rfl, hc3, hN3⟩ := HTW.out.reads HN.out HNC.out HBW.out
  have pv := HV.out.cell 0
  have zv := HV.out.lt
  have fv := HV.out.frozen 0
  have py := HYR.out.cell 0
  have zy := HYR.out.lt
  have fy := HYR.out.frozen 0
  simp at pv py
  clear HX0 HY0 HB0
  by_cases hlt : k < m
  · obtain ⟨bb, o, rfl, hbB, hc⟩ := (HLC.out.later HBW.out).2 (by omega)
    obtain ⟨c0, c1, c2, c3, c4, k0, k1, k2, k3, k4, hr⟩ := hc k hlt
    clear hc
    have hl : k < l.length := by rw [HLL.out]; exact hlt
    obtain ⟨hnote, hsd, hce⟩ := HAL.out _ (getD_memQ l k hl)
    have hda := drop_consQ l k hl
    have hwh := (note_parts hnote).1
    have hrt := reads_turns hnote
    generalize l.getD k default = d at *
    have HDA : Hid (PB = if (applyB gs d).1 = 0 then repB (applyB gs d).2 (l.drop (k + 1)) (k + 1) else ((applyB gs d).1, k, [])) := by unfold Hid; rw [HPK.out, hda]; rfl
    have HDT : Hid ((applyB gs d).1 = 0 → treeB (applyB gs d).2 = true) := apply_tree HTG.out hnote
    have HDC : Hid (cleanT (applyB gs d).2) := clean_apply HCG.out hce
    have HKR := Lib.hid (fun W (hW : Below wr.heap.size wr W) => specReadsOf_any c0 c1 c2 c3 c4 d W (hr.later hW))
    cases hrd : readsB d
    · rw [hrd] at hrt
      have HKT := Lib.hid (fun W (hW : Below wr.heap.size wr W) => l25Turn_any A3 gs.length cap3 gs c0 c1 c2 c3 c4 d W (hN3.later hW) hc3 (tree_small HTG.out) (hr.later hW) hsd)
      rw [doOne_turn HTG.out hnote hrt] at HKT
      rw [hrd] at HKR
      clear hda hsd hnote hce hwh hrt hrd
      generalize applyB gs d = R at *
      obtain ⟨r1, r2⟩ := R
      have HR := Lib.hid hr
      obtain ⟨rfl, rfl, ⟨S, m1, q1, rfl, _, _⟩, rfl, rfl⟩ := hr
      have hxx : w.heap.size ≠ w.heap.size + 1 := by omega
      go_wp2_with fail
      refine (HKR.out _ (Below.refl _ _)).mono ?_
      rintro e w1 ⟨rfl, hb1⟩
      have HB1 := Lib.hid hb1
      have HV1 := Lib.hid (HV.out.later hb1 HV.out.lt)
      have HYR1 := Lib.hid (HYR.out.later hb1 HYR.out.lt)
      have HR1 := Lib.hid (HR.out.later hb1)
      have HTW1 := Lib.hid (HTW.out.later hb1)
      have HBW1 := Lib.hid (HBW.out.later hb1)
      have hbB1 : bb < w1.heap.size := Nat.lt_of_lt_of_le hbB hb1.size
      have j0 := cell_later hb1 k0
      have j1 := cell_later hb1 k1
      have j2 := cell_later hb1 k2
      have j3 := cell_later hb1 k3
      have j4 := cell_later hb1 k4
      clear hb1 k0 k1 k2 k3 k4 pv zv fv py zy fy HV HYR HR HTW HBW hN3
      have pv := HV1.out.cell 0
      have zv := HV1.out.lt
      have fv := HV1.out.frozen 0
      have py := HYR1.out.cell 0
      have zy := HYR1.out.lt
      have fy := HYR1.out.frozen 0
      simp at pv py
      go_wp2_with fail
      go_region_law (first
       | (go_simp
          go_at_call 102
          refine (HKT.out _ (by exact HB1.out.drew)).mono ?_
          rintro e w4 ⟨v4, rfl, hN4, hb4'⟩
          have hb4 := undrew hb4'
          obtain ⟨A4, cap4, rfl, hcap4, _⟩ := hN4.reads
          have HW := Lib.hid (Below.new w4 (.cells #[.slice A4 r2.length cap4] 26))
          have H8X : Hid (Blk (w4.alloc (.cells #[.slice A4 r2.length cap4] 26)) w4.heap.size 26 #[.slice A4 r2.length cap4]) := heap_alloc_new _ _
          have HVX := Lib.hid ((HV1.out.later hb4 HV1.out.lt).alloc (.cells #[.slice A4 r2.length cap4] 26))
          have HYX := Lib.hid ((HYR1.out.later hb4 HYR1.out.lt).alloc (.cells #[.slice A4 r2.length cap4] 26))
          have HNX : Hid (NodesO (w4.alloc (.cells #[.slice A4 r2.length cap4] 26)) w.heap.size (.slice A4 r2.length cap4) r2) := (hN4.base HBW1.out.size).later HW.out
          have HBX := Lib.hid ((HBW1.out.later hb4).later HW.out)
          have z8 := H8X.out.lt
          clear hb4 hb4' hN4)
       | (go_simp
          go_at_call 102
          refine (HKT.out _ (by exact (HB1.out.later (Below.new _ _)).drew)).mono ?_
          rintro e w4 ⟨v4, rfl, hN4, hb4'⟩
          have hb4 := undrew hb4'
          obtain ⟨A4, cap4, rfl, hcap4, _⟩ := hN4.reads
          have h8 : Blk w4 w1.heap.size 26 #[.slice none 0 0] := Blk.later (heap_alloc_new w1 _) hb4 (by simp)
          have p8 := h8.cell 0
          have f8 := h8.frozen 0
          have z8 := h8.lt
          simp at p8
          have hbW := (Below.new w1 (.cells #[.slice none 0 0] 26)).later hb4
          have H8X : Hid (Blk (w4.setCell ⟨w1.heap.size, 0, none⟩ (.slice A4 r2.length cap4)) w1.heap.size 26 #[.slice A4 r2.length cap4]) := h8.set_ 0 _
          have HVX := Lib.hid ((HV1.out.later hbW HV1.out.lt).far (p := ⟨w1.heap.size, 0, none⟩) (show w.heap.size ≠ w1.heap.size by omega) (.slice A4 r2.length cap4))
          have HYX := Lib.hid ((HYR1.out.later hbW HYR1.out.lt).far (p := ⟨w1.heap.size, 0, none⟩) (show w.heap.size + 1 ≠ w1.heap.size by omega) (.slice A4 r2.length cap4))
          have HNX : Hid (NodesO (w4.setCell ⟨w1.heap.size, 0, none⟩ (.slice A4 r2.length cap4)) w.heap.size (.slice A4 r2.length cap4) r2) := (hN4.base (by have := HBW1.out.size; simp; omega)).setBlk h8 (by decide) (by decide)
          have HBX := Lib.hid ((HBW1.out.later hbW).setCell (p := ⟨w1.heap.size, 0, none⟩) HBW1.out.size (.slice A4 r2.length cap4))
          clear hb4 hb4' hN4 h8 hbW))
      all_goals
       have p8 := H8X.out.cell 0
       have z8 := H8X.out.lt
       have pv := HVX.out.cell 0
       have fv := HVX.out.frozen 0
       have zv := HVX.out.lt
       have py := HYX.out.cell 0
       have fy := HYX.out.frozen 0
       have zy := HYX.out.lt
       simp at p8 pv py
       by_cases hr0 : r1 = 0
       · have HE2 : Hid (PB = repB r2 (l.drop (k + 1)) (k + 1)) := by unfold Hid; rw [HDA.out, if_pos hr0]
         have HT2 := Lib.hid (HDT.out hr0)
         subst hr0
         go_wp2_with fail
         go_roundw
         case rel =>
          exact ⟨k + 1, _, r2, by omega, by go_num, HVX.out.set_ 0 _, HYX.out.far (show w.heap.size + 1 ≠ w.heap.size by omega) _, .inr (HNX.out.setBlk HVX.out (by decide) (by decide)), HT2.out, HDC.out, HBX.out.setCell (show w.heap.size ≤ w.heap.size by omega) _, HE2.out⟩
         case measure => simp [intOf]; omega
       · have HE2 : Hid (PB = (r1, k, [])) := by unfold Hid; rw [HDA.out, if_neg hr0]
         have hb0 : (r1 == (0 : Int)) = false := by rw [beq_eq_false_iff_ne]; exact hr0
         go_wp2_with fail
         refine bodyPost_ret (v := .tuple #[.agg #[.slice none 0 0], .int .i64 k, .int .i64 r1]) (by simp [results, Tryz.results41, go_sem, py]) rfl ?_
         exact ⟨_, by rw [HE2.out], by rw [HE2.out]; exact TreeW.nil _ _ _ _, HBX.out.setCell (show w.heap.size ≤ w.heap.size + 1 by omega) _⟩
    · have hto : applyB gs d = if sameE (againB gs d) d = true then (0, gs) else (5, gs) := by unfold applyB; rw [hrt, hrd]; rfl
      have HKG := Lib.hid (fun W (hW : Below wr.heap.size wr W) => l25Again_any A3 gs.length cap3 gs c0 c1 c2 c3 c4 d W (hN3.later hW) HTG.out HCG.out (hr.later hW) hsd hwh hrd)
      have HKS := Lib.hid (fun A1 m1 q1 W (hW : Below wr.heap.size wr W) (hS : Own.SubO W wr.heap.size (.slice A1 m1 q1) (againB gs d).subs) => l25SameEvent_any _ _ _ _ _ c0 c1 c2 c3 c4 (againB gs d) d W (evR_of hS) (hr.later hW) (by rw [again_subs]; exact hsd.2.1.1) hsd.2.1.1)
      rw [hrd] at HKR
      rw [hto] at HDA HDT HDC
      clear hda hsd hnote hce hwh hrt hrd hto
      have HR := Lib.hid hr
      obtain ⟨rfl, rfl, ⟨S, m1, q1, rfl, _, _⟩, rfl, rfl⟩ := hr
      have hxx : w.heap.size ≠ w.heap.size + 1 := by omega
      unfold EvPost at HKG
      generalize againB gs d = ag at *
      generalize hsm : sameE ag d = sb at *
      clear hsm
      go_wp2_with fail
      refine (HKR.out _ (Below.refl _ _)).mono ?_
      rintro e w1 ⟨rfl, hb1⟩
      have HB1 := Lib.hid hb1
      have j0 := cell_later hb1 k0
      have j1 := cell_later hb1 k1
      have j2 := cell_later hb1 k2
      have j3 := cell_later hb1 k3
      have j4 := cell_later hb1 k4
      have j5 := cell_later hb1 pv
      clear hb1 k0 k1 k2 k3 k4 pv zv fv py zy fy HR hN3
      have HS : Hid (∀ W, Below w1.heap.size w1 W → (W.cell? ⟨w.heap.size, 0, none⟩ = some (.slice A3 gs.length cap3) ∧ W.cell? ⟨bb, o + k * 5, none⟩ = some (.int .i64 d.kind) ∧ W.cell? ⟨bb, o + k * 5 + 1, none⟩ = some (.string d.name) ∧ W.cell? ⟨bb, o + k * 5 + 2, none⟩ = some (.slice S m1 q1) ∧ W.cell? ⟨bb, o + k * 5 + 3, none⟩ = some (.string d.val) ∧ W.cell? ⟨bb, o + k * 5 + 4, none⟩ = some (.int .i64 d.n))) := fun W hW => ⟨cell_later hW j5, cell_later hW j0, cell_later hW j1, cell_later hW j2, cell_later hW j3, cell_later hW j4⟩
      go_wp2_with fail
      go_region_held3 (fun W => W.cell? ⟨w.heap.size, 0, none⟩ = some (.slice A3 gs.length cap3) ∧ W.cell? ⟨bb, o + k * 5, none⟩ = some (.int .i64 d.kind) ∧ W.cell? ⟨bb, o + k * 5 + 1, none⟩ = some (.string d.name) ∧ W.cell? ⟨bb, o + k * 5 + 2, none⟩ = some (.slice S m1 q1) ∧ W.cell? ⟨bb, o + k * 5 + 3, none⟩ = some (.string d.val) ∧ W.cell? ⟨bb, o + k * 5 + 4, none⟩ = some (.int .i64 d.n))
       (first | exact HS.out _ (Below.refl _ _).drew | exact HS.out _ HB2.out | exact HS.out _ HB3.out | go_keep)
       (first
         | (go_at_call 101
            refine (HKG.out _ (by exact HB1.out.drew)).mono ?_
            rintro e w2 ⟨v2, rfl, ho2, hb2'⟩
            have HB2 := Lib.hid (undrew hb2')
            obtain ⟨A1, m2, q2, rfl⟩ : ∃ A1 m2 q2, v2 = .slice A1 m2 q2 := by obtain ⟨A, cap, e, _⟩ := Own.own_slice ho2; exact ⟨A, _, cap, e⟩
            have HSO := Lib.hid (Own.own_base ho2 (by simpa using HB1.out.size))
            clear hb2' ho2)
         | (go_at_call 100
            refine (HKS.out _ _ _ _ (HB1.out.later HB2.out) HSO.out).mono ?_
            rintro e w3 ⟨rfl, hb3⟩
            have HB3 := Lib.hid (HB2.out.later hb3)
            clear hb3))
      have HB13 := Lib.hid (HB1.out.later HB3.out)
      have HV3 := Lib.hid (HV.out.later HB13.out HV.out.lt)
      have HYR3 := Lib.hid (HYR.out.later HB13.out HYR.out.lt)
      have HTW3 := Lib.hid (HTW.out.later HB13.out)
      have HBW3 := Lib.hid (HBW.out.later HB13.out)
      have py := HYR3.out.cell 0
      have zy := HYR3.out.lt
      have fy := HYR3.out.frozen 0
      simp at py
      clear j0 j1 j2 j3 j4 j5
      cases sb
      · have HE2 : Hid (PB = (5, k, [])) := by unfold Hid; rw [HDA.out]; rfl
        go_wp2_with fail
        refine bodyPost_ret (v := .tuple #[.agg #[.slice none 0 0], .int .i64 k, .int .i64 5]) (by simp [results, Tryz.results41, go_sem, py]) rfl ?_
        exact ⟨_, by rw [HE2.out], by rw [HE2.out]; exact TreeW.nil _ _ _ _, HBW3.out.setCell (show w.heap.size ≤ w.heap.size + 1 by omega) _⟩
      · have HE2 : Hid (PB = repB gs (l.drop (k + 1)) (k + 1)) := by unfold Hid; rw [HDA.out]; rfl
        go_wp2_with fail
        go_roundw
        case rel => exact ⟨k + 1, _, gs, by omega, by go_num, HV3.out, HYR3.out, HTW3.out, HTG.out, HCG.out, HBW3.out, HE2.out⟩
        case measure => simp [intOf]; omega
  · obtain rfl : k = m := by omega
    have HE2 : Hid (PB = (0, 0, gs)) := by unfold Hid; rw [HPK.out, List.drop_of_length_le (by rw [HLL.out]; omega)]; rfl
    have hxx : w.heap.size ≠ w.heap.size + 1 := by omega
    go_wp2_with fail
    refine bodyPost_ret (v := .tuple #[.agg #[.slice A3 _ cap3], .int .i64 0, .int .i64 0]) (by simp [results, Tryz.results41, go_sem, py]; try first | exact rfl | exact ⟨rfl, rfl⟩) rfl ?_
    exact ⟨_, by rw [HE2.out]; rfl, by rw [HE2.out]; exact HTW.out.setBlk HYR.out (by decide) (by decide), HBW.out.setCell (show w.heap.size ≤ w.heap.size + 1 by omega) _⟩
end Go.Proofs.YtlicffeicmoifaaGreatDoor
