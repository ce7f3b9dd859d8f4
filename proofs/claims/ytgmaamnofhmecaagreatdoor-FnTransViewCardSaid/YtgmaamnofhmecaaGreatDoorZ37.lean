import Derived.Test.YtgmaamnofhmecaaGreatDoorZ36
import Derived.Test.YtgmaamnofhmecaaGreatDoorZ30
import Derived.Test.YtgmaamnofhmecaaGreatDoorZ29
import Derived.Test.YtgmaamnofhmecaaGreatDoorZ13
set_option linter.unusedSimpArgs false
namespace Go.Proofs.YtgmaamnofhmecaaGreatDoor
open Go.RowKit
set_option linter.unusedVariables false
set_option linter.unusedSimpArgs false
def fineY (x : TransD) : Prop := -1 ≤ x.depth ∧ x.depth ≤ 5 ∧ -1 ≤ x.rest ∧ x.rest ≤ 5 ∧ x.evs.length ≤ 61 ∧ ∀ d ∈ x.evs, fineE d
def DTransB (p K : Nat) (w : World) (e : Ending) (w' : World) : Prop := ∃ v x, e = .returned (.agg #[.int .i64 x.depth, .int .i64 x.rest, v]) ∧ EvsO w' w.heap.size v x.evs ∧ fineY x ∧ Drawn p K w w'
section
variable {p K K' n c q : Nat} {w X Y : World} {A : Option Addr} {dp rs : Int} {ev : Value} {es : List EvD}
theorem SmS.setD (s : SmS p K w A n c q dp rs ev es X) (z : Int) (hp : p < w.heap.size) (hq : w.heap.size + 1 < q) : SmS p K w A n c q z rs ev es (X.setCell ⟨q, 0, none⟩ (.int .i64 z)) :=
 ⟨s.tre.far (p := ⟨q, 0, none⟩) (show w.heap.size ≠ q by omega) _, s.res.far (p := ⟨q, 0, none⟩) (show w.heap.size + 1 ≠ q by omega) _, by have := s.box.set_ 0 (.int .i64 z); simpa using this, s.evs.setBlk s.box (by decide) (by decide), s.draw.set (show w.heap.size ≤ q by omega) hp 0 _⟩
theorem SmS.setR (s : SmS p K w A n c q dp rs ev es X) (z : Int) (hp : p < w.heap.size) (hq : w.heap.size + 1 < q) : SmS p K w A n c q dp z ev es (X.setCell ⟨q, 1, none⟩ (.int .i64 z)) :=
 ⟨s.tre.far (p := ⟨q, 1, none⟩) (show w.heap.size ≠ q by omega) _, s.res.far (p := ⟨q, 1, none⟩) (show w.heap.size + 1 ≠ q by omega) _, by have := s.box.set_ 1 (.int .i64 z); simpa using this, s.evs.setBlk s.box (by decide) (by decide), s.draw.set (show w.heap.size ≤ q by omega) hp 1 _⟩
theorem SmS.grown {us us' : List Value} {ev' : Value} {es' : List EvD} (s : SmS p K w A n c q dp rs ev es X) (ho : Own.OwnL evK X w.heap.size 55 ev es us) (hg : X.grownBy Y ev.ownBlock) (h : Own.OwnL evK Y w.heap.size 55 ev' es' us') (hp : p < w.heap.size) (hq : w.heap.size + 1 < q) : SmS p K w A n c q dp rs ev' es' (Y.setCell ⟨q, 2, none⟩ ev') := by
 have hr := ho.row
 have hbx : Blk Y q 58 #[.int .i64 dp, .int .i64 rs, ev] := s.box.grown hg (fun e => Own.own_blk_ne hr s.box (by decide) e.symm)
 refine ⟨Blk.far (s.tre.grown hg (fun e => Own.own_blk_ne hr s.tre (by decide) e.symm)) (p := ⟨q, 2, none⟩) (show w.heap.size ≠ q by omega) _, Blk.far (s.res.grown hg (fun e => Own.own_blk_ne hr s.res (by decide) e.symm)) (p := ⟨q, 2, none⟩) (show w.heap.size + 1 ≠ q by omega) _, ?_, EvsO.setBlk ⟨us', h⟩ hbx (by decide) (by decide), (s.draw.grown hg (fun g hg' => (hr.lt g hg').1) hp).set (show w.heap.size ≤ q by omega) hp 2 _⟩
 have := hbx.set_ 2 ev'
 simpa using this
theorem SmS.finB (s : SmS p K w A n c q dp rs ev es X) (hp : p < w.heap.size) (hx : fineY ⟨dp, rs, es⟩) : DTransB p K w (.returned (.agg #[.int .i64 dp, .int .i64 rs, ev])) (set3 X (w.heap.size + 1) (.int .i64 dp) (.int .i64 rs) ev) := by
 have h1 := s.res.set_ 0 (.int .i64 dp)
 have h2 := h1.set_ 1 (.int .i64 rs)
 exact ⟨ev, ⟨dp, rs, es⟩, rfl, ((s.evs.setBlk s.res (by decide) (by decide)).setBlk h1 (by decide) (by decide)).setBlk h2 (by decide) (by decide), hx, ((s.draw.set (show w.heap.size ≤ w.heap.size + 1 by omega) hp 0 _).set (show w.heap.size ≤ w.heap.size + 1 by omega) hp 1 _).set (show w.heap.size ≤ w.heap.size + 1 by omega) hp 2 _⟩
end
theorem fineY_len {es : List EvD} {d : EvD} (h : es.length ≤ 60) : (es ++ [d]).length ≤ 61 := by
 rw [List.length_append]
 simp
 omega
theorem fineY_mem {es : List EvD} (h : ∀ d ∈ es, fineE d) (z : Nat) : ∀ d ∈ es ++ [(⟨(z : Int), ⟨#[65]⟩, [], ⟨#[]⟩, 0⟩ : EvD)], fineE d := fun d hd => by
 rcases List.mem_append.1 hd with h1 | h1
 · exact h d h1
 · rw [List.mem_singleton] at h1
   subst h1
   exact ⟨⟨⟨⟨(by decide : (⟨#[65]⟩ : ByteArray).size ≤ 1048576), ⟨by simp, fun s hs => by cases hs⟩, (by decide : (⟨#[]⟩ : ByteArray).size ≤ 1048576)⟩, okV_nil⟩, fun s hs => (by cases hs), okV_nil⟩, fun _ s hs => by cases hs⟩
theorem apart_nil (us : List Value) : ∀ u ∈ us, Own.apart u (.slice none 0 0) := fun u _ => by
 unfold Own.apart
 cases h : u.ownBlock with
 | none => exact .inl rfl
 | some g => exact .inr (by simp [Value.ownBlock])
set_option maxRecDepth 100000 in
set_option maxHeartbeats 16000000 in
theorem l25Bent_any (p K : Nat) (A : Option Addr) (n c : Nat) (fs : List NodeD) (w : World) (h : SrcR w p K) (hK : K ≤ 34359738368) (hN : Nodes w w.heap.size A n fs) (hnc : n ≤ c) (ht : treeB fs = true) (hf : fineT fs) :
 Calls Tryz.prog 81 #[.pointer (some ⟨p, 0, none⟩), .agg #[.slice A n c]] w (DTransB p (K + 220) w) := by
 obtain ⟨i0, hi, hz0, hz1, hz2⟩ := info_parts infoEvD
 have hpw := h.lt
 obtain ⟨WB, hWB⟩ : ∃ WB, WB = (w.alloc (.cells #[.slice A n c] 26)).alloc (.cells #[.int .i64 0, .int .i64 0, .slice none 0 0] 58) := ⟨_, rfl⟩
 have HBB : Hid (Below w.heap.size w WB) := by subst hWB; exact (Below.new _ _).later (Below.new _ _)
 have HT0 : Hid (Blk WB w.heap.size 26 #[.slice A n c]) := by subst hWB; exact heap_two0 _ _ _
 have HR0 : Hid (Blk WB (w.heap.size + 1) 58 #[.int .i64 0, .int .i64 0, .slice none 0 0]) := by subst hWB; exact heap_two1 _ _ _
 have HK1 := Lib.hid (l25Some_any p K A n c fs WB (h.later HBB.out) (by omega) (hN.later HBB.out) hnc ht hf)
 have hwb := HR0.out.lt
 have t0 := HT0.out.cell 0
 simp at t0
 clear h hN ht hf
 go_enter Tryz.func81, Tryz.ntmps81
 go_wp2_with fail
 rw [← hWB]
 clear hWB
 refine HK1.out.mono ?_
 rintro e w1 ⟨ev, x, rfl, hev, hx, hd⟩
 obtain ⟨dp, rs, es⟩ := x
 dsimp only at hev hx ⊢
 obtain ⟨EA, ec, rfl, hec, _⟩ := hev.reads
 obtain ⟨hx1, hx2, hx3, hx4, hx5, hx6⟩ := hx
 dsimp only at hx1 hx2 hx3 hx4 hx5 hx6
 have HD1 := Lib.hid (hd.pre HBB.out)
 have HT1 := Lib.hid (Blk.drawn HT0.out hd (by omega))
 have HR1 := Lib.hid (Blk.drawn HR0.out hd (by omega))
 have HE1 := Lib.hid (hev.base HBB.out.size)
 have hw1 : w.heap.size + 1 < w1.heap.size := Nat.lt_of_lt_of_le hwb hd.chg.size
 clear hd HT0 HR0 HK1 HBB hwb hev t0
 generalize hm : es.length = m at *
 have HM := Lib.hid hm
 clear hm
 obtain ⟨WE, hWE⟩ : ∃ WE, WE = w1.alloc (.cells #[.int .i64 dp, .int .i64 rs, .slice EA m ec] 58) := ⟨_, rfl⟩
 have HS0 : Hid (SmS p (K + 200) w A n c w1.heap.size dp rs (.slice EA m ec) es WE) := by
  subst hWE
  exact ⟨HT1.out.alloc _, HR1.out.alloc _, heap_alloc_new _ _, HE1.out.later (Below.new _ _), HD1.out.later (Below.new _ _)⟩
 have HK3 := Lib.hid (pick_any p (K + 200) 14 WE HS0.out.draw.src (by omega) (by omega))
 clear HD1 HT1 HR1 HE1
 go_wp2_with fail
 rw [← hWE]
 clear hWE
 generalize hqq : w1.heap.size = q at *
 clear hqq
 refine HK3.out.mono ?_
 rintro e w3 ⟨y, rfl, hy, hd⟩
 have hy13 : y ≤ 13 := by omega
 have HS1 := Lib.hid (HS0.out.drawn hd hpw (by omega))
 have hnr : ¬ w.heap.size + 1 = q := by omega
 have hnr' : ¬ q = w.heap.size + 1 := by omega
 clear hd HS0 HK3 hy
 by_cases hy0 : y = 0
 · subst hy0
   have HKP := Lib.hid (pick_any p (K + 200 + 2) 6 w3 HS1.out.draw.src (by omega) (by omega))
   go_wp2_with fail
   refine HKP.out.mono ?_
   rintro e w4 ⟨z, rfl, hz, hd⟩
   have hz5 : z ≤ 5 := by omega
   have HS4 := Lib.hid (HS1.out.drawn hd hpw (by omega))
   clear hd HKP hz
   have b0 := HS4.out.box.cell 0
   have b1 := HS4.out.box.cell 1
   have b2 := HS4.out.box.cell 2
   have g0 := HS4.out.box.frozen 0
   have g1 := HS4.out.box.frozen 1
   have g2 := HS4.out.box.frozen 2
   have bz := HS4.out.box.lt
   have s0 := HS4.out.res.cell 0
   have s1 := HS4.out.res.cell 1
   have s2 := HS4.out.res.cell 2
   have f0 := HS4.out.res.frozen 0
   have f1 := HS4.out.res.frozen 1
   have f2 := HS4.out.res.frozen 2
   have fz := HS4.out.res.lt
   simp at b0 b1 b2 s0 s1 s2
   go_wp2_with fail
   refine bodyPost_ret (v := .agg #[.int .i64 ((z : Int) - 1), .int .i64 rs, .slice EA m ec]) (by simp [results, Tryz.results81, go_sem, s0, s1, s2, hnr, hnr']; try first | exact rfl | exact ⟨rfl, rfl⟩) rfl ?_
   exact ((HS4.out.setD ((z : Int) - 1) hpw hw1).mono (show _ ≤ K + 220 by omega)).finB hpw (⟨show -1 ≤ (z : Int) - 1 by omega, show (z : Int) - 1 ≤ 5 by omega, hx3, hx4, (show es.length ≤ 61 by rw [HM.out]; omega), hx6⟩)
 by_cases hy1 : y = 1
 · subst hy1
   have HKI := Lib.hid (among_any p (K + 200 + 2) w3.heap.size 3 3 [(-1), 4, 5] (w3.alloc (.cells #[.int .i64 (-1), .int .i64 4, .int .i64 5] 2)) (HS1.out.draw.src.later (Below.new _ _)) (by omega) (ints_litQ rfl rfl rfl) (by have := HS1.out.draw.lt; omega) (by omega) (by omega))
   go_wp2_with fail
   refine HKI.out.mono ?_
   rintro e w4 ⟨z, hz, rfl, hd⟩
   have hz5 : z = -1 ∨ z = 4 ∨ z = 5 := by
    simp only [List.mem_cons, List.not_mem_nil, or_false] at hz
    exact hz
   have HS4 := Lib.hid ((HS1.out.later (Below.new w3 (.cells #[.int .i64 (-1), .int .i64 4, .int .i64 5] 2))).drawn hd hpw (by omega))
   clear hd HKI hz
   have b0 := HS4.out.box.cell 0
   have b1 := HS4.out.box.cell 1
   have b2 := HS4.out.box.cell 2
   have g0 := HS4.out.box.frozen 0
   have g1 := HS4.out.box.frozen 1
   have g2 := HS4.out.box.frozen 2
   have bz := HS4.out.box.lt
   have s0 := HS4.out.res.cell 0
   have s1 := HS4.out.res.cell 1
   have s2 := HS4.out.res.cell 2
   have f0 := HS4.out.res.frozen 0
   have f1 := HS4.out.res.frozen 1
   have f2 := HS4.out.res.frozen 2
   have fz := HS4.out.res.lt
   simp at b0 b1 b2 s0 s1 s2
   go_wp2_with fail
   refine bodyPost_ret (v := .agg #[.int .i64 dp, .int .i64 z, .slice EA m ec]) (by simp [results, Tryz.results81, go_sem, s0, s1, s2, hnr, hnr']; try first | exact rfl | exact ⟨rfl, rfl⟩) rfl ?_
   exact ((HS4.out.setR z hpw hw1).mono (show _ ≤ K + 220 by omega)).finB hpw (⟨hx1, hx2, show -1 ≤ z by omega, show z ≤ 5 by omega, (show es.length ≤ 61 by rw [HM.out]; omega), hx6⟩)
 by_cases hy3 : y = 3
 · subst hy3
   have b0 := HS1.out.box.cell 0
   have b1 := HS1.out.box.cell 1
   have b2 := HS1.out.box.cell 2
   have g0 := HS1.out.box.frozen 0
   have g1 := HS1.out.box.frozen 1
   have g2 := HS1.out.box.frozen 2
   have bz := HS1.out.box.lt
   have s0 := HS1.out.res.cell 0
   have s1 := HS1.out.res.cell 1
   have s2 := HS1.out.res.cell 2
   have f0 := HS1.out.res.frozen 0
   have f1 := HS1.out.res.frozen 1
   have f2 := HS1.out.res.frozen 2
   have fz := HS1.out.res.lt
   simp at b0 b1 b2 s0 s1 s2
   go_wp2_with fail
   refine bodyPost_ret (v := .agg #[.int .i64 0, .int .i64 0, .slice none 0 0]) (by simp [results, Tryz.results81, go_sem, s0, s1, s2, hnr, hnr']; try first | exact rfl | exact ⟨rfl, rfl⟩) rfl ?_
   exact (((HS1.out.put (dp' := 0) (rs' := 0) (evsO_nil _ _) hpw hw1)).mono (show _ ≤ K + 220 by omega)).finB hpw (⟨show (-1 : Int) ≤ 0 by omega, show (0 : Int) ≤ 5 by omega, show (-1 : Int) ≤ 0 by omega, show (0 : Int) ≤ 5 by omega, by simp, fun d hd => by cases hd⟩)
 have hyb0 : ((y : Int) == 0) = false := beq_eq_false_iff_ne.2 (by omega)
 have hyb1 : ((y : Int) == 1) = false := beq_eq_false_iff_ne.2 (by omega)
 have hyb3 : ((y : Int) == 3) = false := beq_eq_false_iff_ne.2 (by omega)
 by_cases hy2 : y = 2
 · subst hy2
   clear hyb0 hyb1 hyb3
   obtain ⟨us, hol⟩ := HS1.out.evs
   have HOL := Lib.hid hol
   have HKP := Lib.hid (pick_any p (K + 200 + 2) 17 w3 HS1.out.draw.src (by omega) (by omega))
   have HKP2 := Lib.hid (fun W (hW : Below w3.heap.size w3 W) => pick_any p (K + 200 + 2) 17 W (HS1.out.draw.src.later hW) (by omega) (by omega))
   clear hol
   have q2 := HS1.out.box.cell 2
   have qf := HS1.out.box.frozen 2
   have qz := HS1.out.box.lt
   simp at q2
   go_wp2_with fail
   go_region_law (first
    | (refine step_append_lies _ (by rfl) _ _ _ (by rfl) w.heap.size 55 i0 _ 5 72 Tryz.underlying51 hi hz0 hz1 hz2 rfl (by omega) (.slice EA m ec) m (Own.flat evK es us) (by rfl) (by exact HRA.out)
        ⟨w4.heap.size, 0, none⟩ 1 1 ((#[.int .i64 (z : Int), .string ⟨#[65]⟩, .slice none 0 0, .string ⟨#[]⟩, .int .i64 0] : Array Value).toList) (by rfl) (by rfl) (by exact cells_newN w4 #[.int .i64 (z : Int), .string ⟨#[65]⟩, .slice none 0 0, .string ⟨#[]⟩, .int .i64 0] _) (by simp [Value.oneCell']) (by omega) (by unfold maxLen; omega) (by omega) (by have := HS4.out.draw.chg.size; simp; omega) (w4.heap.size + 1) (by simp) ?_
       intro gg cap' w5 hown5 hg5 hat hlt2
       have HN5 := Lib.hid (Own.OwnL.snoc (d := (⟨(z : Int), ⟨#[65]⟩, [], ⟨#[]⟩, 0⟩ : EvD)) (HO4.out.later (Below.new w4 (.cells #[.int .i64 (z : Int), .string ⟨#[65]⟩, .slice none 0 0, .string ⟨#[]⟩, .int .i64 0] 55))) (Own.sub_nil _ _) (apart_nil us) (by rw [HM.out]; exact hown5) hg5 (by decide))
       have HS5 := Lib.hid ((HS4.out.later (Below.new w4 (.cells #[.int .i64 (z : Int), .string ⟨#[65]⟩, .slice none 0 0, .string ⟨#[]⟩, .int .i64 0] 55))).grown (HO4.out.later (Below.new w4 (.cells #[.int .i64 (z : Int), .string ⟨#[65]⟩, .slice none 0 0, .string ⟨#[]⟩, .int .i64 0] 55))) hg5 HN5.out hpw hw1)
       have hbx := ((HS4.out.later (Below.new w4 (.cells #[.int .i64 (z : Int), .string ⟨#[65]⟩, .slice none 0 0, .string ⟨#[]⟩, .int .i64 0] 55))).box).grown hg5 (fun e => Own.own_blk_ne HRA.out (HS4.out.later (Below.new w4 (.cells #[.int .i64 (z : Int), .string ⟨#[65]⟩, .slice none 0 0, .string ⟨#[]⟩, .int .i64 0] 55))).box (by decide) e.symm)
       have y2 := hbx.cell 2
       have yz := hbx.lt
       have yf := hbx.frozen 2
       simp at y2
       clear hown5 hg5 hbx hat)
    | (go_simp
       go_at_call 118
       refine (HKP2.out _ (Below.refl _ _).drew).mono ?_
       rintro e w4 ⟨z, rfl, hz, hd4'⟩
       have hd4 := hd4'.pre (Below.refl _ w3).drew
       have hz16 : z ≤ 16 := by omega
       have HS4 := Lib.hid ((HS1.out.drawn hd4 hpw (by omega)).mono (show _ ≤ K + 220 by omega))
       have HO4 := Lib.hid (OwnL.drawn HOL.out HS1.out.draw.src hd4 (by decide))
       have j2 := HS4.out.box.cell 2
       have j2' := (HS4.out.box.alloc (.cells #[.int .i64 (z : Int), .string ⟨#[65]⟩, .slice none 0 0, .string ⟨#[]⟩, .int .i64 0] 55)).cell 2
       have jz := HS4.out.box.lt
       simp at j2 j2'
       have HRA : Hid ((w4.alloc (.cells #[.int .i64 (z : Int), .string ⟨#[65]⟩, .slice none 0 0, .string ⟨#[]⟩, .int .i64 0] 55)).ownsRow w.heap.size 55 5 (.slice EA m ec) m (Own.flat evK es us)) := by
        have h := (HO4.out.later (Below.new w4 (.cells #[.int .i64 (z : Int), .string ⟨#[65]⟩, .slice none 0 0, .string ⟨#[]⟩, .int .i64 0] 55))).row
        rw [HM.out] at h
        exact h
       clear hd4 hd4' hz))
   all_goals
    obtain ⟨W8, hW8⟩ : ∃ W8, W8 = w5.setCell ⟨q, 2, none⟩ (.slice (some ⟨gg, 0, none⟩) (m + 1) cap') := ⟨_, rfl⟩
    have HS8 := HS5.out
    rw [← hW8] at HS8
    rw [← hW8]
    have HS8 := Lib.hid HS8
    clear HS5 hW8 y2 yz yf q2 qf qz j2 j2' jz
    have b0 := HS8.out.box.cell 0
    have b1 := HS8.out.box.cell 1
    have b2 := HS8.out.box.cell 2
    have g0 := HS8.out.box.frozen 0
    have g1 := HS8.out.box.frozen 1
    have g2 := HS8.out.box.frozen 2
    have bz := HS8.out.box.lt
    have s0 := HS8.out.res.cell 0
    have s1 := HS8.out.res.cell 1
    have s2 := HS8.out.res.cell 2
    have f0 := HS8.out.res.frozen 0
    have f1 := HS8.out.res.frozen 1
    have f2 := HS8.out.res.frozen 2
    have fz := HS8.out.res.lt
    simp at b0 b1 b2 s0 s1 s2
    go_wp2_with fail
    refine bodyPost_ret (v := .agg #[.int .i64 dp, .int .i64 rs, .slice (some ⟨gg, 0, none⟩) (m + 1) cap']) (by simp [results, Tryz.results81, go_sem, s0, s1, s2, hnr, hnr']; try first | exact rfl | exact ⟨rfl, rfl⟩) rfl ?_
    exact ((HS8.out).mono (show _ ≤ K + 220 by omega)).finB hpw (⟨hx1, hx2, hx3, hx4, fineY_len (by rw [HM.out]; omega), fineY_mem hx6 z⟩)
 · have hyb2 : ((y : Int) == 2) = false := beq_eq_false_iff_ne.2 (by omega)
   have b0 := HS1.out.box.cell 0
   have b1 := HS1.out.box.cell 1
   have b2 := HS1.out.box.cell 2
   have g0 := HS1.out.box.frozen 0
   have g1 := HS1.out.box.frozen 1
   have g2 := HS1.out.box.frozen 2
   have bz := HS1.out.box.lt
   have s0 := HS1.out.res.cell 0
   have s1 := HS1.out.res.cell 1
   have s2 := HS1.out.res.cell 2
   have f0 := HS1.out.res.frozen 0
   have f1 := HS1.out.res.frozen 1
   have f2 := HS1.out.res.frozen 2
   have fz := HS1.out.res.lt
   simp at b0 b1 b2 s0 s1 s2
   go_wp2_with fail
   refine bodyPost_ret (v := .agg #[.int .i64 dp, .int .i64 rs, .slice EA m ec]) (by simp [results, Tryz.results81, go_sem, s0, s1, s2, hnr, hnr']; try first | exact rfl | exact ⟨rfl, rfl⟩) rfl ?_
   exact ((HS1.out).mono (show _ ≤ K + 220 by omega)).finB hpw (⟨hx1, hx2, hx3, hx4, (show es.length ≤ 61 by rw [HM.out]; omega), hx6⟩)
end Go.Proofs.YtgmaamnofhmecaaGreatDoor
namespace Go.Proofs.YtgmaamnofhmecaaGreatDoor
open Go.RowKit
set_option linter.unusedVariables false
set_option linter.unusedSimpArgs false
def DViewPost (w : World) (e : Ending) (w' : World) : Prop := ∃ tv fs v x, e = .returned (.tuple #[.agg #[tv], .agg #[.int .i64 x.depth, .int .i64 x.rest, v]]) ∧ NodesO w' w.heap.size tv fs ∧ treeB fs = true ∧ fineT fs ∧ EvsO w' w.heap.size v x.evs ∧ fineY x ∧ Below w.heap.size w w'
theorem EvsO.chgLow {P : Nat → Prop} {w w' : World} {base : Nat} {v : Value} {fs : List EvD} (h : EvsO w base v fs) (k : Own.Chg P w w') (hP : ∀ g, P g → g < base) : EvsO w' base v fs := h.chg k (fun g hg => .inr (hP g hg))
theorem view_end {w W Y : World} {B : Nat} {tv v : Value} {fs : List NodeD} {x : TransD} {e : Ending} (hY : Own.Chg (fun g => g = w.heap.size ∨ g = w.heap.size + 1) W Y) (hB : w.heap.size + 1 < B) (he : e = .returned (.tuple #[.agg #[tv], .agg #[.int .i64 x.depth, .int .i64 x.rest, v]]))
 (h1 : NodesO W B tv fs) (ht : treeB fs = true ∧ fineT fs) (h3 : EvsO W B v x.evs) (hx : fineY x) (hb : Below w.heap.size w W) : DViewPost w e Y := by
 have hP : ∀ g, (g = w.heap.size ∨ g = w.heap.size + 1) → g < B := fun g hg => by omega
 exact ⟨tv, fs, v, x, he, (h1.chgLow hY hP).base (by omega), ht.1, ht.2, (h3.chgLow hY hP).base (by omega), hx, Own.Chg.below hb hY (fun g hg => by omega) (Nat.le_refl _)⟩
theorem chg4 {w W : World} (u a b c : Value) : Own.Chg (fun g => g = w.heap.size ∨ g = w.heap.size + 1) W ((((W.setCell ⟨w.heap.size, 0, none⟩ u).setCell ⟨w.heap.size + 1, 0, none⟩ a).setCell ⟨w.heap.size + 1, 1, none⟩ b).setCell ⟨w.heap.size + 1, 2, none⟩ c) := chgS (chgS (chgS (chgS (Own.Chg.refl _ _) (.inl rfl)) (.inr rfl)) (.inr rfl)) (.inr rfl)
set_option maxRecDepth 100000 in
set_option maxHeartbeats 16000000 in
theorem DrawViewOf_any (A : Option Addr) (n c : Nat) (w : World) (h : BytesR w w.heap.size A n) (hn : n ≤ 1048576) :
 Calls Tryz.prog 31 #[.slice A n c] w (DViewPost w) := by
 obtain ⟨WB, hWB⟩ : ∃ WB, WB = (w.alloc (.cells #[.slice none 0 0] 26)).alloc (.cells #[.int .i64 0, .int .i64 0, .slice none 0 0] 58) := ⟨_, rfl⟩
 have HBB : Hid (Below w.heap.size w WB) := by subst hWB; exact (Below.new _ _).later (Below.new _ _)
 have HR2 : Hid (Blk WB w.heap.size 26 #[.slice none 0 0]) := by subst hWB; exact heap_two0 _ _ _
 have HR4 : Hid (Blk WB (w.heap.size + 1) 58 #[.int .i64 0, .int .i64 0, .slice none 0 0]) := by subst hWB; exact heap_two1 _ _ _
 have HK1 := Lib.hid (l00FromS_any A n c WB (BytesR.laterS h HBB.out) hn)
 have hp3 : WB.heap.size = w.heap.size + 1 + 1 := by subst hWB; simp
 clear h hn
 go_enter Tryz.func31, Tryz.ntmps31
 go_wp2_with fail
 rw [← hWB]
 clear hWB
 refine HK1.out.mono ?_
 rintro e w1 ⟨rfl, hs1, hb1⟩
 rw [hp3] at hs1 hb1 ⊢
 have HB1 := Lib.hid (HBB.out.trans (hb1.mono (by omega)))
 have HA2 := Lib.hid (Blk.later HR2.out (hb1.mono (Nat.le_of_eq hp3)) HR2.out.lt)
 have HA4 := Lib.hid (Blk.later HR4.out (hb1.mono (Nat.le_of_eq hp3)) HR4.out.lt)
 have hw1 : w.heap.size + 1 + 1 < w1.heap.size := hs1.lt
 generalize hp : w.heap.size + 1 + 1 = p at *
 have HS1 := Lib.hid hs1
 have HK2 := Lib.hid (l25DrawC_any p 0 w1 hs1 (by omega))
 clear hs1 hb1 HK1 HR2 HR4 HBB hp3
 go_wp2_with fail
 refine HK2.out.mono ?_
 rintro e w2 ⟨tv, fs, rfl, hT, htr, hfi, hd⟩
 obtain ⟨A1, cap1, rfl, hcap1, hN2⟩ := hT.reads
 have HT2 := Lib.hid hT
 have HD2 := Lib.hid hd
 have HTF := Lib.hid (And.intro htr hfi)
 have HE2 := Lib.hid (Blk.drawn HA2.out hd (by omega))
 have HE4 := Lib.hid (Blk.drawn HA4.out hd (by omega))
 have hw2 := hd.chg.size
 clear hT htr hfi hd HK2 HA2 HA4
 obtain ⟨WX, hWX⟩ : ∃ WX, WX = w2.alloc (.cells #[.slice A1 fs.length cap1] 26) := ⟨_, rfl⟩
 have HX : Hid (Blk WX w2.heap.size 26 #[.slice A1 fs.length cap1]) := by subst hWX; exact heap_alloc_new _ _
 have HDX : Hid (Drawn p (0 + 100) w1 WX) := by subst hWX; exact HD2.out.later (Below.new _ _)
 have HTX : Hid (NodesO WX w1.heap.size (.slice A1 fs.length cap1) fs) := by subst hWX; exact HT2.out.later (Below.new _ _)
 have HNX : Hid (Nodes WX WX.heap.size A1 fs.length fs) := by subst hWX; exact hN2.later (Below.new _ _)
 have HX2 : Hid (Blk WX w.heap.size 26 #[.slice none 0 0]) := by subst hWX; exact HE2.out.alloc _
 have HX4 : Hid (Blk WX (w.heap.size + 1) 58 #[.int .i64 0, .int .i64 0, .slice none 0 0]) := by subst hWX; exact HE4.out.alloc _
 have hwx := HX.out.lt
 have HKB := Lib.hid (fun W (hW : Below WX.heap.size WX W) => l25Bent_any p (0 + 100) A1 fs.length cap1 fs W (HDX.out.src.later hW) (by omega) (HNX.out.later hW) hcap1 HTF.out.1 HTF.out.2)
 have x0 := HX.out.cell 0
 simp at x0
 clear HT2 HD2 HE2 HE4 hN2
 go_upto_region 3 with fail
 rw [← hWX]
 clear hWX
 go_region_law (first
  | (go_simp
     go_at_call 81
     refine (HKB.out _ (Below.refl _ _).drew).mono ?_
     rintro e w3 ⟨v, x, rfl, hev, hx, hd3'⟩
     obtain ⟨EA, ec, rfl, _, _⟩ := hev.reads
     have hd3 := hd3'.pre (Below.refl _ WX).drew
     have HEV := Lib.hid hev
     have HFY := Lib.hid hx
     have HD3 := Lib.hid (HDX.out.trans hd3)
     have HT3 := Lib.hid (HTX.out.drawn HDX.out.src hd3)
     have H32 := Lib.hid (Blk.drawn HX2.out hd3 (by omega))
     have H34 := Lib.hid (Blk.drawn HX4.out hd3 (by omega))
     have H3X := Lib.hid (Blk.drawn HX.out hd3 (by omega))
     have y0 := H3X.out.cell 0
     have r2 := H32.out.cell 0
     have r4 := H34.out.cell 0
     have r5 := H34.out.cell 1
     have r6 := H34.out.cell 2
     have f2 := H32.out.frozen 0
     have f4 := H34.out.frozen 0
     have f5 := H34.out.frozen 1
     have f6 := H34.out.frozen 2
     have l2 := H32.out.lt
     have l4 := H34.out.lt
     have hn24 : ¬ w.heap.size = w.heap.size + 1 := by omega
     have hn42 : ¬ w.heap.size + 1 = w.heap.size := by omega
     have hn2x : ¬ w.heap.size = w2.heap.size := by omega
     have hnx2 : ¬ w2.heap.size = w.heap.size := by omega
     have hn4x : ¬ w.heap.size + 1 = w2.heap.size := by omega
     have hnx4 : ¬ w2.heap.size = w.heap.size + 1 := by omega
     simp at r2 r4 r5 r6 y0
     clear hev hx hd3 hd3'))
 all_goals
  have HBL := Lib.hid (Own.Chg.below HB1.out HD3.out.chg (fun g e => by rw [e, ← hp]; omega) (Nat.le_refl _))
  go_wp2_with fail
  refine bodyPost_ret (v := .tuple #[.agg #[.slice A1 fs.length cap1], .agg #[.int .i64 x.depth, .int .i64 x.rest, .slice EA x.evs.length ec]]) (by simp [results, Tryz.results31, go_sem, r2, r4, r5, r6, hn24, hn42]) rfl ?_
  have hc := chg4 (w := w) (W := w3) (.slice A1 fs.length cap1) (.int .i64 x.depth) (.int .i64 x.rest) (.slice EA x.evs.length ec)
  have hbe : w1.heap.size ≤ WX.heap.size := by omega
  have hev : EvsO w3 w1.heap.size (.slice EA x.evs.length ec) x.evs := HEV.out.base hbe
  exact view_end (w := w) (W := w3) (B := w1.heap.size) (x := x) (tv := .slice A1 fs.length cap1) (v := .slice EA x.evs.length ec) (fs := fs) hc (by omega) rfl HT3.out HTF.out hev HFY.out HBL.out
end Go.Proofs.YtgmaamnofhmecaaGreatDoor
namespace Go.Proofs.YtgmaamnofhmecaaGreatDoor
open Go.RowKit
set_option linter.unusedVariables false
def sameNb (a b : NodeD) : Bool := decide (a.name = b.name) && (decide (a.val = b.val) && decide (a.subs = b.subs))
theorem sameNb_iff {a b : NodeD} : sameNb a b = true ↔ a = b := by
 unfold sameNb
 simp only [Bool.and_eq_true, decide_eq_true_eq]
 exact ⟨fun ⟨h0, h1, h2⟩ => NodeD.ext_ h0 h2 h1, fun h => by subst h; simp⟩
def eqTr : List NodeD → List NodeD → Bool
 | [], [] => true
 | a :: r, b :: s => sameNb a b && eqTr r s
 | _, _ => false
theorem eqTr_iff : ∀ (l m : List NodeD), eqTr l m = decide (l = m)
 | [], [] => by simp [eqTr]
 | [], b :: s => by simp [eqTr]
 | a :: r, [] => by simp [eqTr]
 | a :: r, b :: s => by
   unfold eqTr
   rw [eqTr_iff r s, Bool.eq_iff_iff, Bool.and_eq_true, sameNb_iff, decide_eq_true_eq, decide_eq_true_eq, List.cons.injEq]
theorem eqTr_step (l m : List NodeD) (k : Nat) (h : k < l.length) (h' : k < m.length) : eqTr (l.drop k) (m.drop k) = (sameNb (l.getD k default) (m.getD k default) && eqTr (l.drop (k + 1)) (m.drop (k + 1))) := by
 rw [drop_consQ l k h, drop_consQ m k h']
 rfl
set_option maxRecDepth 100000 in
set_option maxHeartbeats 4000000 in
theorem l03SameNode_any (c0 c1 c2 d0 d1 d2 : Value) (a b : NodeD) (w : World) (h : NodeR w w.heap.size c0 c1 c2 a) (h' : NodeR w w.heap.size d0 d1 d2 b) (hsa : a.subs.length ≤ 1048576) (hsb : b.subs.length ≤ 1048576) :
 Calls Tryz.prog 80 #[.agg #[c0, c1, c2], .agg #[d0, d1, d2]] w fun e w' => e = .returned (.bool (sameNb a b)) ∧ Below w.heap.size w w' := by
 obtain ⟨rfl, ⟨S, m, q, rfl, hs, hmq⟩, rfl⟩ := h
 obtain ⟨rfl, ⟨S', m', q', rfl, hs', hmq'⟩, rfl⟩ := h'
 have hm : m ≤ 1048576 := by rw [← hs.1]; exact hsa
 have hm' : m' ≤ 1048576 := by rw [← hs'.1]; exact hsb
 have HK := Lib.hid (fun W (hW : Below w.heap.size w W) => SameSubs_any S S' m q m' q' a.subs b.subs W (hs.later hW) (hs'.later hW) hm hm')
 have HR : Hid (sameNb a b = (decide (a.name = b.name) && (decide (a.val = b.val) && eqS a.subs b.subs))) := rfl
 clear hs hs' hsa hsb
 generalize sameNb a b = R at *
 generalize eqS a.subs b.subs = x at *
 generalize a.name = an at *
 generalize b.name = bn at *
 generalize a.val = av at *
 generalize b.val = bv at *
 go_enter Tryz.func80, Tryz.ntmps80
 by_cases h1 : an = bn
 · subst h1
   by_cases h2 : av = bv
   · subst h2
     have HE : Hid (R = x) := by unfold Hid; rw [HR.out]; simp
     go_wp2_with fail
     refine (HK.out _ ((Below.new _ _).later (Below.new _ _))).mono ?_
     rintro e w1 ⟨rfl, z, rfl⟩
     go_wp2_with fail
     go_ret
     exact ⟨ret_bool HE.out.symm, below_drewN ((Below.new _ _).later (Below.new _ _)) _⟩
   · have hb2 := str_beq h2
     have HE : Hid (R = false) := by unfold Hid; rw [HR.out]; simp [h2]
     clear h2
     go_wp2_with fail
     go_ret
     exact ⟨ret_bool HE.out.symm, (Below.new _ _).later (Below.new _ _)⟩
 · have hb1 := str_beq h1
   have HE : Hid (R = false) := by unfold Hid; rw [HR.out]; simp [h1]
   clear h1
   go_wp2_with fail
   go_ret
   exact ⟨ret_bool HE.out.symm, (Below.new _ _).later (Below.new _ _)⟩
set_option maxRecDepth 100000 in
set_option maxHeartbeats 4000000 in
theorem specSameTree_any (A A' : Option Addr) (n c n' c' : Nat) (fs gs : List NodeD) (w : World) (h : Nodes w w.heap.size A n fs) (h' : Nodes w w.heap.size A' n' gs) (hs : smallNs fs) (hs' : smallNs gs) :
 Calls Tryz.prog 24 #[.agg #[.slice A n c], .agg #[.slice A' n' c']] w fun e w' => e = .returned (.bool (decide (fs = gs))) ∧ Below w.heap.size w w' := by
 have hn : n ≤ 1048576 := by rw [← h.1]; exact hs.1
 have hn' : n' ≤ 1048576 := by rw [← h'.1]; exact hs'.1
 have HR : Hid (decide (fs = gs) = eqTr fs gs) := (eqTr_iff fs gs).symm
 have Hh := Lib.hid h
 have Hh' := Lib.hid h'
 have Hl := Lib.hid h.1
 have Hl' := Lib.hid h'.1
 have Hs := Lib.hid hs.2
 have Hs' := Lib.hid hs'.2
 clear h h' hs hs'
 generalize decide (fs = gs) = R at *
 have HB0 : Hid (Below w.heap.size w ((w.alloc (.cells #[.slice A n c] 26)).alloc (.cells #[.slice A' n' c'] 26))) := (Below.new _ _).later (Below.new _ _)
 have HX0 : Hid (Blk ((w.alloc (.cells #[.slice A n c] 26)).alloc (.cells #[.slice A' n' c'] 26)) w.heap.size 26 #[.slice A n c]) := heap_two0 _ _ _
 have HY0 : Hid (Blk ((w.alloc (.cells #[.slice A n c] 26)).alloc (.cells #[.slice A' n' c'] 26)) (w.heap.size + 1) 26 #[.slice A' n' c']) := heap_two1 _ _ _
 by_cases hne : n = n'
 · subst hne
   have hbn : ((n : Int) != (n : Int)) = false := by simp
   go_enter Tryz.func24, Tryz.ntmps24
   go_wp2_with fail
   generalize ((w.alloc (.cells #[.slice A n c] 26)).alloc (.cells #[.slice A' n c'] 26)) = WB at *
   go_loopw [5] (fun i wr => ∃ k : Nat, k ≤ n ∧ i = .int .i64 k ∧ Hid (Below WB.heap.size WB wr) ∧ Hid (R = eqTr (fs.drop k) (gs.drop k))) (fun i _ => n - (intOf i).toNat)
   case atStart => exact ⟨0, Nat.zero_le _, rfl, Below.refl _ _, by unfold Hid; rw [List.drop_zero, List.drop_zero]; exact HR.out⟩
   case round =>
    obtain ⟨k, hk, rfl, HBr, hS⟩ := hrel
    have HB := Lib.hid (HB0.out.later HBr.out)
    have x0 := (HX0.out.later HBr.out HX0.out.lt).cell 0
    have y0 := (HY0.out.later HBr.out HY0.out.lt).cell 0
    simp at x0 y0
    by_cases hlt : k < n
    · obtain ⟨b, o, rfl, hbB, hcell⟩ := (Hh.out.later HB.out).2 (by omega)
      obtain ⟨b', o', rfl, hbB', hcell'⟩ := (Hh'.out.later HB.out).2 (by omega)
      obtain ⟨c0, c1, c2, k0, k1, k2, hr⟩ := hcell k hlt
      obtain ⟨d0, d1, d2, j0, j1, j2, hr'⟩ := hcell' k hlt
      clear hcell hcell'
      have hl : k < fs.length := by rw [Hl.out]; exact hlt
      have hl' : k < gs.length := by rw [Hl'.out]; exact hlt
      have HS := Lib.hid (eqTr_step fs gs k hl hl')
      have HK := Lib.hid (fun W (hW : Below wr.heap.size wr W) => l03SameNode_any c0 c1 c2 d0 d1 d2 (fs.getD k default) (gs.getD k default) W (hr.later hW) (hr'.later hW) (Hs.out _ (getD_memQ fs k hl)).2.1.1 (Hs'.out _ (getD_memQ gs k hl')).2.1.1)
      clear hl hl'
      generalize fs.getD k default = s at *
      generalize gs.getD k default = t at *
      generalize hx : sameNb s t = x at *
      have HX := Lib.hid hx
      clear hx
      obtain ⟨rfl, ⟨S, m, q, rfl, _, _⟩, rfl⟩ := hr
      obtain ⟨rfl, ⟨S', m', q', rfl, _, _⟩, rfl⟩ := hr'
      have HSS : Hid (∀ W, Below wr.heap.size wr W → (W.cell? ⟨w.heap.size, 0, none⟩ = some (.slice (some ⟨b, o, none⟩) n c) ∧ W.cell? ⟨w.heap.size + 1, 0, none⟩ = some (.slice (some ⟨b', o', none⟩) n c') ∧ W.cell? ⟨b, o + k * 3, none⟩ = some (.string s.name) ∧ W.cell? ⟨b, o + k * 3 + 1, none⟩ = some (.slice S m q) ∧ W.cell? ⟨b, o + k * 3 + 2, none⟩ = some (.string s.val) ∧ W.cell? ⟨b', o' + k * 3, none⟩ = some (.string t.name) ∧ W.cell? ⟨b', o' + k * 3 + 1, none⟩ = some (.slice S' m' q') ∧ W.cell? ⟨b', o' + k * 3 + 2, none⟩ = some (.string t.val))) := fun W hW => ⟨cell_later hW x0, cell_later hW y0, cell_later hW k0, cell_later hW k1, cell_later hW k2, cell_later hW j0, cell_later hW j1, cell_later hW j2⟩
      go_wp2_with fail
      go_region_held3 (fun W => W.cell? ⟨w.heap.size, 0, none⟩ = some (.slice (some ⟨b, o, none⟩) n c) ∧ W.cell? ⟨w.heap.size + 1, 0, none⟩ = some (.slice (some ⟨b', o', none⟩) n c') ∧ W.cell? ⟨b, o + k * 3, none⟩ = some (.string s.name) ∧ W.cell? ⟨b, o + k * 3 + 1, none⟩ = some (.slice S m q) ∧ W.cell? ⟨b, o + k * 3 + 2, none⟩ = some (.string s.val) ∧ W.cell? ⟨b', o' + k * 3, none⟩ = some (.string t.name) ∧ W.cell? ⟨b', o' + k * 3 + 1, none⟩ = some (.slice S' m' q') ∧ W.cell? ⟨b', o' + k * 3 + 2, none⟩ = some (.string t.val))
       (first | exact HSS.out _ (Below.refl _ _).drew | exact HSS.out _ HB2.out | go_keep)
       ((go_at_call 80
         refine (HK.out _ (by exact (Below.refl _ _).drew)).mono ?_
         rintro e w2 ⟨rfl, hb2'⟩
         have HB2 := Lib.hid (undrew hb2')
         clear hb2'))
      have HB3 := Lib.hid (HBr.out.later HB2.out)
      clear x0 y0 k0 k1 k2 j0 j1 j2
      cases x
      · go_wp2_with fail
        go_ret
        exact ⟨ret_bool (by rw [hS.out, HS.out]; rfl), HB0.out.later HB3.out⟩
      · go_wp2_with fail
        go_roundw
        case rel => exact ⟨k + 1, by omega, by go_num, HB3.out, by unfold Hid; rw [hS.out, HS.out, Bool.true_and]⟩
        case measure => simp [intOf]; omega
    · have HE : Hid (R = true) := by unfold Hid; rw [hS.out, List.drop_of_length_le (by rw [Hl.out]; omega), List.drop_of_length_le (by rw [Hl'.out]; omega)]; rfl
      go_wp2_with fail
      go_ret
      exact ⟨ret_bool HE.out.symm, HB.out⟩
 · have HE : Hid (R = false) := by
    unfold Hid
    rw [HR.out, eqTr_iff]
    exact decide_eq_false (fun e => hne (by rw [← Hl.out, ← Hl'.out, e]))
   have hbn : ((n : Int) != (n' : Int)) = true := by simp; omega
   have hbn2 : ((n : Int) == (n' : Int)) = false := by simp; omega
   go_enter Tryz.func24, Tryz.ntmps24
   go_wp2_with fail
   go_ret
   exact ⟨ret_bool HE.out.symm, HB0.out⟩
end Go.Proofs.YtgmaamnofhmecaaGreatDoor
