import Derived.Test.YtgmaamnofhmecaaGreatDoorZ33
import Derived.Test.YtgmaamnofhmecaaGreatDoorZ35
import Derived.Test.YtgmaamnofhmecaaGreatDoorZ30
set_option linter.unusedSimpArgs false
namespace Go.Proofs.YtgmaamnofhmecaaGreatDoor
open Go.RowKit
set_option linter.unusedVariables false
set_option linter.unusedSimpArgs false
def fineE (d : EvD) : Prop := goodE d ∧ (turnsB d = true → ∀ s ∈ d.subs, fineS s)
theorem doAll_fine : ∀ (l : List EvD) (fs : List NodeD), fineT fs → (∀ d ∈ l, fineE d) → fineT (doAllB fs (chgsOf l)).2
 | [], fs, h, _ => h
 | e :: r, fs, h, he => by
   have hr : ∀ d ∈ r, fineE d := fun x hx => he x (List.mem_cons_of_mem _ hx)
   by_cases ht : turnsB e = true
   · have e1 : chgsOf (e :: r) = chgOf e :: chgsOf r := by unfold chgsOf; rw [List.filter_cons_of_pos ht]; rfl
     have h1 := he e (by simp)
     rw [e1]
     unfold doAllB
     split
     · exact doAll_fine r _ (fine_doOne h (h1.2 ht) h1.1.1.2) hr
     · exact fine_nil
   · have e1 : chgsOf (e :: r) = chgsOf r := by unfold chgsOf; rw [List.filter_cons_of_neg ht]
     rw [e1]
     exact doAll_fine r fs h hr
theorem view_fine {fs : List NodeD} {l : List EvD} (h : fineT fs) (he : ∀ d ∈ l, fineE d) : fineT (viewB fs l).2 := by
 unfold viewB doChangesB
 split
 · split
   · exact fine_nil
   · exact doAll_fine l fs h he
 · exact fine_nil
def fineX (x : TransD) : Prop := -1 ≤ x.depth ∧ x.depth ≤ 5 ∧ -1 ≤ x.rest ∧ x.rest ≤ 5 ∧ x.evs.length ≤ 60 ∧ ∀ d ∈ x.evs, fineE d
theorem fine_okEs {l : List EvD} (hl : l.length ≤ 70) (h : ∀ d ∈ l, fineE d) : okEs l ∧ cleanEs l ∧ smallEs l := ⟨⟨by omega, fun d hd => (h d hd).1.1⟩, fun d hd => (h d hd).1.2, by omega, fun d hd => (h d hd).1.1.1⟩
theorem noteEv_fine {fs : List NodeD} {x : TransD} {d : EvD} (h : (noteEvB fs x d).1 = 0) : (noteEvB fs x d).2 = ⟨x.depth, x.rest, x.evs ++ [d]⟩ ∧ x.evs.length < 60 := by
 unfold noteEvB at h ⊢
 split at h
 · cases h
 · next h1 =>
   rw [if_neg h1]
   split at h
   · cases h
   · next h2 =>
     rw [if_neg h2]
     split at h
     · cases h
     · next h3 =>
       rw [if_neg h3]
       split at h
       · next h4 => exact absurd h h4
       · next h4 =>
         rw [if_neg h4]
         split at h
         · cases h
         · next h5 =>
           rw [if_neg h5]
           split at h
           · next h6 => exact absurd h h6.2
           · next h6 =>
             rw [if_neg h6]
             exact ⟨rfl, by omega⟩
theorem noteEv_fineX {fs : List NodeD} {x : TransD} {d : EvD} (hx : fineX x) (hd : fineE d) (h : (noteEvB fs x d).1 = 0) : fineX (noteEvB fs x d).2 := by
 obtain ⟨e, hl⟩ := noteEv_fine h
 rw [e]
 obtain ⟨h1, h2, h3, h4, h5, h6⟩ := hx
 refine ⟨h1, h2, h3, h4, ?_, fun b hb => ?_⟩
 · show (x.evs ++ [d]).length ≤ 60
   rw [List.length_append]
   simp
   omega
 · rcases List.mem_append.1 hb with h7 | h7
   · exact h6 b h7
   · rw [List.mem_singleton] at h7; subst h7; exact hd
def DTrans (p K : Nat) (w : World) (e : Ending) (w' : World) : Prop := ∃ v x, e = .returned (.agg #[.int .i64 x.depth, .int .i64 x.rest, v]) ∧ EvsO w' w.heap.size v x.evs ∧ fineX x ∧ Drawn p K w w'
structure SmS (p K : Nat) (w : World) (A : Option Addr) (n c q : Nat) (dp rs : Int) (ev : Value) (es : List EvD) (X : World) : Prop where
 tre : Blk X w.heap.size 26 #[.slice A n c]
 res : Blk X (w.heap.size + 1) 58 #[.int .i64 0, .int .i64 0, .slice none 0 0]
 box : Blk X q 58 #[.int .i64 dp, .int .i64 rs, ev]
 evs : EvsO X w.heap.size ev es
 draw : Drawn p K w X
section
variable {p K K' n c q : Nat} {w X Y : World} {A : Option Addr} {dp rs : Int} {ev : Value} {es : List EvD}
theorem SmS.later (s : SmS p K w A n c q dp rs ev es X) (hb : Below X.heap.size X Y) : SmS p K w A n c q dp rs ev es Y := ⟨s.tre.later hb s.tre.lt, s.res.later hb s.res.lt, s.box.later hb s.box.lt, s.evs.later hb, s.draw.later hb⟩
theorem SmS.drawn (s : SmS p K w A n c q dp rs ev es X) (hd : Drawn p K' X Y) (hp : p < w.heap.size) (hq : w.heap.size ≤ q) : SmS p K' w A n c q dp rs ev es Y :=
 ⟨Blk.drawn s.tre hd (by omega), Blk.drawn s.res hd (by omega), Blk.drawn s.box hd (by omega), s.evs.drawn s.draw.src hd, s.draw.trans hd⟩
theorem SmS.mono (s : SmS p K w A n c q dp rs ev es X) (hK : K ≤ K') : SmS p K' w A n c q dp rs ev es X := ⟨s.tre, s.res, s.box, s.evs, s.draw.mono hK⟩
theorem SmS.put (s : SmS p K w A n c q dp rs ev es X) {dp' rs' : Int} {ev' : Value} {es' : List EvD} (h : EvsO X w.heap.size ev' es') (hp : p < w.heap.size) (hq : w.heap.size + 1 < q) : SmS p K w A n c q dp' rs' ev' es' (((X.setCell ⟨q, 0, none⟩ (.int .i64 dp')).setCell ⟨q, 1, none⟩ (.int .i64 rs')).setCell ⟨q, 2, none⟩ ev') := by
 have h1 := s.box.set_ 0 (.int .i64 dp')
 have h2 := h1.set_ 1 (.int .i64 rs')
 have h3 := h2.set_ 2 ev'
 refine ⟨((s.tre.far (p := ⟨q, 0, none⟩) (show w.heap.size ≠ q by omega) _).far (p := ⟨q, 1, none⟩) (show w.heap.size ≠ q by omega) _).far (p := ⟨q, 2, none⟩) (show w.heap.size ≠ q by omega) _, ((s.res.far (p := ⟨q, 0, none⟩) (show w.heap.size + 1 ≠ q by omega) _).far (p := ⟨q, 1, none⟩) (show w.heap.size + 1 ≠ q by omega) _).far (p := ⟨q, 2, none⟩) (show w.heap.size + 1 ≠ q by omega) _, by simpa using h3, ((h.setBlk s.box (by decide) (by decide)).setBlk h1 (by decide) (by decide)).setBlk h2 (by decide) (by decide), ((s.draw.set (show w.heap.size ≤ q by omega) hp 0 _).set (show w.heap.size ≤ q by omega) hp 1 _).set (show w.heap.size ≤ q by omega) hp 2 _⟩
theorem SmS.fin (s : SmS p K w A n c q dp rs ev es X) (hp : p < w.heap.size) (hx : fineX ⟨dp, rs, es⟩) : DTrans p K w (.returned (.agg #[.int .i64 dp, .int .i64 rs, ev])) (set3 X (w.heap.size + 1) (.int .i64 dp) (.int .i64 rs) ev) := by
 have h1 := s.res.set_ 0 (.int .i64 dp)
 have h2 := h1.set_ 1 (.int .i64 rs)
 exact ⟨ev, ⟨dp, rs, es⟩, rfl, ((s.evs.setBlk s.res (by decide) (by decide)).setBlk h1 (by decide) (by decide)).setBlk h2 (by decide) (by decide), hx, ((s.draw.set (show w.heap.size ≤ w.heap.size + 1 by omega) hp 0 _).set (show w.heap.size ≤ w.heap.size + 1 by omega) hp 1 _).set (show w.heap.size ≤ w.heap.size + 1 by omega) hp 2 _⟩
end
theorem dw_set {p g i : Nat} {a b : World} {u : Value} (h : DrW p a b) (hg : a.heap.size ≤ g) (hp : p < a.heap.size) : DrW p a (b.setCell ⟨g, i, none⟩ u) := by
 obtain ⟨K, h⟩ := h
 exact ⟨K, h.set hg hp i u⟩
theorem DTrans.later {p K : Nat} {w W Y : World} {e : Ending} (h : DTrans p K w e W) (hb : Below W.heap.size W Y) : DTrans p K w e Y := by
 obtain ⟨v, x, h1, h2, h3, h4⟩ := h
 exact ⟨v, x, h1, h2.later hb, h3, h4.later hb⟩
set_option maxRecDepth 100000 in
set_option maxHeartbeats 16000000 in
theorem l25Some_any (p K : Nat) (A : Option Addr) (n c : Nat) (fs : List NodeD) (w : World) (h : SrcR w p K) (hK : K ≤ 68719476736) (hN : Nodes w w.heap.size A n fs) (hnc : n ≤ c) (ht : treeB fs = true) (hf : fineT fs) :
 Calls Tryz.prog 154 #[.pointer (some ⟨p, 0, none⟩), .agg #[.slice A n c]] w (DTrans p (K + 200) w) := by
 have hpw := h.lt
 have hts := tree_small ht
 have HRN : Hid (∀ K' W, Drawn p K' w W → Nodes W W.heap.size A n fs) := fun K' W hd => h.reads_nodes hN hd
 have HCL := Lib.hid (fine_clean hf)
 have HFI := Lib.hid hf
 obtain ⟨WB, hWB⟩ : ∃ WB, WB = ((w.alloc (.cells #[.slice A n c] 26)).alloc (.cells #[.int .i64 0, .int .i64 0, .slice none 0 0] 58)).alloc (.cells #[.int .i64 1, .int .i64 1, .int .i64 1, .int .i64 2, .int .i64 3] 2) := ⟨_, rfl⟩
 have HBB : Hid (Below w.heap.size w WB) := by subst hWB; exact below_new3 w _ _ _
 have HT0 : Hid (Blk WB w.heap.size 26 #[.slice A n c]) := by subst hWB; exact heap_new0 _ _ _ _
 have HR0 : Hid (Blk WB (w.heap.size + 1) 58 #[.int .i64 0, .int .i64 0, .slice none 0 0]) := by subst hWB; exact heap_new1 _ _ _ _
 have HI0 : Hid (Ints WB WB.heap.size (some ⟨w.heap.size + 1 + 1, 0, none⟩) 5 [1, 1, 1, 2, 3]) := by subst hWB; exact ints_litQ (by simp) rfl rfl
 have HK1 := Lib.hid (among_any p K (w.heap.size + 1 + 1) 5 5 [1, 1, 1, 2, 3] WB (h.later HBB.out) (by omega) HI0.out (by omega) (by omega) (by omega))
 have hwb := HR0.out.lt
 clear h hN ht hf
 go_enter Tryz.func154, Tryz.ntmps154
 go_wp2_with fail
 rw [← hWB]
 clear hWB
 refine HK1.out.mono ?_
 rintro e w1 ⟨dp, hdp, rfl, hd⟩
 have hdp' : 1 ≤ dp ∧ dp ≤ 3 := by
  simp only [List.mem_cons, List.not_mem_nil, or_false] at hdp
  omega
 have HD1 := Lib.hid (hd.pre HBB.out)
 have HT1 := Lib.hid (Blk.drawn HT0.out hd (by omega))
 have HR1 := Lib.hid (Blk.drawn HR0.out hd (by omega))
 have hw1 : w.heap.size + 1 < w1.heap.size := Nat.lt_of_lt_of_le hwb hd.chg.size
 have HK2 := Lib.hid (pick_any p (K + 2) 3 w1 HD1.out.src (by omega) (by omega))
 clear hd HT0 HR0 HI0 HK1 HBB hwb hdp
 go_wp2_with fail
 refine HK2.out.mono ?_
 rintro e w2 ⟨rs, rfl, hrs, hd⟩
 have hrs' : rs ≤ 2 := by omega
 have HD2 := Lib.hid (HD1.out.trans hd)
 have HT2 := Lib.hid (Blk.drawn HT1.out hd (by omega))
 have HR2 := Lib.hid (Blk.drawn HR1.out hd (by omega))
 have hw2 : w.heap.size + 1 < w2.heap.size := Nat.lt_of_lt_of_le hw1 hd.chg.size
 clear hd HT1 HR1 HD1 HK2 hrs hw1
 obtain ⟨WE, hWE⟩ : ∃ WE, WE = w2.alloc (.cells #[.int .i64 dp, .int .i64 rs, .slice none 0 0] 58) := ⟨_, rfl⟩
 have HS0 : Hid (SmS p (K + 4) w A n c w2.heap.size dp rs (.slice none 0 0) [] WE) := by
  subst hWE
  exact ⟨HT2.out.alloc _, HR2.out.alloc _, heap_alloc_new _ _, evsO_nil _ _, (HD2.out.mono (by omega)).later (Below.new _ _)⟩
 have HK3 := Lib.hid (pick_any p (K + 4) 7 WE HS0.out.draw.src (by omega) (by omega))
 clear HD2 HT2 HR2
 go_wp2_with fail
 rw [← hWE]
 clear hWE
 generalize hqq : w2.heap.size = q at *
 clear hqq
 refine HK3.out.mono ?_
 rintro e w3 ⟨x, rfl, hx, hd⟩
 have hx6 : x ≤ 6 := by omega
 have HS1 := Lib.hid (HS0.out.drawn hd hpw (by omega))
 have hrsi : ∃ z : Int, z = (rs : Int) ∧ -1 ≤ z ∧ z ≤ 5 := ⟨rs, rfl, by omega, by omega⟩
 clear hd HS0 HK3 hx
 go_wp2_with fail
 go_loopw [6] (fun kv wr => ∃ (k : Nat) (dp rs : Int) (ev : Value) (es : List EvD), kv = .int .i64 k ∧ k ≤ 6 ∧ Hid (SmS p (K + 6 + 16 * (6 - k)) w A n c q dp rs ev es wr) ∧ Hid (fineX ⟨dp, rs, es⟩)) (fun kv _ => (intOf kv).toNat)
 case atStart => exact ⟨x, dp, rs, _, [], rfl, hx6, HS1.out.mono (by omega), by show -1 ≤ dp; omega, by show dp ≤ 5; omega, by show -1 ≤ (rs : Int); omega, by show (rs : Int) ≤ 5; omega, by simp, fun d hd => by cases hd⟩
 case round =>
  obtain ⟨k, dp, rs, ev, es, rfl, hk, HS, HX⟩ := hrel
  clear HS1 hdp' hrs' hrsi
  obtain ⟨EA, ec, rfl, hec, _⟩ := HS.out.evs.reads
  generalize hm : es.length = m at *
  have HM := Lib.hid hm
  clear hm
  have hwr := HS.out.draw.chg.size
  have b0 := HS.out.box.cell 0
  have b1 := HS.out.box.cell 1
  have b2 := HS.out.box.cell 2
  have bz := HS.out.box.lt
  have t0 := HS.out.tre.cell 0
  have tz := HS.out.tre.lt
  have s0 := HS.out.res.cell 0
  have s1 := HS.out.res.cell 1
  have s2 := HS.out.res.cell 2
  have f0 := HS.out.res.frozen 0
  have f1 := HS.out.res.frozen 1
  have f2 := HS.out.res.frozen 2
  have fz := HS.out.res.lt
  simp at b0 b1 b2 t0 s0 s1 s2
  by_cases hk0 : 0 < k
  · obtain ⟨hx1, hx2, hx3, hx4, hx5, hx6'⟩ := HX.out
    dsimp only at hx1 hx2 hx3 hx4 hx5 hx6'
    have hfo := fine_okEs (Nat.le_trans hx5 (by decide)) hx6'
    have hki : (0 : Int) < (k : Int) := by omega
    have hKb : K + 6 + 16 * (6 - k) + 16 ≤ K + 6 + 16 * (6 - (k - 1)) := by omega
    have hKc : K + 6 + 16 * (6 - k) ≤ 137438953472 := by omega
    have hKd : K + 6 + 16 * (6 - k) + 16 ≤ K + 200 := by omega
    generalize K + 6 + 16 * (6 - k) = KK at *
    have HEV : Hid (∀ W, EvsO W w.heap.size (.slice EA m ec) es → Evs W W.heap.size EA m es) := fun W ho => by
     obtain ⟨A', c', e', _, hr⟩ := ho.reads
     injection e' with e1 e2 e3
     subst e1
     rw [HM.out] at hr
     exact hr
    have HKV := Lib.hid (l25View_any A n c EA m ec fs es wr (HRN.out _ wr HS.out.draw) hts (HEV.out wr HS.out.evs) hfo.2.2)
    have HVT : Hid ((viewB fs es).1 = 0 → treeB (viewB fs es).2 = true ∧ fineT (viewB fs es).2) := fun h0 => ⟨doChanges_tree h0, view_fine HFI.out hx6'⟩
    go_wp2_with fail
    refine HKV.out.mono ?_
    rintro e w4 ⟨v4, rfl, hn4, hb4⟩
    generalize viewB fs es = VB at *
    obtain ⟨vcode, gs⟩ := VB
    dsimp only at HVT hn4
    obtain ⟨A6, cap6, rfl, hcap6, hNv⟩ := hn4.reads
    have HS4 := Lib.hid (HS.out.later hb4)
    obtain ⟨W5, hW5⟩ : ∃ W5, W5 = w4.alloc (.cells #[.slice A6 gs.length cap6] 26) := ⟨_, rfl⟩
    have HS5 : Hid (SmS p KK w A n c q dp rs (.slice EA m ec) es W5) := by subst hW5; exact HS4.out.later (Below.new _ _)
    have HQ5 : Hid (Blk W5 w4.heap.size 26 #[.slice A6 gs.length cap6]) := by subst hW5; exact heap_alloc_new _ _
    have HN5 : Hid (Nodes W5 W5.heap.size A6 gs.length gs) := by subst hW5; exact hNv.later (Below.new _ _)
    clear hb4 hn4 hNv HKV b0 b1 b2 bz t0 tz s0 s1 s2 f0 f1 f2 fz
    have b0 := HS4.out.box.cell 0
    have b1 := HS4.out.box.cell 1
    have b2 := HS4.out.box.cell 2
    have bz := HS4.out.box.lt
    have t0 := HS4.out.tre.cell 0
    have tz := HS4.out.tre.lt
    have s0 := HS4.out.res.cell 0
    have s1 := HS4.out.res.cell 1
    have s2 := HS4.out.res.cell 2
    have f0 := HS4.out.res.frozen 0
    have f1 := HS4.out.res.frozen 1
    have f2 := HS4.out.res.frozen 2
    have fz := HS4.out.res.lt
    simp at b0 b1 b2 t0 s0 s1 s2
    by_cases hvc : vcode = 0
    case neg =>
     have hvn : (vcode != (0 : Int)) = true := by simpa using hvc
     go_wp2_with fail
     refine bodyPost_ret (v := .agg #[.int .i64 dp, .int .i64 rs, .slice EA m ec]) (by simp [results, Tryz.results154, go_sem, World.cell?_alloc_lt, fz, s0, s1, s2]; try first | exact rfl | exact ⟨rfl, rfl⟩) rfl ?_
     first
       | exact ((HS4.out.mono (show KK ≤ K + 200 by omega)).fin hpw HX.out).later (Below.new _ _)
       | (rw [← hW5]; exact (HS5.out.mono (show KK ≤ K + 200 by omega)).fin hpw HX.out)
    obtain ⟨hvt, hvf⟩ := HVT.out hvc
    subst hvc
    have hq5 := HS5.out.box.lt
    have hw5 := HQ5.out.lt
    have hwq : w.heap.size ≤ W5.heap.size := HS5.out.draw.chg.size
    have HDZ : Hid (Drawn p KK W5 W5) := Drawn.refl HS5.out.draw.src
    have HS8 : Hid (∀ W', DrW p W5 W' → (W'.cell? ⟨w.heap.size, 0, none⟩ = some (.slice A n c) ∧ W'.cell? ⟨q, 0, none⟩ = some (.int .i64 dp) ∧ W'.cell? ⟨q, 1, none⟩ = some (.int .i64 rs) ∧ W'.cell? ⟨q, 2, none⟩ = some (.slice EA m ec) ∧ W'.cell? ⟨w4.heap.size, 0, none⟩ = some (.slice A6 gs.length cap6))) := fun W' hd' => by
     obtain ⟨K', hd⟩ := hd'
     have h1 := HS5.out.drawn hd hpw (by omega)
     have h2 := Blk.drawn HQ5.out hd (by omega)
     exact ⟨h1.tre.at 0 rfl, h1.box.at 0 rfl, h1.box.at 1 rfl, h1.box.at 2 rfl, h2.at 0 rfl⟩
    have HKN := Lib.hid (fun W (hW : Below W5.heap.size W5 W) => l25Note_any p KK A6 gs.length cap6 gs W (HS5.out.draw.src.later hW) hKc (HN5.out.later hW) hvt hvf)
    have HKE := Lib.hid (fun (d : EvD) (SA : Option Addr) (scap b K' : Nat) W (hd : Drawn p K' W5 W) (hs : Own.SubO W b (.slice SA d.subs.length scap) d.subs) (hg : goodE d) => specNoteEvent_any A n c fs dp rs EA m ec es _ _ _ _ _ d W (HRN.out _ W (HS5.out.draw.trans hd)) hnc hts HCL.out (HEV.out W (HS5.out.evs.drawn HS5.out.draw.src hd)) hfo.1 hfo.2.1 (evr_own hs) hg.1)
    have HNB : Hid (Blk (W5.alloc (.cells #[.int .i64 0, .int .i64 0, .slice none 0 0] 58)) W5.heap.size 58 #[.int .i64 0, .int .i64 0, .slice none 0 0]) := heap_last rfl
    clear b0 b1 b2 bz t0 tz s0 s1 s2 f0 f1 f2 fz
    obtain ⟨b1, b2, b3, b4, b5⟩ := HS8.out _ (dw_of HDZ.out)
    go_upto_region 8 with fail
    rw [← hW5]
    clear hW5
    go_cut [9, 10] (fun yv cv wx => ∃ (qy : Nat) (code dy ry : Int) (vy : Value) (ey : List EvD), yv = .pointer (some ⟨qy, 0, none⟩) ∧ cv = .int .i64 code ∧ Hid (Blk wx qy 58 #[.int .i64 dy, .int .i64 ry, vy]) ∧ Hid (EvsO wx W5.heap.size vy ey) ∧ Hid (code = 0 → fineX ⟨dy, ry, ey⟩) ∧ Hid (Drawn p (KK + 16) W5 wx) ∧ W5.heap.size ≤ qy)
    case first =>
     clear b1 b2 b3 b4 b5
     go_region_held3 (fun W' => (W'.cell? ⟨w.heap.size, 0, none⟩ = some (.slice A n c) ∧ W'.cell? ⟨q, 0, none⟩ = some (.int .i64 dp) ∧ W'.cell? ⟨q, 1, none⟩ = some (.int .i64 rs) ∧ W'.cell? ⟨q, 2, none⟩ = some (.slice EA m ec) ∧ W'.cell? ⟨w4.heap.size, 0, none⟩ = some (.slice A6 gs.length cap6)))
      (first | (refine HS8.out _ ?_; (repeat (first | with_reducible exact dw_of HDZ.out | with_reducible exact dw_of HD6.out | with_reducible exact dw_of HD7.out | with_reducible refine dw_al ?_ | with_reducible refine dw_drew ?_ | (with_reducible refine dw_set ?_ (Nat.le_refl _) (by omega)) | (with_reducible refine dw_set ?_ hg6 (by omega)))); done))
      (first
        | (go_at_call 99
           refine (HKN.out _ (Below.refl _ _).drew).mono ?_
           rintro e w6 ⟨v, d, rfl, hsub, hgd, htu, hd6'⟩
           obtain ⟨SA, scap, rfl, _, _⟩ := Own.SubO.strs hsub
           have HD6 := Lib.hid (hd6'.pre (Below.refl _ W5).drew)
           have HSB6 := Lib.hid hsub
           have HFE : Hid (fineE d) := ⟨hgd, htu.1⟩
           have hg6 := HD6.out.chg.size
           have HNB6 : Hid (Blk (w6.alloc (.cells #[.int .i64 0, .int .i64 0, .slice none 0 0] 58)) w6.heap.size 58 #[.int .i64 0, .int .i64 0, .slice none 0 0]) := heap_last rfl
           clear hd6' hsub hgd htu)
        | (go_at_call 99
           refine (HKN.out _ (Below.new _ _).drew).mono ?_
           rintro e w6 ⟨v, d, rfl, hsub, hgd, htu, hd6'⟩
           obtain ⟨SA, scap, rfl, _, _⟩ := Own.SubO.strs hsub
           have HD6 := Lib.hid (hd6'.pre (Below.new W5 (.cells #[.int .i64 0, .int .i64 0, .slice none 0 0] 58)).drew)
           have HSB6 := Lib.hid hsub
           have HFE : Hid (fineE d) := ⟨hgd, htu.1⟩
           have hg6 := HD6.out.chg.size
           have HQB6 := Lib.hid (Blk.drawn (show Blk (W5.alloc (.cells #[.int .i64 0, .int .i64 0, .slice none 0 0] 58)).drew W5.heap.size 58 #[.int .i64 0, .int .i64 0, .slice none 0 0] from HNB.out) hd6' (by omega))
           clear hd6' hsub hgd htu)
        | (go_at_call 39
           refine (HKE.out d _ _ _ _ _ HD6.out HSB6.out HFE.out.1).mono ?_
           rintro e w7 ⟨v7, rfl, ho7, hb7⟩
           obtain ⟨A7, c7, rfl, _, _⟩ := ho7.reads
           have HD7 := Lib.hid (HD6.out.later hb7)
           have HO7 := Lib.hid (ho7.base hg6)
           have HFX := Lib.hid (noteEv_fineX (fs := fs) HX.out HFE.out)
           (try (have HQ7 := Lib.hid (HQB6.out.later hb7 HQB6.out.lt); have u0 := HQ7.out.cell 0; have u1 := HQ7.out.cell 1; have u2 := HQ7.out.cell 2; have g0 := HQ7.out.frozen 0; have g1 := HQ7.out.frozen 1; have g2 := HQ7.out.frozen 2; have gz := HQ7.out.lt; simp at u0 u1 u2))
           clear ho7 hb7)
        | (go_at_call 39
           refine (HKE.out d _ _ _ _ _ (HD6.out.later (Below.new _ _)) (sub_later HSB6.out (Below.new _ _)) HFE.out.1).mono ?_
           rintro e w7 ⟨v7, rfl, ho7, hb7⟩
           obtain ⟨A7, c7, rfl, _, _⟩ := ho7.reads
           have HD7 := Lib.hid ((HD6.out.later (Below.new w6 (.cells #[.int .i64 0, .int .i64 0, .slice none 0 0] 58))).later hb7)
           have HO7 := Lib.hid (ho7.base (Nat.le_trans hg6 (by simp)))
           have HFX := Lib.hid (noteEv_fineX (fs := fs) HX.out HFE.out)
           have HQ7 := Lib.hid (HNB6.out.later hb7 HNB6.out.lt)
           have u0 := HQ7.out.cell 0
           have u1 := HQ7.out.cell 1
           have u2 := HQ7.out.cell 2
           have g0 := HQ7.out.frozen 0
           have g1 := HQ7.out.frozen 1
           have g2 := HQ7.out.frozen 2
           have gz := HQ7.out.lt
           simp at u0 u1 u2
           clear ho7 hb7))
     all_goals
      generalize noteEvB fs ⟨dp, rs, es⟩ d = NB at *
      have hg7 := HD7.out.chg.size
      go_wp2_with fail
      go_meet
     all_goals
      first
        | exact ⟨w7.heap.size, _, _, _, _, _, rfl, rfl, heap_last rfl, HO7.out.later (Below.new _ _), HFX.out, HD7.out.later (Below.new _ _), hg7⟩
        | exact ⟨w6.heap.size, _, _, _, _, _, rfl, rfl, (by unfold Hid; have h := ((HQ7.out.set_ 0 (.int .i64 NB.2.depth)).set_ 1 (.int .i64 NB.2.rest)).set_ 2 (.slice A7 NB.2.evs.length c7); simpa using h), ((HO7.out.setBlk HQ7.out (by decide) (by decide)).setBlk (HQ7.out.set_ 0 _) (by decide) (by decide)).setBlk ((HQ7.out.set_ 0 _).set_ 1 _) (by decide) (by decide), HFX.out, ((HD7.out.set hg6 (by omega) 0 _).set hg6 (by omega) 1 _).set hg6 (by omega) 2 _, hg6⟩
        | exact ⟨W5.heap.size, _, _, _, _, _, rfl, rfl, (by unfold Hid; have h := ((HQ7.out.set_ 0 (.int .i64 NB.2.depth)).set_ 1 (.int .i64 NB.2.rest)).set_ 2 (.slice A7 NB.2.evs.length c7); simpa using h), ((HO7.out.setBlk HQ7.out (by decide) (by decide)).setBlk (HQ7.out.set_ 0 _) (by decide) (by decide)).setBlk ((HQ7.out.set_ 0 _).set_ 1 _) (by decide) (by decide), HFX.out, ((HD7.out.set (Nat.le_refl _) (by omega) 0 _).set (Nat.le_refl _) (by omega) 1 _).set (Nat.le_refl _) (by omega) 2 _, (Nat.le_refl _)⟩
    case rest =>
     obtain ⟨qy, code, dy, ry, vy, ey, rfl, rfl, HQY, HEY, HFY, HDY, hqy⟩ := hcut
     obtain ⟨AY, cY, rfl, _, _⟩ := HEY.out.reads
     have HSc := Lib.hid (HS5.out.drawn HDY.out hpw (by omega))
     clear b1 b2 b3 b4 b5
     have y0 := HQY.out.cell 0
     have y1 := HQY.out.cell 1
     have y2 := HQY.out.cell 2
     have b0 := HSc.out.box.cell 0
     have b1 := HSc.out.box.cell 1
     have b2 := HSc.out.box.cell 2
     have g0 := HSc.out.box.frozen 0
     have g1 := HSc.out.box.frozen 1
     have g2 := HSc.out.box.frozen 2
     have bz := HSc.out.box.lt
     have yz := HQY.out.lt
     simp at y0 y1 y2 b0 b1 b2
     by_cases hc : code = 0
     · have HFZ := Lib.hid (HFY.out hc)
       subst hc
       clear HFY
       go_wp2_with fail
       go_roundw
       case rel => exact ⟨k - 1, dy, ry, _, ey, by go_num, by omega, (HSc.out.put (HEY.out.base hwq) hpw (by omega)).mono (by omega), HFZ.out⟩
       case measure => simp [intOf]; omega
     · have hcn : (code == (0 : Int)) = false := beq_eq_false_iff_ne.2 hc
       go_wp2_with fail
       go_roundw
       case rel => exact ⟨k - 1, dp, rs, _, es, by go_num, by omega, HSc.out.mono (by omega), HX.out⟩
       case measure => simp [intOf]; omega
  · obtain rfl : k = 0 := by omega
    go_wp2_with fail
    refine bodyPost_ret (v := .agg #[.int .i64 dp, .int .i64 rs, .slice EA m ec]) (by simp [results, Tryz.results154, go_sem, s0, s1, s2]; try first | exact rfl | exact ⟨rfl, rfl⟩) rfl ?_
    exact (HS.out.mono (show _ ≤ K + 200 by omega)).fin hpw HX.out
end Go.Proofs.YtgmaamnofhmecaaGreatDoor
