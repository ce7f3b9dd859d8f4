import Derived.Test.YtlicffeicmoifaaGreatDoorZ27
import Derived.Test.YtlicffeicmoifaaGreatDoorZ28
set_option linter.unusedSimpArgs false
namespace Go.Proofs.YtlicffeicmoifaaGreatDoor
open Go.RowKit
set_option linter.unusedVariables false
theorem ints_litQ {w : World} {g n t : Nat} {zs : List Int} {cs : Array Value} (hg : w.heap.size = g) (h : cs = (zs.map (Value.int .i64)).toArray) (hn : zs.length = n) : Ints (w.alloc (.cells cs t)) (w.alloc (.cells cs t)).heap.size (some ⟨g, 0, none⟩) n zs := by
 subst hg hn
 exact ints_lit w t zs cs h
theorem cell_one_at {w : World} {g t : Nat} {x : Value} (hg : w.heap.size = g) : ∀ j u, [x][j]? = some u → (w.alloc (.cells #[x] t)).cell? ((⟨g, 0, none⟩ : Addr).add j) = some u := by
 subst hg
 exact cell_one_new w x t
structure NtS (p K : Nat) (w : World) (A : Option Addr) (n c q : Nat) (kd : Int) (nm : ByteArray) (sv : Value) (ss : List ByteArray) (vl : ByteArray) (nn : Int) (X : World) : Prop where
 tre : Blk X w.heap.size 26 #[.slice A n c]
 res : Blk X (w.heap.size + 1) 37 #[.int .i64 0, .string ⟨#[]⟩, .slice none 0 0, .string ⟨#[]⟩, .int .i64 0]
 box : Blk X q 37 #[.int .i64 kd, .string nm, sv, .string vl, .int .i64 nn]
 sub : Own.SubO X w.heap.size sv ss
 draw : Drawn p K w X
section
variable {p K K' n c q : Nat} {w X Y : World} {A : Option Addr} {kd nn : Int} {nm vl : ByteArray} {sv : Value} {ss : List ByteArray}
theorem NtS.later (s : NtS p K w A n c q kd nm sv ss vl nn X) (hb : Below X.heap.size X Y) : NtS p K w A n c q kd nm sv ss vl nn Y := ⟨s.tre.later hb s.tre.lt, s.res.later hb s.res.lt, s.box.later hb s.box.lt, sub_later s.sub hb, s.draw.later hb⟩
theorem NtS.drawn (s : NtS p K w A n c q kd nm sv ss vl nn X) (hd : Drawn p K' X Y) (hp : p < w.heap.size) (hq : w.heap.size ≤ q) : NtS p K' w A n c q kd nm sv ss vl nn Y :=
 ⟨Blk.drawn s.tre hd (by omega), Blk.drawn s.res hd (by omega), Blk.drawn s.box hd (by omega), SubO.drawn s.sub s.draw.src hd, s.draw.trans hd⟩
theorem NtS.mono (s : NtS p K w A n c q kd nm sv ss vl nn X) (hK : K ≤ K') : NtS p K' w A n c q kd nm sv ss vl nn X := ⟨s.tre, s.res, s.box, s.sub, s.draw.mono hK⟩
theorem NtS.setV (s : NtS p K w A n c q kd nm sv ss vl nn X) (t : ByteArray) (hp : p < w.heap.size) (hq : w.heap.size + 1 < q) : NtS p K w A n c q kd nm sv ss t nn (X.setCell ⟨q, 3, none⟩ (.string t)) :=
 ⟨s.tre.far (p := ⟨q, 3, none⟩) (show w.heap.size ≠ q by omega) _, s.res.far (p := ⟨q, 3, none⟩) (show w.heap.size + 1 ≠ q by omega) _, by have := s.box.set_ 3 (.string t); simpa using this, s.sub.setBlk s.box (by decide), s.draw.set (show w.heap.size ≤ q by omega) hp 3 _⟩
theorem NtS.setN (s : NtS p K w A n c q kd nm sv ss vl nn X) (z : Int) (hp : p < w.heap.size) (hq : w.heap.size + 1 < q) : NtS p K w A n c q kd nm sv ss vl z (X.setCell ⟨q, 4, none⟩ (.int .i64 z)) :=
 ⟨s.tre.far (p := ⟨q, 4, none⟩) (show w.heap.size ≠ q by omega) _, s.res.far (p := ⟨q, 4, none⟩) (show w.heap.size + 1 ≠ q by omega) _, by have := s.box.set_ 4 (.int .i64 z); simpa using this, s.sub.setBlk s.box (by decide), s.draw.set (show w.heap.size ≤ q by omega) hp 4 _⟩
theorem NtS.boxG {Y : World} {base nr : Nat} {v : Value} {xs : List Value} (s : NtS p K w A n c q kd nm sv ss vl nn X) (hr : X.ownsRow base 9 1 v nr xs) (hg : X.grownBy Y v.ownBlock) : Blk Y w.heap.size 26 #[.slice A n c] ∧ Blk Y q 37 #[.int .i64 kd, .string nm, sv, .string vl, .int .i64 nn] :=
 ⟨s.tre.grown hg (fun e => Own.own_blk_ne hr s.tre (by decide) e.symm), s.box.grown hg (fun e => Own.own_blk_ne hr s.box (by decide) e.symm)⟩
theorem NtS.grown {Y : World} {base nr : Nat} {v : Value} {xs : List Value} (s : NtS p K w A n c q kd nm sv ss vl nn X) (hr : X.ownsRow base 9 1 v nr xs) (hb : w.heap.size ≤ base) (hg : X.grownBy Y v.ownBlock) (hp : p < w.heap.size) {sv' : Value} {ss' : List ByteArray} (h : Own.SubO Y w.heap.size sv' ss') (hq : w.heap.size + 1 < q) : NtS p K w A n c q kd nm sv' ss' vl nn (Y.setCell ⟨q, 2, none⟩ sv') := by
 have hbx : Blk Y q 37 #[.int .i64 kd, .string nm, sv, .string vl, .int .i64 nn] := s.box.grown hg (fun e => Own.own_blk_ne hr s.box (by decide) e.symm)
 refine ⟨Blk.far (s.tre.grown hg (fun e => Own.own_blk_ne hr s.tre (by decide) e.symm)) (p := ⟨q, 2, none⟩) (show w.heap.size ≠ q by omega) _, Blk.far (s.res.grown hg (fun e => Own.own_blk_ne hr s.res (by decide) e.symm)) (p := ⟨q, 2, none⟩) (show w.heap.size + 1 ≠ q by omega) _, ?_, h.setBlk hbx (by decide), (s.draw.grown hg (fun g hg' => Nat.le_trans hb (hr.lt g hg').1) hp).set (show w.heap.size ≤ q by omega) hp 2 _⟩
 have := hbx.set_ 2 sv'
 simpa using this
end
def set5 (X : World) (r : Nat) (x0 x1 x2 x3 x4 : Value) : World := ((((X.setCell ⟨r, 0, none⟩ x0).setCell ⟨r, 1, none⟩ x1).setCell ⟨r, 2, none⟩ x2).setCell ⟨r, 3, none⟩ x3).setCell ⟨r, 4, none⟩ x4
theorem set5_chg (X : World) (r : Nat) (x0 x1 x2 x3 x4 : Value) : Own.Chg (fun g => g = r) X (set5 X r x0 x1 x2 x3 x4) :=
 chgS (chgS (chgS (chgS (chgS (Own.Chg.refl _ _) rfl) rfl) rfl) rfl) rfl
def NotePost (p K : Nat) (w : World) (e : Ending) (w' : World) : Prop := ∃ v d, e = .returned (.agg #[.int .i64 d.kind, .string d.name, v, .string d.val, .int .i64 d.n]) ∧ Own.SubO w' w.heap.size v d.subs ∧ goodE d ∧ ((turnsB d = true → ∀ s ∈ d.subs, fineS s) ∧ d.subs.length ≤ 3) ∧ Drawn p K w w'
theorem note_end {p K n c q : Nat} {w X Y : World} {A : Option Addr} {kd nn : Int} {nm vl : ByteArray} {sv : Value} {ss : List ByteArray} (s : NtS p K w A n c q kd nm sv ss vl nn X) (hp : p < w.heap.size) {d : EvD} {v : Value} {e : Ending}
 (he : e = .returned (.agg #[.int .i64 d.kind, .string d.name, v, .string d.val, .int .i64 d.n])) (hv : Own.SubO X w.heap.size v d.subs) (hg : goodE d) (ht : (turnsB d = true → ∀ s ∈ d.subs, fineS s) ∧ d.subs.length ≤ 3) (hY : Y = set5 X (w.heap.size + 1) (.int .i64 d.kind) (.string d.name) v (.string d.val) (.int .i64 d.n)) : NotePost p K w e Y := by
 subst hY
 have hc := set5_chg X (w.heap.size + 1) (.int .i64 d.kind) (.string d.name) v (.string d.val) (.int .i64 d.n)
 exact ⟨v, d, he, Own.own_chg hv hc (own_not hv (t := 37) (by decide) (fun g hg => by subst hg; exact ⟨_, s.res⟩)), hg, ht, s.draw.own hc (fun g hg => by omega) hp⟩
set_option maxRecDepth 100000 in
set_option maxHeartbeats 16000000 in
theorem l25Note_any (p K : Nat) (A : Option Addr) (n c : Nat) (fs : List NodeD) (w : World) (h : SrcR w p K) (hK : K ≤ 137438953472) (hN : Nodes w w.heap.size A n fs) (ht : treeB fs = true) (hf : fineT fs) :
 Calls Tryz.prog 174 #[.pointer (some ⟨p, 0, none⟩), .agg #[.slice A n c]] w (NotePost p (K + 16) w) := by
 obtain ⟨i0, hi, hz0, hz1, hz2⟩ := info_parts infoS
 have hpw := h.lt
 have HAG : Hid (∀ (d : EvD) (v : Value) (K' : Nat) (W : World), Drawn p K' w W → Own.SubO W w.heap.size v d.subs → RawE d → d.val = ⟨#[]⟩ → whereB d = true → readsB d = true → Calls Tryz.prog 101 #[.agg #[.slice A n c], .agg #[.int .i64 d.kind, .string d.name, v, .string d.val, .int .i64 d.n]] W (EvPost (againB fs d) W)) := fun d v K' W hd hv hr h0 hw hrd => by
  obtain ⟨S1, q1, rfl, hq1, hs1⟩ := Own.SubO.strs hv
  exact l25Again_any A n c fs _ _ _ _ _ d W (h.reads_nodes hN hd) ht (fine_clean hf) ⟨rfl, rfl, ⟨S1, _, q1, rfl, hs1, hq1⟩, rfl, rfl⟩ (hr.small (by rw [h0]; decide)) hw hrd
 have HAD : Hid (∀ d : EvD, RawE d → d.val = ⟨#[]⟩ → goodE (againB fs d) ∧ (againB fs d).subs.length ≤ 3) := fun d hr h0 => ⟨again_good ht hf hr (by rw [h0]; exact goodV_nil), by have h := hr.len; unfold againB; (repeat' split) <;> exact h⟩
 have HAK : Hid (∀ d : EvD, (againB fs d).kind = d.kind) := fun d => by unfold againB; (repeat' split) <;> rfl
 obtain ⟨WB, hWB⟩ : ∃ WB, WB = ((w.alloc (.cells #[.slice A n c] 26)).alloc (.cells #[.int .i64 0, .string ⟨#[]⟩, .slice none 0 0, .string ⟨#[]⟩, .int .i64 0] 37)).alloc (.cells #[.int .i64 1, .int .i64 1, .int .i64 4, .int .i64 5, .int .i64 6, .int .i64 2, .int .i64 2, .int .i64 3] 2) := ⟨_, rfl⟩
 have HBB : Hid (Below w.heap.size w WB) := by subst hWB; exact below_new3 w _ _ _
 have HT0 : Hid (Blk WB w.heap.size 26 #[.slice A n c]) := by subst hWB; exact heap_new0 _ _ _ _
 have HR0 : Hid (Blk WB (w.heap.size + 1) 37 #[.int .i64 0, .string ⟨#[]⟩, .slice none 0 0, .string ⟨#[]⟩, .int .i64 0]) := by subst hWB; exact heap_new1 _ _ _ _
 have HI0 : Hid (Ints WB WB.heap.size (some ⟨w.heap.size + 1 + 1, 0, none⟩) 8 [1, 1, 4, 5, 6, 2, 2, 3]) := by subst hWB; exact ints_litQ (by simp) rfl rfl
 have HK1 := Lib.hid (among_any p K (w.heap.size + 1 + 1) 8 8 [1, 1, 4, 5, 6, 2, 2, 3] WB (h.later HBB.out) (by omega) HI0.out (by omega) (by omega) (by omega))
 have hwb := HR0.out.lt
 clear h hN ht hf
 go_enter Tryz.func174, Tryz.ntmps174
 go_wp2_with fail
 rw [← hWB]
 clear hWB
 refine HK1.out.mono ?_
 rintro e w1 ⟨kd, hkd, rfl, hd⟩
 have HD1 := Lib.hid (hd.pre HBB.out)
 have HT1 := Lib.hid (Blk.drawn HT0.out hd (by omega))
 have HR1 := Lib.hid (Blk.drawn HR0.out hd (by omega))
 have hw1 : w.heap.size + 1 < w1.heap.size := Nat.lt_of_lt_of_le hwb hd.chg.size
 have hkd' : kd = 1 ∨ kd = 4 ∨ kd = 5 ∨ kd = 6 ∨ kd = 2 ∨ kd = 3 := by
  simp only [List.mem_cons, List.not_mem_nil, or_false] at hkd
  omega
 clear hd HT0 HR0 HI0 HK1 HBB hwb hkd
 obtain ⟨WC, hWC⟩ : ∃ WC, WC = w1.alloc (.cells #[.string ⟨#[65]⟩, .string ⟨#[65]⟩, .string ⟨#[66]⟩] 9) := ⟨_, rfl⟩
 have HBC : Hid (Below w1.heap.size w1 WC) := by subst hWC; exact Below.new _ _
 have HSC : Hid (Strs WC WC.heap.size (some ⟨w1.heap.size, 0, none⟩) 3 [⟨#[65]⟩, ⟨#[65]⟩, ⟨#[66]⟩]) := by subst hWC; exact strs_lit w1 9 [⟨#[65]⟩, ⟨#[65]⟩, ⟨#[66]⟩] _ rfl
 have HK2 := Lib.hid (text_any p (K + 2) (some ⟨w1.heap.size, 0, none⟩) 3 3 [⟨#[65]⟩, ⟨#[65]⟩, ⟨#[66]⟩] WC (HD1.out.src.later HBC.out) (by omega) HSC.out (by omega) (by omega))
 go_wp2_with fail
 rw [← hWC]
 clear hWC
 refine HK2.out.mono ?_
 rintro e w2 ⟨nm, hnm, rfl, hd⟩
 have HNM : Hid (nm.size ≤ 16 ∧ nameB nm = true) := (by decide : ∀ s ∈ ([⟨#[65]⟩, ⟨#[65]⟩, ⟨#[66]⟩] : List ByteArray), s.size ≤ 16 ∧ nameB s = true) nm hnm
 have hd2 := hd.pre HBC.out
 have HD2 := Lib.hid (HD1.out.trans hd2)
 have HT2 := Lib.hid (Blk.drawn HT1.out hd2 (by omega))
 have HR2 := Lib.hid (Blk.drawn HR1.out hd2 (by omega))
 have hw2 : w.heap.size + 1 < w2.heap.size := Nat.lt_of_lt_of_le hw1 hd2.chg.size
 clear hd hd2 HD1 HT1 HR1 HK2 HBC HSC hnm hw1
 obtain ⟨WE, hWE⟩ : ∃ WE, WE = w2.alloc (.cells #[.int .i64 kd, .string nm, .slice none 0 0, .string ⟨#[]⟩, .int .i64 0] 37) := ⟨_, rfl⟩
 have HS0 : Hid (NtS p (K + 4) w A n c w2.heap.size kd nm (.slice none 0 0) [] ⟨#[]⟩ 0 WE) := by
  subst hWE
  exact ⟨HT2.out.alloc _, HR2.out.alloc _, heap_alloc_new _ _, Own.sub_nil _ _, (HD2.out.mono (by omega)).later (Below.new _ _)⟩
 have HK3 := Lib.hid (pick_any p (K + 4) 3 WE HS0.out.draw.src (by omega) (by omega))
 clear HD2 HT2 HR2
 go_wp2_with fail
 rw [← hWE]
 clear hWE
 generalize hqq : w2.heap.size = q at *
 have hqw : w.heap.size + 1 < q := by omega
 clear hqq
 refine HK3.out.mono ?_
 rintro e w3 ⟨x, rfl, hx, hd⟩
 have HS1 := Lib.hid (HS0.out.drawn hd hpw (by omega))
 have hx2 : x ≤ 2 := by omega
 clear hd HS0 HK3 hx
 go_wp2_with fail
 go_loopw [6] (fun jv wr => ∃ (j : Nat) (sv : Value) (ss : List ByteArray), jv = .int .i64 j ∧ j + ss.length ≤ 2 ∧ Hid (NtS p (K + 6 + 2 * ss.length) w A n c q kd nm sv ss ⟨#[]⟩ 0 wr) ∧ Hid (∀ s ∈ ss, fineS s)) (fun jv _ => (intOf jv).toNat)
 case atStart => exact ⟨x, _, [], rfl, by simpa using hx2, HS1.out.mono (by simp), fun s hs => by cases hs⟩
 case round =>
  obtain ⟨j, sv, ss, rfl, hj, HSo, HZ⟩ := hrel
  clear HS1
  generalize hm : ss.length = m at *
  have HM := Lib.hid hm
  clear hm
  obtain ⟨S0, sq, rfl, hsq, _⟩ := Own.SubO.strs HSo.out.sub
  have HSX : Hid (wr.ownsRow w.heap.size 9 1 (.slice S0 m sq) m (ss.map Value.string)) := by have := HSo.out.sub; unfold Own.SubO at this; rw [HM.out] at this; exact this
  have HX' := HSo.out
  rw [HM.out] at HX'
  have HS := Lib.hid HX'
  rw [HM.out] at hsq
  clear HX' HSo
  have q0 := HS.out.box.cell 0
  have q1 := HS.out.box.cell 1
  have q2 := HS.out.box.cell 2
  have q3 := HS.out.box.cell 3
  have q4 := HS.out.box.cell 4
  have qf2 := HS.out.box.frozen 2
  have qf3 := HS.out.box.frozen 3
  have qf4 := HS.out.box.frozen 4
  have qz := HS.out.box.lt
  have rf := HS.out.res.frozen
  have rz := HS.out.res.lt
  have t0 := HS.out.tre.cell 0
  have tz := HS.out.tre.lt
  simp at q0 q1 q2 q3 q4 t0
  have hwr := HS.out.draw.chg.size
  by_cases hj0 : 0 < j
  · have HKS := Lib.hid (fun W (h1 : SrcR W p (K + 6 + 2 * m)) => l25SubC_any p (K + 6 + 2 * m) W h1 (by omega))
    clear q0 q1 q3 q4 qf3 qf4 rf rz t0 tz
    have hji : (0 : Int) < (j : Int) := by omega
    go_wp2_with fail
    go_region_law (first
     | (refine step_append_lies _ (by rfl) _ _ _ (by rfl) w.heap.size 9 i0 _ 1 16 Tryz.underlying35 hi hz0 hz1 hz2 rfl (by omega) (.slice S0 m sq) m (ss.map Value.string) (by rfl) (by exact HRA.out)
         ⟨w4.heap.size, 0, none⟩ 1 1 [.string t'] (by rfl) (by rfl) (by exact cell_one_new _ _ _) (by simp [Value.oneCell']) (by omega) (by unfold maxLen; omega) (by omega) (by simp; omega) (w4.heap.size + 1) (by simp) ?_
        intro gg cap' w5 hown5 hgrow5 hat hlt2
        have HSY := Lib.hid (sub_app hown5 (by rw [HM.out]))
        have HNY := Lib.hid ((HS4.out.later (Below.new w4 (.cells #[.string t'] 9))).grown HRA.out (Nat.le_refl _) hgrow5 hpw HSY.out hqw)
        have hbx := ((HS4.out.later (Below.new w4 (.cells #[.string t'] 9))).box).grown hgrow5 (fun e => Own.own_blk_ne HRA.out (HS4.out.later (Below.new w4 (.cells #[.string t'] 9))).box (by decide) e.symm)
        have y2 := hbx.cell 2
        have yz := hbx.lt
        have yf := hbx.frozen 2
        simp at y2
        clear hown5 hgrow5 hbx)
     | (go_simp
        go_at_call 85
        refine (HKS.out _ (HS.out.draw.src.later (Below.refl _ _).drew)).mono ?_
        rintro e w4 ⟨t', rfl, ht', hd4'⟩
        have hd4 := hd4'.pre (Below.refl _ wr).drew
        have HS4 := Lib.hid (HS.out.drawn hd4 hpw (by omega))
        have HTT := Lib.hid ht'.2
        have j2 := HS4.out.box.cell 2
        have j2' := (HS4.out.box.alloc (.cells #[.string t'] 9)).cell 2
        have jz := HS4.out.box.lt
        have jw := HS4.out.draw.chg.size
        simp at j2 j2'
        have HRA : Hid ((w4.alloc (.cells #[.string t'] 9)).ownsRow w.heap.size 9 1 (.slice S0 m sq) m (ss.map Value.string)) := by
         have h := Own.own_later HS4.out.sub (Below.new w4 (.cells #[.string t'] 9))
         rw [HM.out] at h
         exact h
        clear hd4 hd4' ht'))
    all_goals
     clear q2 qf2
     go_wp2_with fail
     go_roundw
     case rel => exact ⟨j - 1, _, ss ++ [t'], by go_num, by rw [List.length_append, HM.out]; simp; omega, HNY.out.mono (by rw [List.length_append, HM.out]; simp; omega), fine_app HZ.out HTT.out⟩
     case measure => simp [intOf]; omega
  · obtain rfl : j = 0 := by omega
    have hm2 : m ≤ 2 := by omega
    have r0 := rf 0
    have r1 := rf 1
    have r2 := rf 2
    have r3 := rf 3
    have r4 := rf 4
    have HG2 : Hid (∀ vl, okV vl → vl.size ≤ 16 → goodE ⟨kd, nm, ss, vl, 0⟩ ∧ ((turnsB ⟨kd, nm, ss, vl, 0⟩ = true → ∀ s ∈ ss, fineS s) ∧ ss.length ≤ 3)) := fun vl h1 h2 => ⟨(raw_of HNM.out.1 HNM.out.2 (by rw [HM.out]; omega) HZ.out).good (show vl.size ≤ _ by omega) h1, (fun _ => HZ.out), by rw [HM.out]; omega⟩
    have HG3 : Hid (goodE ⟨kd, nm, ss, ⟨#[]⟩, 0⟩ ∧ ((turnsB ⟨kd, nm, ss, ⟨#[]⟩, 0⟩ = true → ∀ s ∈ ss, fineS s) ∧ ss.length ≤ 3)) := ⟨(raw_of HNM.out.1 HNM.out.2 (by rw [HM.out]; omega) HZ.out).good (show (⟨#[]⟩ : ByteArray).size ≤ _ by decide) okV_nil, (fun _ => HZ.out), by rw [HM.out]; omega⟩
    clear rf
    have HSM := Lib.hid (HS.out.mono (show K + 6 + 2 * m ≤ K + 16 by omega))
    have s0 := HS.out.res.cell 0
    have s1 := HS.out.res.cell 1
    have s2 := HS.out.res.cell 2
    have s3 := HS.out.res.cell 3
    have s4 := HS.out.res.cell 4
    simp at s0 s1 s2 s3 s4
    rcases hkd' with rfl | rfl | rfl | rfl | rfl | rfl
    · have HRAW : Hid (RawE ⟨1, nm, ss, ⟨#[]⟩, 0⟩) := raw_of HNM.out.1 HNM.out.2 (by rw [HM.out]; omega) HZ.out
      have HKR := Lib.hid (HAG.out ⟨1, nm, ss, ⟨#[]⟩, 0⟩ (.slice S0 m sq) _ wr HSM.out.draw HSM.out.sub HRAW.out rfl (where_raw HRAW.out (fun s hs => (HZ.out s hs).2.2.1) (by simp)) (by simp [readsB]))
      have HGR := Lib.hid (HAD.out ⟨1, nm, ss, ⟨#[]⟩, 0⟩ HRAW.out rfl)
      have HTR : Hid (turnsB (againB fs ⟨1, nm, ss, ⟨#[]⟩, 0⟩) = false) := by unfold Hid turnsB; rw [HAK.out]; rfl
      generalize againB fs ⟨1, nm, ss, ⟨#[]⟩, 0⟩ = R at *
      go_wp2_with fail
      refine HKR.out.mono ?_
      rintro e w6 ⟨v6, rfl, hs6, hb6⟩
      obtain ⟨V6, q6, rfl, _, _⟩ := Own.SubO.strs hs6
      have hw6 := HSM.out.draw.chg.size
      have HS6 := Lib.hid ((HSM.out.later hb6).mono (show _ ≤ K + 16 by omega))
      have HU6 := Lib.hid (Own.own_base hs6 hw6)
      clear hs6 hb6 HKR
      have s0 := HS6.out.res.cell 0
      have s1 := HS6.out.res.cell 1
      have s2 := HS6.out.res.cell 2
      have s3 := HS6.out.res.cell 3
      have s4 := HS6.out.res.cell 4
      have f0 := HS6.out.res.frozen 0
      have f1 := HS6.out.res.frozen 1
      have f2 := HS6.out.res.frozen 2
      have f3 := HS6.out.res.frozen 3
      have f4 := HS6.out.res.frozen 4
      have fz := HS6.out.res.lt
      simp at s0 s1 s2 s3 s4
      go_wp2_with fail
      refine bodyPost_ret (v := .agg #[.int .i64 R.kind, .string R.name, .slice V6 R.subs.length q6, .string R.val, .int .i64 R.n]) (by simp [results, Tryz.results174, go_sem, s0, s1, s2, s3, s4]) rfl ?_
      exact note_end HS6.out hpw (d := R) rfl HU6.out HGR.out.1 ⟨(fun h => by rw [HTR.out] at h; cases h), HGR.out.2⟩ rfl
    · have HRAW : Hid (RawE ⟨4, nm, ss, ⟨#[]⟩, 0⟩) := raw_of HNM.out.1 HNM.out.2 (by rw [HM.out]; omega) HZ.out
      have HKR := Lib.hid (HAG.out ⟨4, nm, ss, ⟨#[]⟩, 0⟩ (.slice S0 m sq) _ wr HSM.out.draw HSM.out.sub HRAW.out rfl (where_raw HRAW.out (fun s hs => (HZ.out s hs).2.2.1) (by simp)) (by simp [readsB]))
      have HGR := Lib.hid (HAD.out ⟨4, nm, ss, ⟨#[]⟩, 0⟩ HRAW.out rfl)
      have HTR : Hid (turnsB (againB fs ⟨4, nm, ss, ⟨#[]⟩, 0⟩) = false) := by unfold Hid turnsB; rw [HAK.out]; rfl
      generalize againB fs ⟨4, nm, ss, ⟨#[]⟩, 0⟩ = R at *
      go_wp2_with fail
      refine HKR.out.mono ?_
      rintro e w6 ⟨v6, rfl, hs6, hb6⟩
      obtain ⟨V6, q6, rfl, _, _⟩ := Own.SubO.strs hs6
      have hw6 := HSM.out.draw.chg.size
      have HS6 := Lib.hid ((HSM.out.later hb6).mono (show _ ≤ K + 16 by omega))
      have HU6 := Lib.hid (Own.own_base hs6 hw6)
      clear hs6 hb6 HKR
      have s0 := HS6.out.res.cell 0
      have s1 := HS6.out.res.cell 1
      have s2 := HS6.out.res.cell 2
      have s3 := HS6.out.res.cell 3
      have s4 := HS6.out.res.cell 4
      have f0 := HS6.out.res.frozen 0
      have f1 := HS6.out.res.frozen 1
      have f2 := HS6.out.res.frozen 2
      have f3 := HS6.out.res.frozen 3
      have f4 := HS6.out.res.frozen 4
      have fz := HS6.out.res.lt
      simp at s0 s1 s2 s3 s4
      go_wp2_with fail
      refine bodyPost_ret (v := .agg #[.int .i64 R.kind, .string R.name, .slice V6 R.subs.length q6, .string R.val, .int .i64 R.n]) (by simp [results, Tryz.results174, go_sem, s0, s1, s2, s3, s4]) rfl ?_
      exact note_end HS6.out hpw (d := R) rfl HU6.out HGR.out.1 ⟨(fun h => by rw [HTR.out] at h; cases h), HGR.out.2⟩ rfl
    · have HKI := Lib.hid (among_any p (K + 6 + 2 * m) wr.heap.size 2 2 [1, (-1)] (wr.alloc (.cells #[.int .i64 1, .int .i64 (-1)] 2)) (HS.out.draw.src.later (Below.new _ _)) (by omega) (ints_litQ rfl rfl rfl) (by omega) (by omega) (by omega))
      clear q2 qf2
      go_wp2_with fail
      refine HKI.out.mono ?_
      rintro e w4 ⟨nn, hnn, rfl, hd4⟩
      have HS4 := Lib.hid ((HS.out.later (Below.new wr (.cells #[.int .i64 1, .int .i64 (-1)] 2))).drawn hd4 hpw (by omega))
      have HS5' := Lib.hid (HS4.out.setN nn hpw hqw)
      clear hd4 hnn HKI q0 q1 q3 q4 qf3 qf4 t0 tz r0 r1 r2 r3 r4
      have k2 := HS4.out.box.cell 2
      have k4 := HS4.out.box.cell 4
      have kf := HS4.out.box.frozen 4
      have kz := HS4.out.box.lt
      simp at k2 k4
      by_cases hm0 : m = 0
      · subst hm0
        have HS5 := Lib.hid (HS5'.out.mono (show _ ≤ K + 16 by omega))
        have HOWN : Hid (((w4.setCell ⟨q, 4, none⟩ (.int .i64 nn)).alloc (.cells #[.string ⟨#[]⟩] 9)).ownsRow w.heap.size 9 1 (.slice S0 0 sq) 0 (ss.map Value.string)) := by
         have h := Own.own_later HS5.out.sub (Below.new (w4.setCell ⟨q, 4, none⟩ (.int .i64 nn)) (.cells #[.string ⟨#[]⟩] 9))
         rw [HM.out] at h
         exact h
        have HA5 := Lib.hid (HS5.out.later (Below.new (w4.setCell ⟨q, 4, none⟩ (.int .i64 nn)) (.cells #[.string ⟨#[]⟩] 9)))
        have hx5 := HS5.out.draw.chg.size
        have g2 := HS5.out.box.cell 2
        simp at g2
        go_wp2_with (at_builtin; refine wpList_append_own _ rfl (.tmp 54) (.tmp 55) 35 rfl w.heap.size 9 i0 _ 1 16 Tryz.underlying35 hi hz0 hz1 hz2 rfl (by decide) _ 0 _ rfl HOWN.out ⟨_, 0, none⟩ 1 1 [.string ⟨#[]⟩] rfl rfl ?cm1 ?cm2 ?cm3 ?cm4 ?cm5 ?_)
        case cm1 => exact cell_one_at (by simp)
        case cm2 => simp [Value.oneCell']
        case cm3 => unfold maxLen; omega
        case cm4 => omega
        case cm5 => simp; omega
        intro v7 w7 hown7 hg7 _
        have HU7 := Lib.hid (sub_appv hown7 (by rw [HM.out]))
        obtain ⟨A7, cap7, rfl, _, _, _⟩ := Own.own_slice hown7
        obtain ⟨hb7, hq7⟩ := HA5.out.boxG HOWN.out hg7
        have HN7 := Lib.hid (HA5.out.grown HOWN.out (Nat.le_refl _) hg7 hpw HU7.out hqw)
        have a0 := hb7.cell 0
        have h0 := hq7.cell 0
        have h1 := hq7.cell 1
        have h2 := hq7.cell 2
        have h3 := hq7.cell 3
        have h4 := hq7.cell 4
        have hf := hq7.frozen 2
        have hz7 := hq7.lt
        have hqt : ¬ w.heap.size = q := by omega
        have hqt' : q ≠ w.heap.size := by omega
        simp at a0 h0 h1 h2 h3 h4
        clear hown7 hg7 hb7 hq7 g2
        have HRAW : Hid (RawE ⟨5, nm, ss ++ [⟨#[]⟩], ⟨#[]⟩, nn⟩) := raw_open HNM.out.1 HNM.out.2 (by rw [HM.out]; omega) HZ.out
        have HKR := Lib.hid (HAG.out ⟨5, nm, ss ++ [⟨#[]⟩], ⟨#[]⟩, nn⟩ (.slice A7 (0 + 1) cap7) _ (w7.setCell ⟨q, 2, none⟩ (.slice A7 (0 + 1) cap7)) HN7.out.draw HN7.out.sub HRAW.out rfl (by unfold whereB; rw [if_pos rfl, HNM.out.2, level_open HZ.out (by rw [HM.out]; omega)]; rfl) (by simp [readsB]))
        have HGR := Lib.hid (HAD.out ⟨5, nm, ss ++ [⟨#[]⟩], ⟨#[]⟩, nn⟩ HRAW.out rfl)
        have HTR : Hid (turnsB (againB fs ⟨5, nm, ss ++ [⟨#[]⟩], ⟨#[]⟩, nn⟩) = false) := by unfold Hid turnsB; rw [HAK.out]; rfl
        generalize againB fs ⟨5, nm, ss ++ [⟨#[]⟩], ⟨#[]⟩, nn⟩ = R at *
        go_wp2_with fail
        refine HKR.out.mono ?_
        rintro e w6 ⟨v6, rfl, hs6, hb6⟩
        obtain ⟨V6, q6, rfl, _, _⟩ := Own.SubO.strs hs6
        have hw6 := HN7.out.draw.chg.size
        have HS6 := Lib.hid ((HN7.out.later hb6).mono (show _ ≤ K + 16 by omega))
        have HU6 := Lib.hid (Own.own_base hs6 hw6)
        clear hs6 hb6 HKR
        have s0 := HS6.out.res.cell 0
        have s1 := HS6.out.res.cell 1
        have s2 := HS6.out.res.cell 2
        have s3 := HS6.out.res.cell 3
        have s4 := HS6.out.res.cell 4
        have f0 := HS6.out.res.frozen 0
        have f1 := HS6.out.res.frozen 1
        have f2 := HS6.out.res.frozen 2
        have f3 := HS6.out.res.frozen 3
        have f4 := HS6.out.res.frozen 4
        have fz := HS6.out.res.lt
        simp at s0 s1 s2 s3 s4
        go_wp2_with fail
        refine bodyPost_ret (v := .agg #[.int .i64 R.kind, .string R.name, .slice V6 R.subs.length q6, .string R.val, .int .i64 R.n]) (by simp [results, Tryz.results174, go_sem, s0, s1, s2, s3, s4]) rfl ?_
        exact note_end HS6.out hpw (d := R) rfl HU6.out HGR.out.1 ⟨(fun h => by rw [HTR.out] at h; cases h), HGR.out.2⟩ rfl
      · have hmi : (((m : Nat) : Int) == 0) = false := by simpa using hm0
        have hmi' : ¬ (m : Int) = 0 := by omega
        have HKO := Lib.hid (one_any p (K + 6 + 2 * m + 2) 3 (w4.setCell ⟨q, 4, none⟩ (.int .i64 nn)) HS5'.out.draw.src (by omega) (by omega))
        go_wp2_with fail
        refine HKO.out.mono ?_
        rintro e X5 ⟨bb, rfl, hd5⟩
        have HS5 := Lib.hid ((HS5'.out.drawn hd5 hpw (by omega)).mono (show _ ≤ K + 16 by omega))
        clear hd5 HKO HS4 HS5' k2 k4 kf kz
        cases bb
        · have a0 := HS5.out.tre.cell 0
          have h0 := HS5.out.box.cell 0
          have h1 := HS5.out.box.cell 1
          have h2 := HS5.out.box.cell 2
          have h3 := HS5.out.box.cell 3
          have h4 := HS5.out.box.cell 4
          have hz5 := HS5.out.box.lt
          simp at a0 h0 h1 h2 h3 h4
          have HRAW : Hid (RawE ⟨5, nm, ss, ⟨#[]⟩, nn⟩) := raw_of HNM.out.1 HNM.out.2 (by rw [HM.out]; omega) HZ.out
          have HKR := Lib.hid (HAG.out ⟨5, nm, ss, ⟨#[]⟩, nn⟩ (.slice S0 m sq) _ X5 HS5.out.draw HS5.out.sub HRAW.out rfl (by unfold whereB; rw [if_pos rfl, HNM.out.2, level_fine HZ.out (by rw [HM.out]; omega) (by rw [HM.out]; omega)]; rfl) (by simp [readsB]))
          have HGR := Lib.hid (HAD.out ⟨5, nm, ss, ⟨#[]⟩, nn⟩ HRAW.out rfl)
          have HTR : Hid (turnsB (againB fs ⟨5, nm, ss, ⟨#[]⟩, nn⟩) = false) := by unfold Hid turnsB; rw [HAK.out]; rfl
          generalize againB fs ⟨5, nm, ss, ⟨#[]⟩, nn⟩ = R at *
          go_wp2_with fail
          refine HKR.out.mono ?_
          rintro e w6 ⟨v6, rfl, hs6, hb6⟩
          obtain ⟨V6, q6, rfl, _, _⟩ := Own.SubO.strs hs6
          have hw6 := HS5.out.draw.chg.size
          have HS6 := Lib.hid ((HS5.out.later hb6).mono (show _ ≤ K + 16 by omega))
          have HU6 := Lib.hid (Own.own_base hs6 hw6)
          clear hs6 hb6 HKR
          have s0 := HS6.out.res.cell 0
          have s1 := HS6.out.res.cell 1
          have s2 := HS6.out.res.cell 2
          have s3 := HS6.out.res.cell 3
          have s4 := HS6.out.res.cell 4
          have f0 := HS6.out.res.frozen 0
          have f1 := HS6.out.res.frozen 1
          have f2 := HS6.out.res.frozen 2
          have f3 := HS6.out.res.frozen 3
          have f4 := HS6.out.res.frozen 4
          have fz := HS6.out.res.lt
          simp at s0 s1 s2 s3 s4
          go_wp2_with fail
          refine bodyPost_ret (v := .agg #[.int .i64 R.kind, .string R.name, .slice V6 R.subs.length q6, .string R.val, .int .i64 R.n]) (by simp [results, Tryz.results174, go_sem, s0, s1, s2, s3, s4]) rfl ?_
          exact note_end HS6.out hpw (d := R) rfl HU6.out HGR.out.1 ⟨(fun h => by rw [HTR.out] at h; cases h), HGR.out.2⟩ rfl
        · have HOWN : Hid ((X5.alloc (.cells #[.string ⟨#[]⟩] 9)).ownsRow w.heap.size 9 1 (.slice S0 m sq) m (ss.map Value.string)) := by
           have h := Own.own_later HS5.out.sub (Below.new X5 (.cells #[.string ⟨#[]⟩] 9))
           rw [HM.out] at h
           exact h
          have HA5 := Lib.hid (HS5.out.later (Below.new X5 (.cells #[.string ⟨#[]⟩] 9)))
          have hx5 := HS5.out.draw.chg.size
          have g2 := HS5.out.box.cell 2
          simp at g2
          go_wp2_with (at_builtin; refine wpList_append_own _ rfl (.tmp 54) (.tmp 55) 35 rfl w.heap.size 9 i0 _ 1 16 Tryz.underlying35 hi hz0 hz1 hz2 rfl (by decide) _ m _ rfl HOWN.out ⟨_, 0, none⟩ 1 1 [.string ⟨#[]⟩] rfl rfl ?cb1 ?cb2 ?cb3 ?cb4 ?cb5 ?_)
          case cb1 => exact cell_one_at (by simp)
          case cb2 => simp [Value.oneCell']
          case cb3 => unfold maxLen; omega
          case cb4 => omega
          case cb5 => simp; omega
          intro v7 w7 hown7 hg7 _
          have HU7 := Lib.hid (sub_appv hown7 (by rw [HM.out]))
          obtain ⟨A7, cap7, rfl, _, _, _⟩ := Own.own_slice hown7
          obtain ⟨hb7, hq7⟩ := HA5.out.boxG HOWN.out hg7
          have HN7 := Lib.hid (HA5.out.grown HOWN.out (Nat.le_refl _) hg7 hpw HU7.out hqw)
          have a0 := hb7.cell 0
          have h0 := hq7.cell 0
          have h1 := hq7.cell 1
          have h2 := hq7.cell 2
          have h3 := hq7.cell 3
          have h4 := hq7.cell 4
          have hf := hq7.frozen 2
          have hz7 := hq7.lt
          have hqt : ¬ w.heap.size = q := by omega
          have hqt' : q ≠ w.heap.size := by omega
          simp at a0 h0 h1 h2 h3 h4
          clear hown7 hg7 hb7 hq7 g2
          have HRAW : Hid (RawE ⟨5, nm, ss ++ [⟨#[]⟩], ⟨#[]⟩, nn⟩) := raw_open HNM.out.1 HNM.out.2 (by rw [HM.out]; omega) HZ.out
          have HKR := Lib.hid (HAG.out ⟨5, nm, ss ++ [⟨#[]⟩], ⟨#[]⟩, nn⟩ (.slice A7 (m + 1) cap7) _ (w7.setCell ⟨q, 2, none⟩ (.slice A7 (m + 1) cap7)) HN7.out.draw HN7.out.sub HRAW.out rfl (by unfold whereB; rw [if_pos rfl, HNM.out.2, level_open HZ.out (by rw [HM.out]; omega)]; rfl) (by simp [readsB]))
          have HGR := Lib.hid (HAD.out ⟨5, nm, ss ++ [⟨#[]⟩], ⟨#[]⟩, nn⟩ HRAW.out rfl)
          have HTR : Hid (turnsB (againB fs ⟨5, nm, ss ++ [⟨#[]⟩], ⟨#[]⟩, nn⟩) = false) := by unfold Hid turnsB; rw [HAK.out]; rfl
          generalize againB fs ⟨5, nm, ss ++ [⟨#[]⟩], ⟨#[]⟩, nn⟩ = R at *
          go_wp2_with fail
          refine HKR.out.mono ?_
          rintro e w6 ⟨v6, rfl, hs6, hb6⟩
          obtain ⟨V6, q6, rfl, _, _⟩ := Own.SubO.strs hs6
          have hw6 := HN7.out.draw.chg.size
          have HS6 := Lib.hid ((HN7.out.later hb6).mono (show _ ≤ K + 16 by omega))
          have HU6 := Lib.hid (Own.own_base hs6 hw6)
          clear hs6 hb6 HKR
          have s0 := HS6.out.res.cell 0
          have s1 := HS6.out.res.cell 1
          have s2 := HS6.out.res.cell 2
          have s3 := HS6.out.res.cell 3
          have s4 := HS6.out.res.cell 4
          have f0 := HS6.out.res.frozen 0
          have f1 := HS6.out.res.frozen 1
          have f2 := HS6.out.res.frozen 2
          have f3 := HS6.out.res.frozen 3
          have f4 := HS6.out.res.frozen 4
          have fz := HS6.out.res.lt
          simp at s0 s1 s2 s3 s4
          go_wp2_with fail
          refine bodyPost_ret (v := .agg #[.int .i64 R.kind, .string R.name, .slice V6 R.subs.length q6, .string R.val, .int .i64 R.n]) (by simp [results, Tryz.results174, go_sem, s0, s1, s2, s3, s4]) rfl ?_
          exact note_end HS6.out hpw (d := R) rfl HU6.out HGR.out.1 ⟨(fun h => by rw [HTR.out] at h; cases h), HGR.out.2⟩ rfl
    · have HRAW : Hid (RawE ⟨6, nm, ss, ⟨#[]⟩, 0⟩) := raw_of HNM.out.1 HNM.out.2 (by rw [HM.out]; omega) HZ.out
      have HKR := Lib.hid (HAG.out ⟨6, nm, ss, ⟨#[]⟩, 0⟩ (.slice S0 m sq) _ wr HSM.out.draw HSM.out.sub HRAW.out rfl (where_raw HRAW.out (fun s hs => (HZ.out s hs).2.2.1) (by simp)) (by simp [readsB]))
      have HGR := Lib.hid (HAD.out ⟨6, nm, ss, ⟨#[]⟩, 0⟩ HRAW.out rfl)
      have HTR : Hid (turnsB (againB fs ⟨6, nm, ss, ⟨#[]⟩, 0⟩) = false) := by unfold Hid turnsB; rw [HAK.out]; rfl
      generalize againB fs ⟨6, nm, ss, ⟨#[]⟩, 0⟩ = R at *
      go_wp2_with fail
      refine HKR.out.mono ?_
      rintro e w6 ⟨v6, rfl, hs6, hb6⟩
      obtain ⟨V6, q6, rfl, _, _⟩ := Own.SubO.strs hs6
      have hw6 := HSM.out.draw.chg.size
      have HS6 := Lib.hid ((HSM.out.later hb6).mono (show _ ≤ K + 16 by omega))
      have HU6 := Lib.hid (Own.own_base hs6 hw6)
      clear hs6 hb6 HKR
      have s0 := HS6.out.res.cell 0
      have s1 := HS6.out.res.cell 1
      have s2 := HS6.out.res.cell 2
      have s3 := HS6.out.res.cell 3
      have s4 := HS6.out.res.cell 4
      have f0 := HS6.out.res.frozen 0
      have f1 := HS6.out.res.frozen 1
      have f2 := HS6.out.res.frozen 2
      have f3 := HS6.out.res.frozen 3
      have f4 := HS6.out.res.frozen 4
      have fz := HS6.out.res.lt
      simp at s0 s1 s2 s3 s4
      go_wp2_with fail
      refine bodyPost_ret (v := .agg #[.int .i64 R.kind, .string R.name, .slice V6 R.subs.length q6, .string R.val, .int .i64 R.n]) (by simp [results, Tryz.results174, go_sem, s0, s1, s2, s3, s4]) rfl ?_
      exact note_end HS6.out hpw (d := R) rfl HU6.out HGR.out.1 ⟨(fun h => by rw [HTR.out] at h; cases h), HGR.out.2⟩ rfl
    · have HKT := Lib.hid (text_any p (K + 6 + 2 * m) (some ⟨wr.heap.size, 0, none⟩) 4 4 [⟨#[]⟩, ⟨#[55]⟩, ⟨#[110, 101, 119]⟩, ⟨#[52]⟩] (wr.alloc (.cells #[.string ⟨#[]⟩, .string ⟨#[55]⟩, .string ⟨#[110, 101, 119]⟩, .string ⟨#[52]⟩] 9)) (HS.out.draw.src.later (Below.new _ _)) (by omega) (strs_lit wr 9 [⟨#[]⟩, ⟨#[55]⟩, ⟨#[110, 101, 119]⟩, ⟨#[52]⟩] _ rfl) (by omega) (by omega))
      clear HG3
      go_wp2_with fail
      refine HKT.out.mono ?_
      rintro e w4 ⟨vl, hvl, rfl, hd4⟩
      have HS4 := Lib.hid (((HS.out.later (Below.new wr (.cells #[.string ⟨#[]⟩, .string ⟨#[55]⟩, .string ⟨#[110, 101, 119]⟩, .string ⟨#[52]⟩] 9))).drawn hd4 hpw (by omega)).mono (show _ ≤ K + 16 by omega))
      have HVL := Lib.hid (okV_set vl hvl)
      obtain ⟨hg2, ht2⟩ := HG2.out vl HVL.out.2 HVL.out.1
      clear hd4 hvl HKT q0 q1 q2 q3 q4 qf2 qf3 qf4 qz t0 tz r0 r1 r2 r3 r4 rz s0 s1 s2 s3 s4 HG2
      have q0 := HS4.out.box.cell 0
      have q1 := HS4.out.box.cell 1
      have q2 := HS4.out.box.cell 2
      have q3 := HS4.out.box.cell 3
      have q4 := HS4.out.box.cell 4
      have s0 := HS4.out.res.cell 0
      have s1 := HS4.out.res.cell 1
      have s2 := HS4.out.res.cell 2
      have s3 := HS4.out.res.cell 3
      have s4 := HS4.out.res.cell 4
      have f0 := HS4.out.res.frozen 0
      have f1 := HS4.out.res.frozen 1
      have f2 := HS4.out.res.frozen 2
      have f3 := HS4.out.res.frozen 3
      have f4 := HS4.out.res.frozen 4
      have qf3 := HS4.out.box.frozen 3
      have qz := HS4.out.box.lt
      have fz := HS4.out.res.lt
      have hqr : ¬ w.heap.size + 1 = q := by omega
      have hqr' : ¬ q = w.heap.size + 1 := by omega
      simp at q0 q1 q2 q3 q4 s0 s1 s2 s3 s4
      go_wp2_with fail
      refine bodyPost_ret (v := .agg #[.int .i64 2, .string nm, .slice S0 m sq, .string vl, .int .i64 0]) (by simp [results, Tryz.results174, go_sem, s0, s1, s2, s3, s4]) rfl ?_
      exact note_end (HS4.out.setV vl hpw hqw) hpw (d := ⟨2, nm, ss, vl, 0⟩) rfl (HS4.out.setV vl hpw hqw).sub hg2 ht2 rfl
    · go_wp2_with fail
      refine bodyPost_ret (v := .agg #[.int .i64 3, .string nm, .slice S0 m sq, .string ⟨#[]⟩, .int .i64 0]) (by simp [results, Tryz.results174, go_sem, s0, s1, s2, s3, s4]) rfl ?_
      exact note_end HSM.out hpw (d := ⟨3, nm, ss, ⟨#[]⟩, 0⟩) rfl HSM.out.sub HG3.out.1 HG3.out.2 rfl
end Go.Proofs.YtlicffeicmoifaaGreatDoor
