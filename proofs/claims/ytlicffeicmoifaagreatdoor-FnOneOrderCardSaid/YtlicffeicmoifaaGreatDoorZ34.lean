import Derived.Test.YtlicffeicmoifaaGreatDoorZ33
import Derived.Test.YtlicffeicmoifaaGreatDoorZ15
import Derived.Test.YtlicffeicmoifaaGreatDoorZ13
set_option linter.unusedSimpArgs false
namespace Go.Proofs.YtlicffeicmoifaaGreatDoor
open Go.RowKit
set_option linter.unusedVariables false
def sameNb (a b : NodeD) : Bool := decide (a.name = b.name) && (decide (a.val = b.val) && decide (a.subs = b.subs))
theorem sameNb_iff {a b : NodeD} : sameNb a b = true ↔ a = b := by
 unfold sameNb
 simp only [Bool.and_eq_true, decide_eq_true_eq]
 exact ⟨fun ⟨h0, h1, h2⟩ => NodeD.ext_ h0 h2 h1, fun h => by subst h; simp⟩
def eqTr : List NodeD → List NodeD → Bool
 | [], [] => true
 | a :: r, b :: s => sameNb a b && eqTr r s
 | _, _ => false
theorem eqTr_iff : ∀ (l m : List NodeD), eqTr l m = decide (l = m)
 | [], [] => by simp [eqTr]
 | [], b :: s => by simp [eqTr]
 | a :: r, [] => by simp [eqTr]
 | a :: r, b :: s => by
   unfold eqTr
   rw [eqTr_iff r s, Bool.eq_iff_iff, Bool.and_eq_true, sameNb_iff, decide_eq_true_eq, decide_eq_true_eq, List.cons.injEq]
theorem eqTr_step (l m : List NodeD) (k : Nat) (h : k < l.length) (h' : k < m.length) : eqTr (l.drop k) (m.drop k) = (sameNb (l.getD k default) (m.getD k default) && eqTr (l.drop (k + 1)) (m.drop (k + 1))) := by
 rw [drop_consQ l k h, drop_consQ m k h']
 rfl
set_option maxRecDepth 100000 in
set_option maxHeartbeats 4000000 in
theorem l03SameNode_any (c0 c1 c2 d0 d1 d2 : Value) (a b : NodeD) (w : World) (h : NodeR w w.heap.size c0 c1 c2 a) (h' : NodeR w w.heap.size d0 d1 d2 b) (hsa : a.subs.length ≤ 1048576) (hsb : b.subs.length ≤ 1048576) :
 Calls Tryz.prog 44 #[.agg #[c0, c1, c2], .agg #[d0, d1, d2]] w fun e w' => e = .returned (.bool (sameNb a b)) ∧ Below w.heap.size w w' := by
 obtain ⟨rfl, ⟨S, m, q, rfl, hs, hmq⟩, rfl⟩ := h
 obtain ⟨rfl, ⟨S', m', q', rfl, hs', hmq'⟩, rfl⟩ := h'
 have hm : m ≤ 1048576 := by rw [← hs.1]; exact hsa
 have hm' : m' ≤ 1048576 := by rw [← hs'.1]; exact hsb
 have HK := Lib.hid (fun W (hW : Below w.heap.size w W) => SameSubs_any S S' m q m' q' a.subs b.subs W (hs.later hW) (hs'.later hW) hm hm')
 have HR : Hid (sameNb a b = (decide (a.name = b.name) && (decide (a.val = b.val) && eqS a.subs b.subs))) := rfl
 clear hs hs' hsa hsb
 generalize sameNb a b = R at *
 generalize eqS a.subs b.subs = x at *
 generalize a.name = an at *
 generalize b.name = bn at *
 generalize a.val = av at *
 generalize b.val = bv at *
 go_enter Tryz.func44, Tryz.ntmps44
 by_cases h1 : an = bn
 · subst h1
   by_cases h2 : av = bv
   · subst h2
     have HE : Hid (R = x) := by unfold Hid; rw [HR.out]; simp
     go_wp2_with fail
     refine (HK.out _ ((Below.new _ _).later (Below.new _ _))).mono ?_
     rintro e w1 ⟨rfl, z, rfl⟩
     go_wp2_with fail
     go_ret
     exact ⟨ret_bool HE.out.symm, below_drewN ((Below.new _ _).later (Below.new _ _)) _⟩
   · have hb2 := str_beq h2
     have HE : Hid (R = false) := by unfold Hid; rw [HR.out]; simp [h2]
     clear h2
     go_wp2_with fail
     go_ret
     exact ⟨ret_bool HE.out.symm, (Below.new _ _).later (Below.new _ _)⟩
 · have hb1 := str_beq h1
   have HE : Hid (R = false) := by unfold Hid; rw [HR.out]; simp [h1]
   clear h1
   go_wp2_with fail
   go_ret
   exact ⟨ret_bool HE.out.symm, (Below.new _ _).later (Below.new _ _)⟩
set_option maxRecDepth 100000 in
set_option maxHeartbeats 4000000 in
theorem specSameTree_any (A A' : Option Addr) (n c n' c' : Nat) (fs gs : List NodeD) (w : World) (h : Nodes w w.heap.size A n fs) (h' : Nodes w w.heap.size A' n' gs) (hs : smallNs fs) (hs' : smallNs gs) :
 Calls Tryz.prog 11 #[.agg #[.slice A n c], .agg #[.slice A' n' c']] w fun e w' => e = .returned (.bool (decide (fs = gs))) ∧ Below w.heap.size w w' := by
 have hn : n ≤ 1048576 := by rw [← h.1]; exact hs.1
 have hn' : n' ≤ 1048576 := by rw [← h'.1]; exact hs'.1
 have HR : Hid (decide (fs = gs) = eqTr fs gs) := (eqTr_iff fs gs).symm
 have Hh := Lib.hid h
 have Hh' := Lib.hid h'
 have Hl := Lib.hid h.1
 have Hl' := Lib.hid h'.1
 have Hs := Lib.hid hs.2
 have Hs' := Lib.hid hs'.2
 clear h h' hs hs'
 generalize decide (fs = gs) = R at *
 have HB0 : Hid (Below w.heap.size w ((w.alloc (.cells #[.slice A n c] 26)).alloc (.cells #[.slice A' n' c'] 26))) := (Below.new _ _).later (Below.new _ _)
 have HX0 : Hid (Blk ((w.alloc (.cells #[.slice A n c] 26)).alloc (.cells #[.slice A' n' c'] 26)) w.heap.size 26 #[.slice A n c]) := heap_two0 _ _ _
 have HY0 : Hid (Blk ((w.alloc (.cells #[.slice A n c] 26)).alloc (.cells #[.slice A' n' c'] 26)) (w.heap.size + 1) 26 #[.slice A' n' c']) := heap_two1 _ _ _
 by_cases hne : n = n'
 · subst hne
   have hbn : ((n : Int) != (n : Int)) = false := by simp
   go_enter Tryz.func11, Tryz.ntmps11
   go_wp2_with fail
   generalize ((w.alloc (.cells #[.slice A n c] 26)).alloc (.cells #[.slice A' n c'] 26)) = WB at *
   go_loopw [5] (fun i wr => ∃ k : Nat, k ≤ n ∧ i = .int .i64 k ∧ Hid (Below WB.heap.size WB wr) ∧ Hid (R = eqTr (fs.drop k) (gs.drop k))) (fun i _ => n - (intOf i).toNat)
   case atStart => exact ⟨0, Nat.zero_le _, rfl, Below.refl _ _, by unfold Hid; rw [List.drop_zero, List.drop_zero]; exact HR.out⟩
   case round =>
    obtain ⟨k, hk, rfl, HBr, hS⟩ := hrel
    have HB := Lib.hid (HB0.out.later HBr.out)
    have x0 := (HX0.out.later HBr.out HX0.out.lt).cell 0
    have y0 := (HY0.out.later HBr.out HY0.out.lt).cell 0
    simp at x0 y0
    by_cases hlt : k < n
    · obtain ⟨b, o, rfl, hbB, hcell⟩ := (Hh.out.later HB.out).2 (by omega)
      obtain ⟨b', o', rfl, hbB', hcell'⟩ := (Hh'.out.later HB.out).2 (by omega)
      obtain ⟨c0, c1, c2, k0, k1, k2, hr⟩ := hcell k hlt
      obtain ⟨d0, d1, d2, j0, j1, j2, hr'⟩ := hcell' k hlt
      clear hcell hcell'
      have hl : k < fs.length := by rw [Hl.out]; exact hlt
      have hl' : k < gs.length := by rw [Hl'.out]; exact hlt
      have HS := Lib.hid (eqTr_step fs gs k hl hl')
      have HK := Lib.hid (fun W (hW : Below wr.heap.size wr W) => l03SameNode_any c0 c1 c2 d0 d1 d2 (fs.getD k default) (gs.getD k default) W (hr.later hW) (hr'.later hW) (Hs.out _ (getD_memQ fs k hl)).2.1.1 (Hs'.out _ (getD_memQ gs k hl')).2.1.1)
      clear hl hl'
      generalize fs.getD k default = s at *
      generalize gs.getD k default = t at *
      generalize hx : sameNb s t = x at *
      have HX := Lib.hid hx
      clear hx
      obtain ⟨rfl, ⟨S, m, q, rfl, _, _⟩, rfl⟩ := hr
      obtain ⟨rfl, ⟨S', m', q', rfl, _, _⟩, rfl⟩ := hr'
      have HSS : Hid (∀ W, Below wr.heap.size wr W → (W.cell? ⟨w.heap.size, 0, none⟩ = some (.slice (some ⟨b, o, none⟩) n c) ∧ W.cell? ⟨w.heap.size + 1, 0, none⟩ = some (.slice (some ⟨b', o', none⟩) n c') ∧ W.cell? ⟨b, o + k * 3, none⟩ = some (.string s.name) ∧ W.cell? ⟨b, o + k * 3 + 1, none⟩ = some (.slice S m q) ∧ W.cell? ⟨b, o + k * 3 + 2, none⟩ = some (.string s.val) ∧ W.cell? ⟨b', o' + k * 3, none⟩ = some (.string t.name) ∧ W.cell? ⟨b', o' + k * 3 + 1, none⟩ = some (.slice S' m' q') ∧ W.cell? ⟨b', o' + k * 3 + 2, none⟩ = some (.string t.val))) := fun W hW => ⟨cell_later hW x0, cell_later hW y0, cell_later hW k0, cell_later hW k1, cell_later hW k2, cell_later hW j0, cell_later hW j1, cell_later hW j2⟩
      go_wp2_with fail
      go_region_held3 (fun W => W.cell? ⟨w.heap.size, 0, none⟩ = some (.slice (some ⟨b, o, none⟩) n c) ∧ W.cell? ⟨w.heap.size + 1, 0, none⟩ = some (.slice (some ⟨b', o', none⟩) n c') ∧ W.cell? ⟨b, o + k * 3, none⟩ = some (.string s.name) ∧ W.cell? ⟨b, o + k * 3 + 1, none⟩ = some (.slice S m q) ∧ W.cell? ⟨b, o + k * 3 + 2, none⟩ = some (.string s.val) ∧ W.cell? ⟨b', o' + k * 3, none⟩ = some (.string t.name) ∧ W.cell? ⟨b', o' + k * 3 + 1, none⟩ = some (.slice S' m' q') ∧ W.cell? ⟨b', o' + k * 3 + 2, none⟩ = some (.string t.val))
       (first | exact HSS.out _ (Below.refl _ _).drew | exact HSS.out _ HB2.out | go_keep)
       ((go_at_call 44
         refine (HK.out _ (by exact (Below.refl _ _).drew)).mono ?_
         rintro e w2 ⟨rfl, hb2'⟩
         have HB2 := Lib.hid (undrew hb2')
         clear hb2'))
      have HB3 := Lib.hid (HBr.out.later HB2.out)
      clear x0 y0 k0 k1 k2 j0 j1 j2
      cases x
      · go_wp2_with fail
        go_ret
        exact ⟨ret_bool (by rw [hS.out, HS.out]; rfl), HB0.out.later HB3.out⟩
      · go_wp2_with fail
        go_roundw
        case rel => exact ⟨k + 1, by omega, by go_num, HB3.out, by unfold Hid; rw [hS.out, HS.out, Bool.true_and]⟩
        case measure => simp [intOf]; omega
    · have HE : Hid (R = true) := by unfold Hid; rw [hS.out, List.drop_of_length_le (by rw [Hl.out]; omega), List.drop_of_length_le (by rw [Hl'.out]; omega)]; rfl
      go_wp2_with fail
      go_ret
      exact ⟨ret_bool HE.out.symm, HB.out⟩
 · have HE : Hid (R = false) := by
    unfold Hid
    rw [HR.out, eqTr_iff]
    exact decide_eq_false (fun e => hne (by rw [← Hl.out, ← Hl'.out, e]))
   have hbn : ((n : Int) != (n' : Int)) = true := by simp; omega
   have hbn2 : ((n : Int) == (n' : Int)) = false := by simp; omega
   go_enter Tryz.func11, Tryz.ntmps11
   go_wp2_with fail
   go_ret
   exact ⟨ret_bool HE.out.symm, HB0.out⟩
end Go.Proofs.YtlicffeicmoifaaGreatDoor
namespace Go.Proofs.YtlicffeicmoifaaGreatDoor
open Go.RowKit
set_option linter.unusedVariables false
def NodePost (d : NodeD) (w : World) (e : Ending) (w' : World) : Prop := ∃ v, e = .returned (.agg #[.string d.name, v, .string d.val]) ∧ Own.SubO w' w.heap.size v d.subs ∧ Below w.heap.size w w'
theorem nd_own {X : World} {B p q : Nat} {v a b c u : Value} {ss : List ByteArray} {cs0 cs1 cs2 : Array Value} (h : Own.SubO X B v ss) (h1 : Blk (X.setCell ⟨p, 1, none⟩ u) p 89 cs1) (h0 : Blk X p 89 cs0) (h2 : Blk X q 89 cs2) (hpq : q ≠ p) :
 Own.SubO ((((X.setCell ⟨p, 1, none⟩ u).setCell ⟨q, 0, none⟩ a).setCell ⟨q, 1, none⟩ b).setCell ⟨q, 2, none⟩ c) B v ss := by
 have k0 := Own.SubO.setBlk (u := u) (i := 1) h h0 (by decide)
 have g1 : Blk (X.setCell ⟨p, 1, none⟩ u) q 89 cs2 := h2.far (p := ⟨p, 1, none⟩) hpq u
 have k1 := Own.SubO.setBlk (u := a) (i := 0) k0 g1 (by decide)
 have g2 := g1.set_ 0 a
 have k2 := Own.SubO.setBlk (u := b) (i := 1) k1 g2 (by decide)
 have g3 := g2.set_ 1 b
 exact Own.SubO.setBlk (u := c) (i := 2) k2 g3 (by decide)
theorem nd_frame {X w : World} {p q : Nat} {a b c u : Value} (h : Below w.heap.size w X) (hp : w.heap.size ≤ p := by omega) (hq : w.heap.size ≤ q := by omega) :
 Below w.heap.size w ((((X.setCell ⟨p, 1, none⟩ u).setCell ⟨q, 0, none⟩ a).setCell ⟨q, 1, none⟩ b).setCell ⟨q, 2, none⟩ c) :=
 (((h.setCell (p := ⟨p, 1, none⟩) hp u).setCell (p := ⟨q, 0, none⟩) hq a).setCell (p := ⟨q, 1, none⟩) hq b).setCell (p := ⟨q, 2, none⟩) hq c
set_option maxRecDepth 100000 in
set_option maxHeartbeats 2000000 in
theorem copyNode_any (c0 c1 c2 : Value) (d : NodeD) (w : World) (h : NodeR w w.heap.size c0 c1 c2 d) (hsm : d.subs.length ≤ 1048576) :
 Calls Tryz.prog 180 #[.agg #[c0, c1, c2]] w (NodePost d w) := by
 obtain ⟨rfl, ⟨S, m, q, rfl, hs, hmq⟩, rfl⟩ := h
 have hm : m ≤ 1048576 := by rw [← hs.1]; exact hsm
 have HK := Lib.hid (fun W (hW : Below w.heap.size w W) => CloneS_any S m q d.subs W (hs.later hW) hm)
 clear hs hsm
 unfold NodePost
 generalize d.name = nm at *
 generalize d.val = vl at *
 obtain ⟨WB, hWB⟩ : ∃ WB, WB = (w.alloc (.cells #[.string nm, .slice S m q, .string vl] 89)).alloc (.cells #[.string ⟨#[]⟩, .slice none 0 0, .string ⟨#[]⟩] 89) := ⟨_, rfl⟩
 have HB0 : Hid (Below w.heap.size w WB) := by subst hWB; exact (Below.new _ _).later (Below.new _ _)
 have HE0 : Hid (Blk WB w.heap.size 89 #[.string nm, .slice S m q, .string vl]) := by subst hWB; exact heap_two0 _ _ _
 have HE1 : Hid (Blk WB (w.heap.size + 1) 89 #[.string ⟨#[]⟩, .slice none 0 0, .string ⟨#[]⟩]) := by subst hWB; exact heap_two1 _ _ _
 have p2 := HE0.out.cell 1
 simp at p2
 go_enter Tryz.func180, Tryz.ntmps180
 go_wp2_with fail
 rw [← hWB]
 clear hWB
 refine (HK.out _ HB0.out).mono ?_
 rintro e w1 ⟨v1, rfl, ho1, hb1⟩
 have HB1 := Lib.hid (HB0.out.later hb1)
 have HF0 := Lib.hid (HE0.out.later hb1 HE0.out.lt)
 have HF1 := Lib.hid (HE1.out.later hb1 HE1.out.lt)
 have HO1 := Lib.hid (Own.own_base ho1 HB0.out.size)
 obtain ⟨A1, m1, q1, rfl⟩ : ∃ A1 m1 q1, v1 = .slice A1 m1 q1 := by
  obtain ⟨A, cap, e, _⟩ := Own.own_slice ho1
  exact ⟨A, _, cap, e⟩
 have r0 := HF0.out.cell 0
 have r1 := HF0.out.cell 1
 have r2 := HF0.out.cell 2
 have rf := HF0.out.frozen 1
 have rz := HF0.out.lt
 have y0 := HF1.out.cell 0
 have y1 := HF1.out.cell 1
 have y2 := HF1.out.cell 2
 have yf0 := HF1.out.frozen 0
 have yf1 := HF1.out.frozen 1
 have yf2 := HF1.out.frozen 2
 have yz := HF1.out.lt
 simp at r0 r1 r2 y0 y1 y2
 clear hb1 ho1 p2
 go_wp2_with fail
 refine bodyPost_ret (v := .agg #[.string nm, .slice A1 m1 q1, .string vl]) (by simp [results, Tryz.results180, go_sem, y0, y1, y2]) rfl ?_
 refine ⟨_, rfl, ?_, ?_⟩
 · exact nd_own HO1.out (HF0.out.set_ 1 _) HF0.out HF1.out (by omega)
 · exact nd_frame HB1.out
set_option maxRecDepth 100000 in
set_option maxHeartbeats 4000000 in
theorem copyTree_any (A : Option Addr) (n c : Nat) (fs : List NodeD) (w : World) (h : Nodes w w.heap.size A n fs) (hs : smallNs fs) :
 Calls Tryz.prog 94 #[.agg #[.slice A n c]] w (TreeOnly fs w) := by
 obtain ⟨i0, hi, hz0, hz1, hz2⟩ := info_parts infoNodeD
 have Hh := Lib.hid h
 have Hlen := Lib.hid h.1
 have Hsm := Lib.hid hs.2
 have hn : n ≤ 1048576 := by rw [← h.1]; exact hs.1
 clear h hs
 have HB0 : Hid (Below w.heap.size w (((w.alloc (.cells #[.slice A n c] 26)).alloc (.cells #[.slice none 0 0] 26)).alloc (.cells #[.slice none 0 0] 26))) := below_new3 w _ _ _
 have HY0 : Hid (Blk (((w.alloc (.cells #[.slice A n c] 26)).alloc (.cells #[.slice none 0 0] 26)).alloc (.cells #[.slice none 0 0] 26)) (w.heap.size + 1) 26 #[.slice none 0 0]) := heap_new1 _ _ _ _
 have HV0 : Hid (Blk (((w.alloc (.cells #[.slice A n c] 26)).alloc (.cells #[.slice none 0 0] 26)).alloc (.cells #[.slice none 0 0] 26)) (w.heap.size + 1 + 1) 26 #[.slice none 0 0]) := heap_new2 _ _ _ _
 go_enter Tryz.func94, Tryz.ntmps94
 go_wp2_with fail
 go_loopw [10] (fun i wr => ∃ (k : Nat) (v : Value), k ≤ n ∧ i = .int .i64 k ∧ Hid (Blk wr (w.heap.size + 1) 26 #[.slice none 0 0]) ∧ Hid (Blk wr (w.heap.size + 1 + 1) 26 #[v]) ∧ Hid (NodesO wr w.heap.size v (fs.take k)) ∧ Hid (Below w.heap.size w wr)) (fun i _ => n - (intOf i).toNat)
 case atStart => exact ⟨0, _, Nat.zero_le _, rfl, HY0.out, HV0.out, by unfold Hid; rw [List.take_zero]; exact nodesO_nil _ _, HB0.out⟩
 case round =>
  obtain ⟨k, v, hk, rfl, HY, HV, ⟨vs, ho⟩, HB⟩ := hrel
  have HO := Lib.hid ho
  clear ho
  clear HB0 HY0 HV0
  by_cases hlt : k < n
  · have hl : k < fs.length := by rw [Hlen.out]; exact hlt
    obtain ⟨bb, o, rfl, hbB, hcn⟩ := (Hh.out.later HB.out).2 (by omega)
    obtain ⟨c0, c1, c2, k0, k1, k2, hr⟩ := hcn k hlt
    clear hcn
    have hsd := Hsm.out _ (getD_memD fs k hl)
    have HT : Hid (fs.take (k + 1) = fs.take k ++ [fs.getD k default]) := by
     unfold Hid
     rw [List.take_succ_eq_append_getElem hl, List.getD_eq_getElem?_getD, List.getElem?_eq_getElem hl, Option.getD_some]
    have htl : (fs.take k).length = k := by rw [List.length_take]; omega
    have hrw := HO.out.row
    rw [htl] at hrw
    obtain ⟨g, cap, rfl, _, _, _⟩ := Own.own_slice hrw
    have HRW := Lib.hid hrw
    have HTL := Lib.hid htl
    clear htl hrw
    generalize fs.getD k default = d at *
    have HKC := Lib.hid (fun W (hW : Below wr.heap.size wr W) => copyNode_any c0 c1 c2 d W (hr.later hW) hsd.2.1.1)
    obtain ⟨rfl, ⟨A1, n1, p1, rfl, _, _⟩, rfl⟩ := hr
    unfold NodePost at HKC
    generalize hdn : d.name = dn at *
    generalize hdv : d.val = dv at *
    have HDN := Lib.hid hdn
    have HDV := Lib.hid hdv
    clear hsd hdn hdv
    have hbBz : bb < wr.heap.size := hbB
    go_wp2_with fail
    obtain ⟨V, hV⟩ : ∃ V, V = wr.alloc (.cells #[.string dn, .slice A1 n1 p1, .string dv] 89) := ⟨_, rfl⟩
    have HBV : Hid (Below wr.heap.size wr V) := by subst hV; exact Below.new _ _
    have HN5 : Hid (Blk V wr.heap.size 89 #[.string dn, .slice A1 n1 p1, .string dv]) := by subst hV; exact heap_alloc_new _ _
    rw [← hV]
    clear hV
    have n0 := HN5.out.cell 0
    have n1' := HN5.out.cell 1
    have n2 := HN5.out.cell 2
    have HVV := Lib.hid (HV.out.later HBV.out HV.out.lt)
    have pv := HVV.out.cell 0
    have zv := HVV.out.lt
    have fv := HVV.out.frozen 0
    have hwz := HB.out.size
    have hvz := HBV.out.size
    simp at n0 n1' n2 pv
    clear k0 k1 k2
    go_region_law (first
     | (refine step_append_lies _ (by rfl) _ _ _ (by rfl) w.heap.size 89 i0 _ 3 56 Tryz.underlying24 hi hz0 hz1 hz2 rfl (by omega) (.slice g k cap) k (Own.flat nodeK (fs.take k) vs) (by rfl) (by exact HRA.out)
         ⟨w4.heap.size, 0, none⟩ 1 1 [.string dn, .slice A2 m2 c2, .string dv] (by rfl) (by rfl) (by exact cells_newN w4 #[.string dn, .slice A2 m2 c2, .string dv] _) (by simp [Value.oneCell'])
         (by omega) (by unfold maxLen; omega) (by omega) (by simp; omega) (w4.heap.size + 1) (by simp) ?_
        intro gg cap' w5 hown5 hgrow5 hat hlt2
        have hbg := (HV4.out.alloc (.cells #[.string dn, .slice A2 m2 c2, .string dv] 89)).grown hgrow5 (fun e => Own.own_blk_ne HRA.out (HV4.out.alloc _) (by decide) e.symm)
        have pv5 := hbg.cell
        have fv5 := hbg.frozen
        have zv5 := hbg.lt
        have HBG := Lib.hid hbg
        have HOW := Lib.hid hown5
        have HGR := Lib.hid hgrow5
        clear hown5 hgrow5 hbg)
     | (go_simp
        go_at_call 180
        refine (HKC.out _ (by exact HBV.out.drew)).mono ?_
        rintro e w4 ⟨v2, rfl, hs2, hb4'⟩
        have hb4 := undrew hb4'
        obtain ⟨A2, m2, c2, rfl⟩ : ∃ A2 m2 c2, v2 = .slice A2 m2 c2 := by obtain ⟨A, cap, e, _⟩ := Own.own_slice hs2; exact ⟨A, _, cap, e⟩
        have HS2 := Lib.hid hs2
        have HB4 := Lib.hid (HBV.out.later hb4)
        have HV4 := Lib.hid (HVV.out.later hb4 HVV.out.lt)
        have pv4 := HV4.out.cell 0
        have zv4 := HV4.out.lt
        have fv4 := HV4.out.frozen 0
        simp at pv4
        have hsz4 := hb4.size
        have HRA := Lib.hid (Own.own_later (Own.own_later HRW.out HB4.out) (Below.new w4 (.cells #[.string dn, .slice A2 m2 c2, .string dv] 89)))
        clear hb4 hb4' hs2))
    all_goals
     have HN4 := Lib.hid (HB4.out.later (Below.new w4 (.cells #[.string dn, .slice A2 m2 c2, .string dv] 89)))
     have HY4 := Lib.hid ((HY.out.later HN4.out HY.out.lt).grown HGR.out (fun e => Own.own_blk_ne HRA.out (HY.out.later HN4.out HY.out.lt) (by decide) e.symm))
     have HN5 : Hid (Below w.heap.size w w5) := ((HB.out.later HN4.out)).grown HGR.out (by simp; omega) (fun g' hg' => (World.ownsRow.lt HRA.out g' hg').1)
     have HO5 : Hid (Own.OwnL nodeK w5 w.heap.size 89 (.slice (some ⟨gg, 0, none⟩) (k + 1) cap') (fs.take (k + 1)) (vs ++ [.slice A2 m2 c2])) := by
      unfold Hid
      rw [HT.out]
      refine Own.OwnL.snoc (HO.out.later HN4.out) (Own.own_later (Own.own_base HS2.out (by simp; omega)) (Below.new _ _)) (HO.out.fresh HS2.out (by simp; omega)) ?_ (by first | exact HGR.out | (rw [HTL.out]; exact HGR.out)) (by decide)
      rw [HTL.out]
      have hx := HOW.out
      rw [← HDN.out, ← HDV.out] at hx
      exact hx
     clear n0 n1' n2 pv4 pv
     go_wp2_with fail
     go_roundw
     case rel => exact ⟨k + 1, _, by omega, by go_num, HY4.out.far (show w.heap.size + 1 ≠ w.heap.size + 1 + 1 by omega) _, HBG.out.set_ 0 _, NodesO.setBlk ⟨_, HO5.out⟩ HBG.out (by decide) (by decide), HN5.out.setCell (show w.heap.size ≤ w.heap.size + 1 + 1 by omega) _⟩
     case measure => simp [intOf]; omega
  · have ht : fs.take k = fs := List.take_of_length_le (by rw [Hlen.out]; omega)
    have HO2 : Hid (Own.OwnL nodeK wr w.heap.size 89 v fs vs) := by have h2 := HO.out; rwa [ht] at h2
    obtain ⟨A3, cap3, rfl, _, _⟩ := NodesO.reads ⟨vs, HO2.out⟩
    have pv := HV.out.cell 0
    have zv := HV.out.lt
    have fv := HV.out.frozen 0
    have py := HY.out.cell 0
    have zy := HY.out.lt
    have fy := HY.out.frozen 0
    simp at pv py
    go_wp2_with fail
    refine bodyPost_ret (v := .agg #[.slice A3 _ cap3]) (by simp [results, Tryz.results94, go_sem, py]; try rfl) rfl ?_
    exact ⟨_, rfl, NodesO.setBlk ⟨vs, HO2.out⟩ HY.out (by decide) (by decide), HB.out.setCell (show w.heap.size ≤ w.heap.size + 1 by omega) _⟩
end Go.Proofs.YtlicffeicmoifaaGreatDoor
namespace Go.Proofs.YtlicffeicmoifaaGreatDoor
open Go.RowKit
theorem zero_cells_mem {zero : Array Value} {m : Nat} {u : Value} (h : u ∈ (Builtin.zeroCells zero m).toList) : u ∈ zero.toList := by
 unfold Builtin.zeroCells at h
 simp only [Array.toList_map, List.mem_map] at h
 obtain ⟨i, hi, rfl⟩ := h
 have hi' : i < m * zero.size := by simpa using hi
 have hz : 0 < zero.size := by
  rcases Nat.eq_zero_or_pos zero.size with e | e
  · rw [e] at hi'; omega
  · exact e
 rw [getElem!_pos zero _ (Nat.mod_lt _ hz)]
 simp
theorem zeroNode (w : World) : (zeroValue 89).run Tryz.prog w = .ok (.agg #[.string .empty, .slice none 0 0, .string .empty]) w := by kernel_rfl
end Go.Proofs.YtlicffeicmoifaaGreatDoor
