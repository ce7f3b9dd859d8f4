import Derived.Test.YtlicffeicmoifaaGreatDoorZ27
import Derived.Test.YtlicffeicmoifaaGreatDoorZ14
import Derived.Test.YtlicffeicmoifaaGreatDoorZ26
set_option linter.unusedSimpArgs false
namespace Go.Proofs.YtlicffeicmoifaaGreatDoor
open Go.RowKit
set_option linter.unusedVariables false
theorem idxF_getA {α : Type} [Inhabited α] (p : α → Bool) : ∀ (l : List α) (k : Nat), 0 ≤ idxF p l k → ∃ j, j < l.length ∧ idxF p l k = ((k + j : Nat) : Int) ∧ p (l.getD j default) = true
 | [], _, h => by simp [idxF] at h
 | x :: r, k, h => by
   unfold idxF at h ⊢
   by_cases hd : p x = true
   · exact ⟨0, by simp, by rw [if_pos hd]; rfl, by simpa using hd⟩
   · rw [if_neg hd] at h ⊢
     obtain ⟨j, h1, h2, h3⟩ := idxF_getA p r (k + 1) h
     exact ⟨j + 1, by simpa using h1, by rw [h2]; congr 1; omega, by simpa using h3⟩
theorem ev_kept {X Y : World} {B p q : Nat} {v : Value} {ss : List ByteArray} {cs0 cs1 : Array Value} (h : Own.SubO X B v ss) (k : Own.Chg (fun g => g = p ∨ g = q) X Y) (h0 : Blk X p 37 cs0) (h1 : Blk X q 37 cs1) : Own.SubO Y B v ss :=
 Own.own_chg h k (fun g hg hp => by
  rcases hp with rfl | rfl
  · exact Own.own_blk_ne h h0 (by decide) hg
  · exact Own.own_blk_ne h h1 (by decide) hg)
theorem blk_five {X : World} {p : Nat} {a0 a1 a2 a3 a4 : Value} (h : Blk X p 37 #[a0, a1, a2, a3, a4]) (a b c d e : Value) : Blk (((((X.setCell ⟨p, 0, none⟩ a).setCell ⟨p, 1, none⟩ b).setCell ⟨p, 2, none⟩ c).setCell ⟨p, 3, none⟩ d).setCell ⟨p, 4, none⟩ e) p 37 #[a, b, c, d, e] := by
 have h2 := ((((h.set_ 0 a).set_ 1 b).set_ 2 c).set_ 3 d).set_ 4 e
 simpa using h2
structure AgS (w : World) (t p r : Nat) (T v : Value) (ss : List ByteArray) (cs : Array Value) (X : World) : Prop where
 tree : Blk X t 26 #[T]
 ev : Blk X p 37 cs
 res : Blk X r 37 #[.int .i64 0, .string ⟨#[]⟩, .slice none 0 0, .string ⟨#[]⟩, .int .i64 0]
 sub : Own.SubO X w.heap.size v ss
 bel : Below w.heap.size w X
section
variable {w X Y : World} {t p r : Nat} {T v : Value} {ss : List ByteArray} {cs : Array Value}
theorem AgS.later (h : AgS w t p r T v ss cs X) (hb : Below X.heap.size X Y) : AgS w t p r T v ss cs Y := ⟨h.tree.later hb h.tree.lt, h.ev.later hb h.ev.lt, h.res.later hb h.res.lt, Own.own_later h.sub hb, h.bel.later hb⟩
theorem AgS.set (h : AgS w t p r T v ss cs X) (htp : t ≠ p) (hrp : r ≠ p) (hp : w.heap.size ≤ p) (i : Nat) (u : Value) : AgS w t p r T v ss (cs.setIfInBounds i u) (X.setCell ⟨p, i, none⟩ u) :=
 ⟨h.tree.far (p := ⟨p, i, none⟩) htp u, h.ev.set_ i u, h.res.far (p := ⟨p, i, none⟩) hrp u, Own.SubO.setBlk h.sub h.ev (by decide), h.bel.setCell (p := ⟨p, i, none⟩) hp u⟩
theorem AgS.fin (h : AgS w t p r T v ss cs X) (hr : w.heap.size ≤ r) (a b c d e : Value) : Own.SubO (((((X.setCell ⟨r, 0, none⟩ a).setCell ⟨r, 1, none⟩ b).setCell ⟨r, 2, none⟩ c).setCell ⟨r, 3, none⟩ d).setCell ⟨r, 4, none⟩ e) w.heap.size v ss ∧ Below w.heap.size w (((((X.setCell ⟨r, 0, none⟩ a).setCell ⟨r, 1, none⟩ b).setCell ⟨r, 2, none⟩ c).setCell ⟨r, 3, none⟩ d).setCell ⟨r, 4, none⟩ e) := by
 have k : Own.Chg (fun g => g = r ∨ g = r) X (((((X.setCell ⟨r, 0, none⟩ a).setCell ⟨r, 1, none⟩ b).setCell ⟨r, 2, none⟩ c).setCell ⟨r, 3, none⟩ d).setCell ⟨r, 4, none⟩ e) := chgS (chgS (chgS (chgS (chgS (Own.Chg.refl _ _) (.inl rfl)) (.inl rfl)) (.inl rfl)) (.inl rfl)) (.inl rfl)
 exact ⟨ev_kept h.sub k h.res h.res, Own.Chg.below h.bel k (fun g hg => by rcases hg with rfl | rfl <;> exact hr) (Nat.le_refl _)⟩
end
theorem where_thing {e : EvD} (h : whereB e = true) (hk : e.kind ≠ 5) : nameB e.name = true ∧ thingB e.name e.subs = true := by
 unfold whereB at h
 rw [if_neg hk, Bool.and_eq_true] at h
 exact ⟨h.1, by unfold thingB; rw [h.1, h.2]; rfl⟩
theorem where_level {e : EvD} (h : whereB e = true) (hk : e.kind = 5) : nameB e.name = true ∧ levelB e.subs = true := by
 unfold whereB at h
 rw [if_pos hk, Bool.and_eq_true] at h
 exact h
theorem reads_kinds {e : EvD} (h : readsB e = true) : e.kind = 1 ∨ e.kind = 4 ∨ e.kind = 5 ∨ e.kind = 6 := by
 unfold readsB at h
 simpa only [Bool.or_eq_true, decide_eq_true_eq] using h
theorem qry_putE {fs : List NodeD} {nm : ByteArray} {ss : List ByteArray} (ht : treeB fs = true) (hc : cleanT fs) (h : 0 ≤ qryI nm ss fs) : subsB (fs.getD (qryI nm ss fs).toNat default).subs = true ∧ (∀ s ∈ (fs.getD (qryI nm ss fs).toNat default).subs, pureS s) := by
 unfold qryI at h ⊢
 obtain ⟨j, hj, e, _⟩ := idxF_getA (qryP nm ss) fs 0 h
 rw [e]
 have hm := getD_memD fs j hj
 rw [show ((0 + j : Nat) : Int).toNat = j by omega]
 refine ⟨?_, (hc _ hm).1⟩
 have h2 := (tree_iff.1 ht).2.1 _ hm
 unfold nodeB thingB at h2
 simp only [Bool.and_eq_true] at h2
 exact h2.1.2
set_option maxRecDepth 100000 in
set_option maxHeartbeats 16000000 in
theorem l25Again_any (A : Option Addr) (n c : Nat) (fs : List NodeD) (c0 c1 c2 c3 c4 : Value) (d : EvD) (w : World) (hN : Nodes w w.heap.size A n fs) (ht : treeB fs = true) (hcl : cleanT fs) (h : EvR w w.heap.size c0 c1 c2 c3 c4 d) (hsm : d.small) (hwh : whereB d = true) (hrd : readsB d = true) :
 Calls Tryz.prog 101 #[.agg #[.slice A n c], .agg #[c0, c1, c2, c3, c4]] w (EvPost (againB fs d) w) := by
 have HKO := Lib.hid (fun W (hW : Below w.heap.size w W) => l25Own_any c0 c1 c2 c3 c4 d W (h.later hW) hsm.2.1.1)
 have HN := Lib.hid hN
 have hkinds := reads_kinds hrd
 have HEQ : Hid (∀ v e w', e = .returned (.agg #[.int .i64 (againB fs d).kind, .string (againB fs d).name, v, .string (againB fs d).val, .int .i64 (againB fs d).n]) → Own.SubO w' w.heap.size v d.subs → Below w.heap.size w w' → EvPost (againB fs d) w e w') := fun v e w' h1 h2 h3 => ⟨v, h1, by
  have e2 : (againB fs d).subs = d.subs := by
   unfold againB
   repeat' split
   all_goals rfl
  rw [e2]; exact h2, h3⟩
 obtain ⟨rfl, rfl, ⟨S, m, q, rfl, hs, hmq⟩, rfl, rfl⟩ := h
 have hm : m ≤ 1048576 := by rw [← hs.1]; exact hsm.2.1.1
 have Hsl : Hid (d.subs.length = m) := hs.1
 have hz := hsm.2.1.2
 have hns := hsm.1
 have HG := Lib.hid (fun (hk : d.kind ≠ 5) A1 m1 q1 W (hW : Below w.heap.size w W) (hS : Strs W W.heap.size A1 m1 d.subs) (hm1 : m1 ≤ 1048576) => GetNode_true A n c fs d.name A1 m1 q1 d.subs W (hN.later hW) ht hS hm1 (where_thing hwh hk).2 hns hz)
 have HD := Lib.hid (fun (hk : d.kind ≠ 5) A1 m1 q1 W (hW : Below w.heap.size w W) (hS : Strs W W.heap.size A1 m1 d.subs) (hm1 : m1 ≤ 1048576) => DataOf_any A n c fs d.name A1 m1 q1 d.subs W (hN.later hW) (tree_small ht) hS hm1 hns hz)
 have HDB : Hid (d.kind ≠ 5 → dataB fs d.name d.subs = dataF d.name d.subs fs) := fun hk => by unfold dataB; rw [ht, (where_thing hwh hk).2]; rfl
 have HO := Lib.hid (fun (hk : d.kind = 5) A1 m1 q1 bk W (hW : Below w.heap.size w W) (hS : Strs W W.heap.size A1 m1 d.subs) (hmq : m1 ≤ q1) => OrderOf_true A n c fs d.name A1 m1 q1 d.subs bk W (hN.later hW) ht hS hmq (where_level hwh hk).1 hns (where_level hwh hk).2 hz)
 have HQ := Lib.hid (fun (hk : d.kind ≠ 5) A1 m1 q1 W (hW : Below w.heap.size w W) (hS : Strs W W.heap.size A1 m1 d.subs) (hm1 : m1 ≤ 1048576) => specQueryOf_true A n c fs d.name A1 m1 q1 d.subs W (hN.later hW) ht hS hm1 (where_thing hwh hk).2 hns hz)
 have HQP := Lib.hid (fun (h : 0 ≤ qryI d.name d.subs fs) => qry_putE ht hcl h)
 have HAG : Hid (againB fs d = if d.kind = 1 then ⟨d.kind, d.name, d.subs, getF fs d.name d.subs, dataF d.name d.subs fs⟩ else if d.kind = 4 then ⟨d.kind, d.name, d.subs, d.val, dataF d.name d.subs fs⟩ else if d.kind = 5 then ⟨d.kind, d.name, d.subs, ordF d.name d.subs (decide (d.n < 0)) fs, d.n⟩ else ⟨d.kind, d.name, d.subs, qryV d.name d.subs fs, qryN d.name d.subs fs⟩) := rfl
 have HGF : Hid (hasN fs d.name d.subs = false → getF fs d.name d.subs = ⟨#[]⟩) := fun h => by unfold getF; rw [if_neg (by rw [h]; exact Bool.false_ne_true)]
 have HQV : Hid (qryV d.name d.subs fs = if 0 ≤ qryI d.name d.subs fs then putE (fs.getD (qryI d.name d.subs fs).toNat default).subs else ⟨#[]⟩) := rfl
 have HQN : Hid (qryN d.name d.subs fs = if 0 ≤ qryI d.name d.subs fs then 1 else 0) := rfl
 clear hN ht hcl hs hsm hwh hrd hz
 generalize EvPost (againB fs d) w = POST at *
 generalize againB fs d = R at *
 unfold EvPost at HKO
 obtain ⟨WB, hWB⟩ : ∃ WB, WB = ((w.alloc (.cells #[.slice A n c] 26)).alloc (.cells #[.int .i64 d.kind, .string d.name, .slice S m q, .string d.val, .int .i64 d.n] 37)).alloc (.cells #[.int .i64 0, .string ⟨#[]⟩, .slice none 0 0, .string ⟨#[]⟩, .int .i64 0] 37) := ⟨_, rfl⟩
 have HB0 : Hid (Below w.heap.size w WB) := by subst hWB; exact below_new3 w _ _ _
 have HT0 : Hid (Blk WB w.heap.size 26 #[.slice A n c]) := by subst hWB; exact heap_new0 _ _ _ _
 have HE0 : Hid (Blk WB (w.heap.size + 1) 37 #[.int .i64 d.kind, .string d.name, .slice S m q, .string d.val, .int .i64 d.n]) := by subst hWB; exact heap_new1 _ _ _ _
 have HR0 : Hid (Blk WB (w.heap.size + 1 + 1) 37 #[.int .i64 0, .string ⟨#[]⟩, .slice none 0 0, .string ⟨#[]⟩, .int .i64 0]) := by subst hWB; exact heap_new2 _ _ _ _
 generalize hkd : d.kind = kd at *
 generalize hnm : d.name = nm at *
 generalize hvl : d.val = vl at *
 generalize hnn : d.n = nn at *
 clear hkd hnm hvl hnn
 have p0 := HE0.out.cell 0
 have p1 := HE0.out.cell 1
 have p2 := HE0.out.cell 2
 have p3 := HE0.out.cell 3
 have p4 := HE0.out.cell 4
 simp at p0 p1 p2 p3 p4
 go_enter Tryz.func101, Tryz.ntmps101
 go_wp2_with fail
 rw [← hWB]
 clear hWB
 refine (HKO.out _ HB0.out).mono ?_
 rintro e w1 ⟨v1, rfl, ho1, hb1⟩
 have HT1 := Lib.hid (HT0.out.later hb1 HT0.out.lt)
 have HE1 := Lib.hid (HE0.out.later hb1 HE0.out.lt)
 have HR1 := Lib.hid (HR0.out.later hb1 HR0.out.lt)
 have HB1 := Lib.hid (HB0.out.later hb1)
 have HO1 := Lib.hid (Own.own_base ho1 HB0.out.size)
 obtain ⟨A1, q1, e1, hq1, _⟩ := Own.SubO.strs ho1
 rw [Hsl.out] at e1 hq1
 subst e1
 clear ho1 hb1 p0 p1 p2 p3 p4 HE0 HT0 HR0 HB0 HKO
 obtain ⟨W2, hW2⟩ : ∃ W2, W2 = ((((w1.setCell ⟨w.heap.size + 1, 0, none⟩ (.int .i64 kd)).setCell ⟨w.heap.size + 1, 1, none⟩ (.string nm)).setCell ⟨w.heap.size + 1, 2, none⟩ (.slice A1 m q1)).setCell ⟨w.heap.size + 1, 3, none⟩ (.string vl)).setCell ⟨w.heap.size + 1, 4, none⟩ (.int .i64 nn) := ⟨_, rfl⟩
 have hc2 : Own.Chg (fun g => g = w.heap.size + 1 ∨ g = w.heap.size + 1 + 1) w1 W2 := by
  subst hW2
  exact chgS (chgS (chgS (chgS (chgS (Own.Chg.refl _ _) (.inl rfl)) (.inl rfl)) (.inl rfl)) (.inl rfl)) (.inl rfl)
 have HO2 : Hid (Own.SubO W2 w.heap.size (.slice A1 m q1) d.subs) := ev_kept HO1.out hc2 HE1.out HR1.out
 have HB2 : Hid (Below w.heap.size w W2) := Own.Chg.below HB1.out hc2 (fun g hg => by rcases hg with rfl | rfl <;> omega) (Nat.le_refl _)
 have HT2 : Hid (Blk W2 w.heap.size 26 #[.slice A n c]) := Own.Blk.chg HT1.out hc2 (fun hg => by rcases hg with h | h <;> omega)
 have HE2 : Hid (Blk W2 (w.heap.size + 1) 37 #[.int .i64 kd, .string nm, .slice A1 m q1, .string vl, .int .i64 nn]) := by subst hW2; exact blk_five HE1.out _ _ _ _ _
 have HR2 : Hid (Blk W2 (w.heap.size + 1 + 1) 37 #[.int .i64 0, .string ⟨#[]⟩, .slice none 0 0, .string ⟨#[]⟩, .int .i64 0]) := by
  subst hW2
  exact ((((HR1.out.far (p := ⟨w.heap.size + 1, 0, none⟩) (by simp) _).far (p := ⟨w.heap.size + 1, 1, none⟩) (by simp) _).far (p := ⟨w.heap.size + 1, 2, none⟩) (by simp) _).far (p := ⟨w.heap.size + 1, 3, none⟩) (by simp) _).far (p := ⟨w.heap.size + 1, 4, none⟩) (by simp) _
 have a0 := HE1.out.cell 0
 have a1 := HE1.out.cell 1
 have a2 := HE1.out.cell 2
 have a3 := HE1.out.cell 3
 have a4 := HE1.out.cell 4
 have af0 := HE1.out.frozen 0
 have af1 := HE1.out.frozen 1
 have af2 := HE1.out.frozen 2
 have af3 := HE1.out.frozen 3
 have af4 := HE1.out.frozen 4
 have az := HE1.out.lt
 simp at a0 a1 a2 a3 a4
 have HS2 : Hid (Strs W2 W2.heap.size A1 m d.subs) := by
  obtain ⟨A', q', e', _, hS⟩ := Own.SubO.strs HO2.out
  rw [Hsl.out] at e' hS
  injection e' with e1 _ _
  subst e1
  exact hS
 have b0 := HE2.out.cell 0
 have b1 := HE2.out.cell 1
 have b2 := HE2.out.cell 2
 have b3 := HE2.out.cell 3
 have b4 := HE2.out.cell 4
 simp at b0 b1 b2 b3 b4
 have tb1 := HT1.out.cell 0
 have tb := HT2.out.cell 0
 simp at tb tb1
 clear hc2
 have HS0 : Hid (AgS w w.heap.size (w.heap.size + 1) (w.heap.size + 1 + 1) (.slice A n c) (.slice A1 m q1) d.subs #[.int .i64 kd, .string nm, .slice A1 m q1, .string vl, .int .i64 nn] W2) := ⟨HT2.out, HE2.out, HR2.out, HO2.out, HB2.out⟩
 rcases hkinds with rfl | rfl | rfl | rfl
 · have HRE : Hid (R = ⟨1, nm, d.subs, getF fs nm d.subs, dataF nm d.subs fs⟩) := HAG.out
   have HGK := Lib.hid (HG.out (by decide) A1 m q1 W2 HB2.out HS2.out hm)
   have HDK := Lib.hid (HD.out (by decide) A1 m q1)
   rw [HDB.out (by decide)] at HDK
   generalize dataF nm d.subs fs = dv at *
   generalize hgv : getF fs nm d.subs = gv at *
   have HGV := Lib.hid hgv
   clear hgv
   go_wp2_with fail
   rw [← hW2]
   clear hW2 HE1 HR1 HT1 HT2 HE2 HR2 HO2 HB2 HS2 tb1 tb b0 b1 b2 b3 b4 a0 a1 a2 a3 a4 af0 af1 af2 af3 af4 az
   refine HGK.out.mono ?_
   rintro e w3 ⟨rfl, hb3⟩
   have HS3 := Lib.hid (HS0.out.later hb3)
   clear hb3 HGK HS0
   generalize hy : hasN fs nm d.subs = y at *
   have HY := Lib.hid hy
   clear hy
   have xE := Lib.hid HS3.out.ev
   have xR := Lib.hid HS3.out.res
   have xT := HS3.out.tree.cell 0
   simp at xT
   have xe0 := xE.out.cell 0
   have xe1 := xE.out.cell 1
   have xe2 := xE.out.cell 2
   have xe3 := xE.out.cell 3
   have xe4 := xE.out.cell 4
   have xef0 := xE.out.frozen 0
   have xef1 := xE.out.frozen 1
   have xef2 := xE.out.frozen 2
   have xef3 := xE.out.frozen 3
   have xef4 := xE.out.frozen 4
   have xez := xE.out.lt
   simp at xe0 xe1 xe2 xe3 xe4
   have xr0 := xR.out.cell 0
   have xr1 := xR.out.cell 1
   have xr2 := xR.out.cell 2
   have xr3 := xR.out.cell 3
   have xr4 := xR.out.cell 4
   have xrf0 := xR.out.frozen 0
   have xrf1 := xR.out.frozen 1
   have xrf2 := xR.out.frozen 2
   have xrf3 := xR.out.frozen 3
   have xrf4 := xR.out.frozen 4
   have xrz := xR.out.lt
   simp at xr0 xr1 xr2 xr3 xr4
   cases y
   · have HG0 : Hid (gv = ⟨#[]⟩) := HGF.out rfl
     have HRE2 : Hid (R = ⟨1, nm, d.subs, ⟨#[]⟩, dv⟩) := by unfold Hid; rw [HRE.out, HG0.out]
     obtain ⟨W4, hW4⟩ : ∃ W4, W4 = (w3.setCell ⟨w.heap.size + 1, 3, none⟩ (.string ⟨#[]⟩)) := ⟨_, rfl⟩
     have HS4 : Hid (AgS w w.heap.size (w.heap.size + 1) (w.heap.size + 1 + 1) (.slice A n c) (.slice A1 m q1) d.subs #[.int .i64 1, .string nm, .slice A1 m q1, .string ⟨#[]⟩, .int .i64 nn] W4) := by
      subst hW4
      exact (HS3.out.set (by omega) (by omega) (by omega) 3 (.string ⟨#[]⟩))
     have HS4S : Hid (Strs W4 W4.heap.size A1 m d.subs) := by
      obtain ⟨A', q', e', _, hS⟩ := Own.SubO.strs HS4.out.sub
      rw [Hsl.out] at e' hS
      injection e' with e1 _ _
      subst e1
      exact hS
     go_wp2_with fail
     rw [← hW4]
     clear hW4 xT xe0 xe1 xe2 xe3 xe4 xef0 xef1 xef2 xef3 xef4 xez xr0 xr1 xr2 xr3 xr4 xrf0 xrf1 xrf2 xrf3 xrf4 xrz
     refine (HDK.out _ HS4.out.bel HS4S.out hm).mono ?_
     rintro e w5 ⟨rfl, hb5⟩
     have HS5 := Lib.hid (HS4.out.later hb5)
     clear hb5 HDK HS4 HS4S HS3
     have zE := Lib.hid HS5.out.ev
     have zR := Lib.hid HS5.out.res
     have zT := HS5.out.tree.cell 0
     simp at zT
     have ze0 := zE.out.cell 0
     have ze1 := zE.out.cell 1
     have ze2 := zE.out.cell 2
     have ze3 := zE.out.cell 3
     have ze4 := zE.out.cell 4
     have zef0 := zE.out.frozen 0
     have zef1 := zE.out.frozen 1
     have zef2 := zE.out.frozen 2
     have zef3 := zE.out.frozen 3
     have zef4 := zE.out.frozen 4
     have zez := zE.out.lt
     simp at ze0 ze1 ze2 ze3 ze4
     have zr0 := zR.out.cell 0
     have zr1 := zR.out.cell 1
     have zr2 := zR.out.cell 2
     have zr3 := zR.out.cell 3
     have zr4 := zR.out.cell 4
     have zrf0 := zR.out.frozen 0
     have zrf1 := zR.out.frozen 1
     have zrf2 := zR.out.frozen 2
     have zrf3 := zR.out.frozen 3
     have zrf4 := zR.out.frozen 4
     have zrz := zR.out.lt
     simp at zr0 zr1 zr2 zr3 zr4
     have HZ0 := Lib.hid (HS5.out.set (by omega) (by omega) (by omega) 4 (.int .i64 dv))
     have hfin := fun a b c d e => HZ0.out.fin (by omega) a b c d e
     have HFIN := Lib.hid hfin
     clear hfin
     go_wp2_with fail
     refine bodyPost_ret (v := .agg #[.int .i64 1, .string nm, .slice A1 m q1, .string ⟨#[]⟩, .int .i64 dv]) (by simp [results, Tryz.results101, go_sem, zr0, zr1, zr2, zr3, zr4]) rfl ?_
     exact HEQ.out (.slice A1 m q1) _ _ (by rw [HRE2.out]) (HFIN.out _ _ _ _ _).1 (HFIN.out _ _ _ _ _).2
   · have HRE2 := HRE
     obtain ⟨W4, hW4⟩ : ∃ W4, W4 = ((w3.setCell ⟨w.heap.size + 1, 3, none⟩ (.string ⟨#[]⟩)).setCell ⟨w.heap.size + 1, 3, none⟩ (.string gv)) := ⟨_, rfl⟩
     have HS4 : Hid (AgS w w.heap.size (w.heap.size + 1) (w.heap.size + 1 + 1) (.slice A n c) (.slice A1 m q1) d.subs #[.int .i64 1, .string nm, .slice A1 m q1, .string gv, .int .i64 nn] W4) := by
      subst hW4
      exact ((HS3.out.set (by omega) (by omega) (by omega) 3 (.string ⟨#[]⟩)).set (by omega) (by omega) (by omega) 3 (.string gv))
     have HS4S : Hid (Strs W4 W4.heap.size A1 m d.subs) := by
      obtain ⟨A', q', e', _, hS⟩ := Own.SubO.strs HS4.out.sub
      rw [Hsl.out] at e' hS
      injection e' with e1 _ _
      subst e1
      exact hS
     go_wp2_with fail
     rw [← hW4]
     clear hW4 xT xe0 xe1 xe2 xe3 xe4 xef0 xef1 xef2 xef3 xef4 xez xr0 xr1 xr2 xr3 xr4 xrf0 xrf1 xrf2 xrf3 xrf4 xrz
     refine (HDK.out _ HS4.out.bel HS4S.out hm).mono ?_
     rintro e w5 ⟨rfl, hb5⟩
     have HS5 := Lib.hid (HS4.out.later hb5)
     clear hb5 HDK HS4 HS4S HS3
     have zE := Lib.hid HS5.out.ev
     have zR := Lib.hid HS5.out.res
     have zT := HS5.out.tree.cell 0
     simp at zT
     have ze0 := zE.out.cell 0
     have ze1 := zE.out.cell 1
     have ze2 := zE.out.cell 2
     have ze3 := zE.out.cell 3
     have ze4 := zE.out.cell 4
     have zef0 := zE.out.frozen 0
     have zef1 := zE.out.frozen 1
     have zef2 := zE.out.frozen 2
     have zef3 := zE.out.frozen 3
     have zef4 := zE.out.frozen 4
     have zez := zE.out.lt
     simp at ze0 ze1 ze2 ze3 ze4
     have zr0 := zR.out.cell 0
     have zr1 := zR.out.cell 1
     have zr2 := zR.out.cell 2
     have zr3 := zR.out.cell 3
     have zr4 := zR.out.cell 4
     have zrf0 := zR.out.frozen 0
     have zrf1 := zR.out.frozen 1
     have zrf2 := zR.out.frozen 2
     have zrf3 := zR.out.frozen 3
     have zrf4 := zR.out.frozen 4
     have zrz := zR.out.lt
     simp at zr0 zr1 zr2 zr3 zr4
     have HZ0 := Lib.hid (HS5.out.set (by omega) (by omega) (by omega) 4 (.int .i64 dv))
     have hfin := fun a b c d e => HZ0.out.fin (by omega) a b c d e
     have HFIN := Lib.hid hfin
     clear hfin
     go_wp2_with fail
     refine bodyPost_ret (v := .agg #[.int .i64 1, .string nm, .slice A1 m q1, .string gv, .int .i64 dv]) (by simp [results, Tryz.results101, go_sem, zr0, zr1, zr2, zr3, zr4]) rfl ?_
     exact HEQ.out (.slice A1 m q1) _ _ (by rw [HRE2.out]) (HFIN.out _ _ _ _ _).1 (HFIN.out _ _ _ _ _).2
 · have HRE2 : Hid (R = ⟨4, nm, d.subs, vl, dataF nm d.subs fs⟩) := HAG.out
   have HDK := Lib.hid (HD.out (by decide) A1 m q1)
   rw [HDB.out (by decide)] at HDK
   generalize dataF nm d.subs fs = dv at *
   go_wp2_with fail
   rw [← hW2]
   clear hW2 HE1 HR1 HT1 HT2 HE2 HR2 HO2 HB2 tb1 tb b0 b1 b2 b3 b4 a0 a1 a2 a3 a4 af0 af1 af2 af3 af4 az
   refine (HDK.out _ HS0.out.bel HS2.out hm).mono ?_
   rintro e w5 ⟨rfl, hb5⟩
   have HS5 := Lib.hid (HS0.out.later hb5)
   clear hb5 HDK HS0 HS2
   have zE := Lib.hid HS5.out.ev
   have zR := Lib.hid HS5.out.res
   have zT := HS5.out.tree.cell 0
   simp at zT
   have ze0 := zE.out.cell 0
   have ze1 := zE.out.cell 1
   have ze2 := zE.out.cell 2
   have ze3 := zE.out.cell 3
   have ze4 := zE.out.cell 4
   have zef0 := zE.out.frozen 0
   have zef1 := zE.out.frozen 1
   have zef2 := zE.out.frozen 2
   have zef3 := zE.out.frozen 3
   have zef4 := zE.out.frozen 4
   have zez := zE.out.lt
   simp at ze0 ze1 ze2 ze3 ze4
   have zr0 := zR.out.cell 0
   have zr1 := zR.out.cell 1
   have zr2 := zR.out.cell 2
   have zr3 := zR.out.cell 3
   have zr4 := zR.out.cell 4
   have zrf0 := zR.out.frozen 0
   have zrf1 := zR.out.frozen 1
   have zrf2 := zR.out.frozen 2
   have zrf3 := zR.out.frozen 3
   have zrf4 := zR.out.frozen 4
   have zrz := zR.out.lt
   simp at zr0 zr1 zr2 zr3 zr4
   have HZ0 := Lib.hid (HS5.out.set (by omega) (by omega) (by omega) 4 (.int .i64 dv))
   have hfin := fun a b c d e => HZ0.out.fin (by omega) a b c d e
   have HFIN := Lib.hid hfin
   clear hfin
   go_wp2_with fail
   refine bodyPost_ret (v := .agg #[.int .i64 4, .string nm, .slice A1 m q1, .string vl, .int .i64 dv]) (by simp [results, Tryz.results101, go_sem, zr0, zr1, zr2, zr3, zr4]) rfl ?_
   exact HEQ.out (.slice A1 m q1) _ _ (by rw [HRE2.out]) (HFIN.out _ _ _ _ _).1 (HFIN.out _ _ _ _ _).2
 · have HRE2 : Hid (R = ⟨5, nm, d.subs, ordF nm d.subs (decide (nn < 0)) fs, nn⟩) := HAG.out
   have HOK := Lib.hid (HO.out rfl A1 m q1 (decide (nn < 0)))
   generalize ordF nm d.subs (decide (nn < 0)) fs = ov at *
   go_wp2_with fail
   rw [← hW2]
   clear hW2 HE1 HR1 HT1 HT2 HE2 HR2 HO2 HB2 tb1 tb b0 b1 b2 b3 b4 a0 a1 a2 a3 a4 af0 af1 af2 af3 af4 az
   refine (HOK.out _ HS0.out.bel HS2.out hq1).mono ?_
   rintro e w5 ⟨rfl, hb5⟩
   have HS5 := Lib.hid (HS0.out.later hb5)
   clear hb5 HOK HS0 HS2
   have zE := Lib.hid HS5.out.ev
   have zR := Lib.hid HS5.out.res
   have zT := HS5.out.tree.cell 0
   simp at zT
   have ze0 := zE.out.cell 0
   have ze1 := zE.out.cell 1
   have ze2 := zE.out.cell 2
   have ze3 := zE.out.cell 3
   have ze4 := zE.out.cell 4
   have zef0 := zE.out.frozen 0
   have zef1 := zE.out.frozen 1
   have zef2 := zE.out.frozen 2
   have zef3 := zE.out.frozen 3
   have zef4 := zE.out.frozen 4
   have zez := zE.out.lt
   simp at ze0 ze1 ze2 ze3 ze4
   have zr0 := zR.out.cell 0
   have zr1 := zR.out.cell 1
   have zr2 := zR.out.cell 2
   have zr3 := zR.out.cell 3
   have zr4 := zR.out.cell 4
   have zrf0 := zR.out.frozen 0
   have zrf1 := zR.out.frozen 1
   have zrf2 := zR.out.frozen 2
   have zrf3 := zR.out.frozen 3
   have zrf4 := zR.out.frozen 4
   have zrz := zR.out.lt
   simp at zr0 zr1 zr2 zr3 zr4
   have HZ0 := Lib.hid (HS5.out.set (by omega) (by omega) (by omega) 3 (.string ov))
   have hfin := fun a b c d e => HZ0.out.fin (by omega) a b c d e
   have HFIN := Lib.hid hfin
   clear hfin
   go_wp2_with fail
   refine bodyPost_ret (v := .agg #[.int .i64 5, .string nm, .slice A1 m q1, .string ov, .int .i64 nn]) (by simp [results, Tryz.results101, go_sem, zr0, zr1, zr2, zr3, zr4]) rfl ?_
   exact HEQ.out (.slice A1 m q1) _ _ (by rw [HRE2.out]) (HFIN.out _ _ _ _ _).1 (HFIN.out _ _ _ _ _).2
 · have HRE : Hid (R = ⟨6, nm, d.subs, qryV nm d.subs fs, qryN nm d.subs fs⟩) := HAG.out
   have HQK := Lib.hid (HQ.out (by decide) A1 m q1 W2 HB2.out HS2.out hm)
   unfold QryPost at HQK
   go_wp2_with fail
   rw [← hW2]
   clear hW2 HE1 HR1 HT1 HT2 HE2 HR2 HO2 HB2 HS2 tb1 tb b0 b1 b2 b3 b4 a0 a1 a2 a3 a4 af0 af1 af2 af3 af4 az
   refine HQK.out.mono ?_
   rintro e w3 ⟨v3, rfl, ho3, hb3⟩
   have HS3 := Lib.hid (HS0.out.later hb3)
   clear hb3 HQK HS0
   generalize hI : qryI nm d.subs fs = I at *
   have HO3 := Lib.hid ho3
   clear ho3 hI
   have xE := Lib.hid HS3.out.ev
   have xR := Lib.hid HS3.out.res
   have xT := HS3.out.tree.cell 0
   simp at xT
   have xe0 := xE.out.cell 0
   have xe1 := xE.out.cell 1
   have xe2 := xE.out.cell 2
   have xe3 := xE.out.cell 3
   have xe4 := xE.out.cell 4
   have xef0 := xE.out.frozen 0
   have xef1 := xE.out.frozen 1
   have xef2 := xE.out.frozen 2
   have xef3 := xE.out.frozen 3
   have xef4 := xE.out.frozen 4
   have xez := xE.out.lt
   simp at xe0 xe1 xe2 xe3 xe4
   have xr0 := xR.out.cell 0
   have xr1 := xR.out.cell 1
   have xr2 := xR.out.cell 2
   have xr3 := xR.out.cell 3
   have xr4 := xR.out.cell 4
   have xrf0 := xR.out.frozen 0
   have xrf1 := xR.out.frozen 1
   have xrf2 := xR.out.frozen 2
   have xrf3 := xR.out.frozen 3
   have xrf4 := xR.out.frozen 4
   have xrz := xR.out.lt
   simp at xr0 xr1 xr2 xr3 xr4
   by_cases hI0 : 0 ≤ I
   · rw [decide_eq_true hI0]
     have hp3 := HQP.out hI0
     rw [if_pos hI0] at HO3
     have HRE2 : Hid (R = ⟨6, nm, d.subs, putE (fs.getD I.toNat default).subs, 1⟩) := by unfold Hid; rw [HRE.out, HQV.out, HQN.out, if_pos hI0, if_pos hI0]
     clear HRE HQV HQN HQP HAG
     generalize (fs.getD I.toNat default).subs = gs at *
     obtain ⟨A3, q3, rfl, hq3, hs3⟩ := Own.SubO.strs HO3.out
     have hg4 : gs.length ≤ 4 := by have := hp3.1; unfold subsB at this; rw [Bool.and_eq_true, decide_eq_true_eq] at this; exact this.1
     have hgz : ∀ s ∈ gs, s.size ≤ 1048576 := fun s hs => by
      have := hp3.1
      unfold subsB at this
      rw [Bool.and_eq_true, List.all_eq_true] at this
      have h2 := this.2 s hs
      unfold subB at h2
      rw [Bool.and_eq_true, decide_eq_true_eq, decide_eq_true_eq] at h2
      omega
     obtain ⟨W4, hW4⟩ : ∃ W4, W4 = ((w3.setCell ⟨w.heap.size + 1, 4, none⟩ (.int .i64 0)).setCell ⟨w.heap.size + 1, 3, none⟩ (.string ⟨#[]⟩)).setCell ⟨w.heap.size + 1, 4, none⟩ (.int .i64 1) := ⟨_, rfl⟩
     have HS4 : Hid (AgS w w.heap.size (w.heap.size + 1) (w.heap.size + 1 + 1) (.slice A n c) (.slice A1 m q1) d.subs #[.int .i64 6, .string nm, .slice A1 m q1, .string ⟨#[]⟩, .int .i64 1] W4) := by
      subst hW4
      exact ((HS3.out.set (by omega) (by omega) (by omega) 4 (.int .i64 0)).set (by omega) (by omega) (by omega) 3 (.string ⟨#[]⟩)).set (by omega) (by omega) (by omega) 4 (.int .i64 1)
     have HG4 : Hid (Strs W4 W4.heap.size A3 gs.length gs) := by
      have k : Own.Chg (fun g => g = w.heap.size + 1 ∨ g = w.heap.size + 1) w3 W4 := by
       subst hW4
       exact chgS (chgS (chgS (Own.Chg.refl _ _) (.inl rfl)) (.inl rfl)) (.inl rfl)
      have h5 := ev_kept HO3.out k HS3.out.ev HS3.out.ev
      obtain ⟨A', q', e', _, hS⟩ := Own.SubO.strs h5
      injection e' with e1 _ _
      subst e1
      exact hS
     have HPK := Lib.hid (specPutSubs_any A3 gs.length q3 gs W4 HG4.out (by omega) hgz hp3.2 hp3.1)
     clear hs3 hgz hp3 HG4
     generalize gs.length = gl at *
     go_wp2_with fail
     rw [← hW4]
     clear hW4 xT xe0 xe1 xe2 xe3 xe4 xef0 xef1 xef2 xef3 xef4 xez xr0 xr1 xr2 xr3 xr4 xrf0 xrf1 xrf2 xrf3 xrf4 xrz
     refine HPK.out.mono ?_
     rintro e w5 ⟨rfl, hb5⟩
     have HS5 := Lib.hid (HS4.out.later hb5)
     clear hb5 HPK HS4 HS3
     generalize putE gs = pv at *
     have zE := Lib.hid HS5.out.ev
     have zR := Lib.hid HS5.out.res
     have zT := HS5.out.tree.cell 0
     simp at zT
     have ze0 := zE.out.cell 0
     have ze1 := zE.out.cell 1
     have ze2 := zE.out.cell 2
     have ze3 := zE.out.cell 3
     have ze4 := zE.out.cell 4
     have zef0 := zE.out.frozen 0
     have zef1 := zE.out.frozen 1
     have zef2 := zE.out.frozen 2
     have zef3 := zE.out.frozen 3
     have zef4 := zE.out.frozen 4
     have zez := zE.out.lt
     simp at ze0 ze1 ze2 ze3 ze4
     have zr0 := zR.out.cell 0
     have zr1 := zR.out.cell 1
     have zr2 := zR.out.cell 2
     have zr3 := zR.out.cell 3
     have zr4 := zR.out.cell 4
     have zrf0 := zR.out.frozen 0
     have zrf1 := zR.out.frozen 1
     have zrf2 := zR.out.frozen 2
     have zrf3 := zR.out.frozen 3
     have zrf4 := zR.out.frozen 4
     have zrz := zR.out.lt
     simp at zr0 zr1 zr2 zr3 zr4
     have HZ0 := Lib.hid (HS5.out.set (by omega) (by omega) (by omega) 3 (.string pv))
     have hfin := fun a b c d e => HZ0.out.fin (by omega) a b c d e
     have HFIN := Lib.hid hfin
     clear hfin
     go_wp2_with fail
     refine bodyPost_ret (v := .agg #[.int .i64 6, .string nm, .slice A1 m q1, .string pv, .int .i64 1]) (by simp [results, Tryz.results101, go_sem, zr0, zr1, zr2, zr3, zr4]) rfl ?_
     exact HEQ.out (.slice A1 m q1) _ _ (by rw [HRE2.out]) (HFIN.out _ _ _ _ _).1 (HFIN.out _ _ _ _ _).2
   · rw [decide_eq_false hI0]
     have HRE2 : Hid (R = ⟨6, nm, d.subs, ⟨#[]⟩, 0⟩) := by unfold Hid; rw [HRE.out, HQV.out, HQN.out, if_neg hI0, if_neg hI0]
     clear HRE HQV HQN HQP HAG HO3 hI0
     have HZ0 := Lib.hid (HS3.out.set (by omega) (by omega) (by omega) 4 (.int .i64 0))
     have HZ1 := Lib.hid (HZ0.out.set (by omega) (by omega) (by omega) 3 (.string ⟨#[]⟩))
     have hfin := fun a b c d e => HZ1.out.fin (by omega) a b c d e
     have HFIN := Lib.hid hfin
     clear hfin
     go_wp2_with fail
     refine bodyPost_ret (v := .agg #[.int .i64 6, .string nm, .slice A1 m q1, .string ⟨#[]⟩, .int .i64 0]) (by simp [results, Tryz.results101, go_sem, xr0, xr1, xr2, xr3, xr4]) rfl ?_
     exact HEQ.out (.slice A1 m q1) _ _ (by rw [HRE2.out]) (HFIN.out _ _ _ _ _).1 (HFIN.out _ _ _ _ _).2
end Go.Proofs.YtlicffeicmoifaaGreatDoor
