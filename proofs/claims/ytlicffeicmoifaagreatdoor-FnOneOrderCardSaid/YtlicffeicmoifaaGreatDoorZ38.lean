import Derived.Test.YtlicffeicmoifaaGreatDoorZ28
import Derived.Test.YtlicffeicmoifaaGreatDoorZ37
import Derived.Test.YtlicffeicmoifaaGreatDoorZ17
set_option linter.unusedSimpArgs false
namespace Go.Proofs.YtlicffeicmoifaaGreatDoor
open Go.RowKit
set_option linter.unusedVariables false
set_option maxRecDepth 100000 in
set_option maxHeartbeats 16000000 in
theorem again_any (A : Option Addr) (n c : Nat) (fs : List NodeD) (c0 c1 c2 c3 c4 : Value) (d : EvD) (w : World) (htab : tabT w) (hN : Nodes w w.heap.size A n fs) (ht : treeB fs = true) (hcl : cleanT fs) (h : EvR w w.heap.size c0 c1 c2 c3 c4 d) (hsm : d.small) (hwh : whereB d = true) (hrd : readsB d = true) :
 Calls Tryz.prog 184 #[.agg #[.slice A n c], .agg #[c0, c1, c2, c3, c4]] w (EvPost (againB fs d) w) := by
 have HKO := Lib.hid (fun W (hW : Below w.heap.size w W) => copyEvent_any c0 c1 c2 c3 c4 d W (h.later hW) hsm.2.1.1)
 have hkinds := reads_kinds hrd
 have HEQ : Hid (∀ v e w', e = .returned (.agg #[.int .i64 (againB fs d).kind, .string (againB fs d).name, v, .string (againB fs d).val, .int .i64 (againB fs d).n]) → Own.SubO w' w.heap.size v d.subs → Below w.heap.size w w' → EvPost (againB fs d) w e w') := fun v e w' h1 h2 h3 => ⟨v, h1, by
  have e2 : (againB fs d).subs = d.subs := by
   unfold againB
   repeat' split
   all_goals rfl
  rw [e2]; exact h2, h3⟩
 obtain ⟨rfl, rfl, ⟨S, m, q, rfl, hs, hmq⟩, rfl, rfl⟩ := h
 have hm : m ≤ 1048576 := by rw [← hs.1]; exact hsm.2.1.1
 have Hsl : Hid (d.subs.length = m) := hs.1
 have hz := hsm.2.1.2
 have hns := hsm.1
 have HT := Lib.hid htab
 have hsd : (⟨d.name, d.subs, ByteArray.empty⟩ : NodeD).small := ⟨hsm.1, hsm.2.1, by show (0 : Nat) ≤ _; omega⟩
 have HG := Lib.hid (fun (hk : d.kind ≠ 5) W (hW : Below w.heap.size w W) => get_any A n c fs d.name S m q d.subs W (tab_later htab hW) (hN.later hW) ht (hs.later hW) hmq hsd)
 have HD := Lib.hid (fun (hk : d.kind ≠ 5) W (hW : Below w.heap.size w W) => data_any A n c fs d.name S m q d.subs W (hN.later hW) (tree_small ht) (hs.later hW) hm)
 have HO : Hid (d.kind = 5 → ∀ bk W, Below w.heap.size w W → Calls Tryz.prog 246 #[.agg #[.slice A n c], .string d.name, .slice S m q, .bool bk] W fun e w' => e = .returned (.string (ordF d.name d.subs bk fs)) ∧ Below W.heap.size W w') := fun hk bk W hW => by
  obtain ⟨hl1, hl2, _, _⟩ := level_parts (where_level hwh hk).2
  have hs2 := hs.later hW
  rw [hs.1] at hl1
  cases m with
  | zero => omega
  | succ mm => exact order_any A n c fs d.name S mm q d.subs bk W (tab_later htab hW) (hN.later hW) (tree_small ht) hs2 hmq hm hz
 have HQ := Lib.hid (fun (hk : d.kind ≠ 5) W (hW : Below w.heap.size w W) => QueryOf_true A n c fs d.name S m q d.subs W (tab_later htab hW) (hN.later hW) ht (hs.later hW) hm (where_thing hwh hk).2 hns hz)
 have HQP := Lib.hid (fun (h : 0 ≤ qryI d.name d.subs fs) => qry_putE ht hcl h)
 have HAG : Hid (againB fs d = if d.kind = 1 then ⟨d.kind, d.name, d.subs, getF fs d.name d.subs, dataF d.name d.subs fs⟩ else if d.kind = 4 then ⟨d.kind, d.name, d.subs, d.val, dataF d.name d.subs fs⟩ else if d.kind = 5 then ⟨d.kind, d.name, d.subs, ordF d.name d.subs (decide (d.n < 0)) fs, d.n⟩ else ⟨d.kind, d.name, d.subs, qryV d.name d.subs fs, qryN d.name d.subs fs⟩) := rfl
 have HQV : Hid (qryV d.name d.subs fs = if 0 ≤ qryI d.name d.subs fs then putE (fs.getD (qryI d.name d.subs fs).toNat default).subs else ⟨#[]⟩) := rfl
 have HQN : Hid (qryN d.name d.subs fs = if 0 ≤ qryI d.name d.subs fs then 1 else 0) := rfl
 clear hN ht hcl hs hsm hwh hrd hz htab hsd
 generalize EvPost (againB fs d) w = POST at *
 generalize againB fs d = R at *
 unfold EvPost at HKO
 obtain ⟨WB, hWB⟩ : ∃ WB, WB = ((w.alloc (.cells #[.slice A n c] 26)).alloc (.cells #[.int .i64 d.kind, .string d.name, .slice S m q, .string d.val, .int .i64 d.n] 37)).alloc (.cells #[.int .i64 0, .string ⟨#[]⟩, .slice none 0 0, .string ⟨#[]⟩, .int .i64 0] 37) := ⟨_, rfl⟩
 have HB0 : Hid (Below w.heap.size w WB) := by subst hWB; exact below_new3 w _ _ _
 have HT0 : Hid (Blk WB w.heap.size 26 #[.slice A n c]) := by subst hWB; exact heap_new0 _ _ _ _
 have HE0 : Hid (Blk WB (w.heap.size + 1) 37 #[.int .i64 d.kind, .string d.name, .slice S m q, .string d.val, .int .i64 d.n]) := by subst hWB; exact heap_new1 _ _ _ _
 have HR0 : Hid (Blk WB (w.heap.size + 1 + 1) 37 #[.int .i64 0, .string ⟨#[]⟩, .slice none 0 0, .string ⟨#[]⟩, .int .i64 0]) := by subst hWB; exact heap_new2 _ _ _ _
 generalize hkd : d.kind = kd at *
 generalize hnm : d.name = nm at *
 generalize hvl : d.val = vl at *
 generalize hnn : d.n = nn at *
 clear hkd hnm hvl hnn
 have p0 := HE0.out.cell 0
 have p1 := HE0.out.cell 1
 have p2 := HE0.out.cell 2
 have p3 := HE0.out.cell 3
 have p4 := HE0.out.cell 4
 simp at p0 p1 p2 p3 p4
 go_enter Tryz.func184, Tryz.ntmps184
 go_wp2_with fail
 rw [← hWB]
 clear hWB
 refine (HKO.out _ HB0.out).mono ?_
 rintro e w1 ⟨v1, rfl, ho1, hb1⟩
 have HT1 := Lib.hid (HT0.out.later hb1 HT0.out.lt)
 have HE1 := Lib.hid (HE0.out.later hb1 HE0.out.lt)
 have HR1 := Lib.hid (HR0.out.later hb1 HR0.out.lt)
 have HB1 := Lib.hid (HB0.out.later hb1)
 have HO1 := Lib.hid (Own.own_base ho1 HB0.out.size)
 obtain ⟨A1, q1, e1, hq1, _⟩ := Own.SubO.strs ho1
 rw [Hsl.out] at e1 hq1
 subst e1
 have hlr := HR1.out.lt
 have hle1 := HE1.out.lt
 have hlt1 := HT1.out.lt
 clear ho1 hb1 p0 p1 p2 p3 p4 HE0 HT0 HR0 HB0 HKO
 obtain ⟨W2, hW2⟩ : ∃ W2, W2 = w1.alloc (.cells #[.int .i64 kd, .string nm, .slice A1 m q1, .string vl, .int .i64 nn] 37) := ⟨_, rfl⟩
 have HS0 : Hid (AgS w w.heap.size w1.heap.size (w.heap.size + 1 + 1) (.slice A n c) (.slice A1 m q1) d.subs #[.int .i64 kd, .string nm, .slice A1 m q1, .string vl, .int .i64 nn] W2) := by
  subst hW2
  exact ⟨HT1.out.alloc _, heap_alloc_new _ _, HR1.out.alloc _, Own.own_later HO1.out (Below.new _ _), HB1.out.later (Below.new _ _)⟩
 have HEO : Hid (Blk W2 (w.heap.size + 1) 37 #[.int .i64 kd, .string nm, .slice S m q, .string vl, .int .i64 nn]) := by subst hW2; exact HE1.out.alloc _
 have a0 := HE1.out.cell 0
 have a1 := HE1.out.cell 1
 have a2 := HE1.out.cell 2
 have a3 := HE1.out.cell 3
 have a4 := HE1.out.cell 4
 simp at a0 a1 a2 a3 a4
 have tb1 := HT1.out.cell 0
 simp at tb1
 have HO1' := HO1
 have HB1' := HB1
 have HR1' := HR1
 have HT1' := HT1
 clear HO1 HB1 HR1 HE1 HT1
 rcases hkinds with rfl | rfl | rfl | rfl
 · have HRE2 : Hid (R = ⟨1, nm, d.subs, getF fs nm d.subs, dataF nm d.subs fs⟩) := HAG.out
   have HGK := Lib.hid (HG.out (by decide) W2 HS0.out.bel)
   have HDK := Lib.hid (HD.out (by decide))
   generalize dataF nm d.subs fs = dv at *
   generalize getF fs nm d.subs = gv at *
   go_wp2_with fail
   rw [← hW2]
   clear hW2 tb1 HO1' HB1' HR1' HT1'  a0 a1 a2 a3 a4
   refine HGK.out.mono ?_
   rintro e w3 ⟨rfl, hb3⟩
   have HS3 := Lib.hid (HS0.out.later hb3)
   have HE3 := Lib.hid (HEO.out.later hb3 HEO.out.lt)
   clear hb3 HGK HS0 HEO
   generalize hasN fs nm d.subs = y at *
   have xE := Lib.hid HS3.out.ev
   have xR := Lib.hid HS3.out.res
   have xT := HS3.out.tree.cell 0
   simp at xT
   have xe0 := xE.out.cell 0
   have xe1 := xE.out.cell 1
   have xe2 := xE.out.cell 2
   have xe3 := xE.out.cell 3
   have xe4 := xE.out.cell 4
   have xef0 := xE.out.frozen 0
   have xef1 := xE.out.frozen 1
   have xef2 := xE.out.frozen 2
   have xef3 := xE.out.frozen 3
   have xef4 := xE.out.frozen 4
   have xez := xE.out.lt
   simp at xe0 xe1 xe2 xe3 xe4
   have xr0 := xR.out.cell 0
   have xr1 := xR.out.cell 1
   have xr2 := xR.out.cell 2
   have xr3 := xR.out.cell 3
   have xr4 := xR.out.cell 4
   have xrf0 := xR.out.frozen 0
   have xrf1 := xR.out.frozen 1
   have xrf2 := xR.out.frozen 2
   have xrf3 := xR.out.frozen 3
   have xrf4 := xR.out.frozen 4
   have xrz := xR.out.lt
   simp at xr0 xr1 xr2 xr3 xr4
   have u0 := HE3.out.cell 0
   have u1 := HE3.out.cell 1
   have u2 := HE3.out.cell 2
   have u3 := HE3.out.cell 3
   have u4 := HE3.out.cell 4
   simp at u0 u1 u2 u3 u4
   obtain ⟨W4, hW4⟩ : ∃ W4, W4 = w3.setCell ⟨w1.heap.size, 3, none⟩ (.string gv) := ⟨_, rfl⟩
   have HS4 : Hid (AgS w w.heap.size w1.heap.size (w.heap.size + 1 + 1) (.slice A n c) (.slice A1 m q1) d.subs #[.int .i64 1, .string nm, .slice A1 m q1, .string gv, .int .i64 nn] W4) := by
    subst hW4
    exact HS3.out.set (by omega) (by omega) (by omega) 3 (.string gv)
   go_wp2_with fail
   rw [← hW4]
   clear hW4 xT xe0 xe1 xe2 xe3 xe4 xef0 xef1 xef2 xef3 xef4 xez xr0 xr1 xr2 xr3 xr4 xrf0 xrf1 xrf2 xrf3 xrf4 xrz u0 u1 u2 u3 u4
   refine (HDK.out _ HS4.out.bel).mono ?_
   rintro e w5 ⟨rfl, hb5⟩
   have HS5 := Lib.hid (HS4.out.later hb5)
   clear hb5 HDK HS4 HS3
   have zE := Lib.hid HS5.out.ev
   have zR := Lib.hid HS5.out.res
   have zT := HS5.out.tree.cell 0
   simp at zT
   have ze0 := zE.out.cell 0
   have ze1 := zE.out.cell 1
   have ze2 := zE.out.cell 2
   have ze3 := zE.out.cell 3
   have ze4 := zE.out.cell 4
   have zef0 := zE.out.frozen 0
   have zef1 := zE.out.frozen 1
   have zef2 := zE.out.frozen 2
   have zef3 := zE.out.frozen 3
   have zef4 := zE.out.frozen 4
   have zez := zE.out.lt
   simp at ze0 ze1 ze2 ze3 ze4
   have zr0 := zR.out.cell 0
   have zr1 := zR.out.cell 1
   have zr2 := zR.out.cell 2
   have zr3 := zR.out.cell 3
   have zr4 := zR.out.cell 4
   have zrf0 := zR.out.frozen 0
   have zrf1 := zR.out.frozen 1
   have zrf2 := zR.out.frozen 2
   have zrf3 := zR.out.frozen 3
   have zrf4 := zR.out.frozen 4
   have zrz := zR.out.lt
   simp at zr0 zr1 zr2 zr3 zr4
   have HZ0 := Lib.hid (HS5.out.set (by omega) (by omega) (by omega) 4 (.int .i64 dv))
   have hfin := fun a b c d e => HZ0.out.fin (by omega) a b c d e
   have HFIN := Lib.hid hfin
   clear hfin
   go_wp2_with fail
   refine bodyPost_ret (v := .agg #[.int .i64 1, .string nm, .slice A1 m q1, .string gv, .int .i64 dv]) (by simp [results, Tryz.results184, go_sem, zr0, zr1, zr2, zr3, zr4]) rfl ?_
   exact HEQ.out (.slice A1 m q1) _ _ (by rw [HRE2.out]) (HFIN.out _ _ _ _ _).1 (HFIN.out _ _ _ _ _).2
 · have HRE2 : Hid (R = ⟨4, nm, d.subs, vl, dataF nm d.subs fs⟩) := HAG.out
   have HDK := Lib.hid (HD.out (by decide) W2 HS0.out.bel)
   generalize dataF nm d.subs fs = dv at *
   go_wp2_with fail
   rw [← hW2]
   clear hW2 tb1 HO1' HB1' HR1' HT1'  a0 a1 a2 a3 a4
   refine HDK.out.mono ?_
   rintro e w5 ⟨rfl, hb5⟩
   have HS5 := Lib.hid (HS0.out.later hb5)
   clear hb5 HDK HS0 HEO
   have zE := Lib.hid HS5.out.ev
   have zR := Lib.hid HS5.out.res
   have zT := HS5.out.tree.cell 0
   simp at zT
   have ze0 := zE.out.cell 0
   have ze1 := zE.out.cell 1
   have ze2 := zE.out.cell 2
   have ze3 := zE.out.cell 3
   have ze4 := zE.out.cell 4
   have zef0 := zE.out.frozen 0
   have zef1 := zE.out.frozen 1
   have zef2 := zE.out.frozen 2
   have zef3 := zE.out.frozen 3
   have zef4 := zE.out.frozen 4
   have zez := zE.out.lt
   simp at ze0 ze1 ze2 ze3 ze4
   have zr0 := zR.out.cell 0
   have zr1 := zR.out.cell 1
   have zr2 := zR.out.cell 2
   have zr3 := zR.out.cell 3
   have zr4 := zR.out.cell 4
   have zrf0 := zR.out.frozen 0
   have zrf1 := zR.out.frozen 1
   have zrf2 := zR.out.frozen 2
   have zrf3 := zR.out.frozen 3
   have zrf4 := zR.out.frozen 4
   have zrz := zR.out.lt
   simp at zr0 zr1 zr2 zr3 zr4
   have HZ0 := Lib.hid (HS5.out.set (by omega) (by omega) (by omega) 4 (.int .i64 dv))
   have hfin := fun a b c d e => HZ0.out.fin (by omega) a b c d e
   have HFIN := Lib.hid hfin
   clear hfin
   go_wp2_with fail
   refine bodyPost_ret (v := .agg #[.int .i64 4, .string nm, .slice A1 m q1, .string vl, .int .i64 dv]) (by simp [results, Tryz.results184, go_sem, zr0, zr1, zr2, zr3, zr4]) rfl ?_
   exact HEQ.out (.slice A1 m q1) _ _ (by rw [HRE2.out]) (HFIN.out _ _ _ _ _).1 (HFIN.out _ _ _ _ _).2
 · have HRE2 : Hid (R = ⟨5, nm, d.subs, ordF nm d.subs (decide (nn < 0)) fs, nn⟩) := HAG.out
   have HOK := Lib.hid (HO.out rfl (decide (nn < 0)) W2 HS0.out.bel)
   generalize ordF nm d.subs (decide (nn < 0)) fs = ov at *
   go_wp2_with fail
   rw [← hW2]
   clear hW2 tb1 HO1' HB1' HR1' HT1'  a0 a1 a2 a3 a4
   refine HOK.out.mono ?_
   rintro e w5 ⟨rfl, hb5⟩
   have HS5 := Lib.hid (HS0.out.later hb5)
   clear hb5 HOK HS0 HEO
   have zE := Lib.hid HS5.out.ev
   have zR := Lib.hid HS5.out.res
   have zT := HS5.out.tree.cell 0
   simp at zT
   have ze0 := zE.out.cell 0
   have ze1 := zE.out.cell 1
   have ze2 := zE.out.cell 2
   have ze3 := zE.out.cell 3
   have ze4 := zE.out.cell 4
   have zef0 := zE.out.frozen 0
   have zef1 := zE.out.frozen 1
   have zef2 := zE.out.frozen 2
   have zef3 := zE.out.frozen 3
   have zef4 := zE.out.frozen 4
   have zez := zE.out.lt
   simp at ze0 ze1 ze2 ze3 ze4
   have zr0 := zR.out.cell 0
   have zr1 := zR.out.cell 1
   have zr2 := zR.out.cell 2
   have zr3 := zR.out.cell 3
   have zr4 := zR.out.cell 4
   have zrf0 := zR.out.frozen 0
   have zrf1 := zR.out.frozen 1
   have zrf2 := zR.out.frozen 2
   have zrf3 := zR.out.frozen 3
   have zrf4 := zR.out.frozen 4
   have zrz := zR.out.lt
   simp at zr0 zr1 zr2 zr3 zr4
   have HZ0 := Lib.hid (HS5.out.set (by omega) (by omega) (by omega) 3 (.string ov))
   have hfin := fun a b c d e => HZ0.out.fin (by omega) a b c d e
   have HFIN := Lib.hid hfin
   clear hfin
   go_wp2_with fail
   refine bodyPost_ret (v := .agg #[.int .i64 5, .string nm, .slice A1 m q1, .string ov, .int .i64 nn]) (by simp [results, Tryz.results184, go_sem, zr0, zr1, zr2, zr3, zr4]) rfl ?_
   exact HEQ.out (.slice A1 m q1) _ _ (by rw [HRE2.out]) (HFIN.out _ _ _ _ _).1 (HFIN.out _ _ _ _ _).2
 · have HRE : Hid (R = ⟨6, nm, d.subs, qryV nm d.subs fs, qryN nm d.subs fs⟩) := HAG.out
   obtain ⟨W3, hW3⟩ : ∃ W3, W3 = w1.alloc (.cells #[.int .i64 6, .string nm, .slice A1 m q1, .string ⟨#[]⟩, .int .i64 0] 37) := ⟨_, rfl⟩
   have HS3 : Hid (AgS w w.heap.size w1.heap.size (w.heap.size + 1 + 1) (.slice A n c) (.slice A1 m q1) d.subs #[.int .i64 6, .string nm, .slice A1 m q1, .string ⟨#[]⟩, .int .i64 0] W3) := by
    subst hW3
    exact ⟨HT1'.out.alloc _, heap_alloc_new _ _, HR1'.out.alloc _, Own.own_later HO1'.out (Below.new _ _), HB1'.out.later (Below.new _ _)⟩
   have HQK := Lib.hid (HQ.out (by decide) W3 HS3.out.bel)
   unfold QryPost at HQK
   clear hW2 HS0 HEO
   go_wp2_with fail
   rw [← hW3]
   clear hW3 tb1 a0 a1 a2 a3 a4
   refine HQK.out.mono ?_
   rintro e w4 ⟨v3, rfl, ho3, hb4⟩
   have HS4 := Lib.hid (HS3.out.later hb4)
   clear hb4 HQK HS3
   generalize hI : qryI nm d.subs fs = I at *
   have HO3 := Lib.hid ho3
   clear ho3 hI
   by_cases hI0 : 0 ≤ I
   · rw [decide_eq_true hI0]
     have hp3 := HQP.out hI0
     rw [if_pos hI0] at HO3
     have HRE2 : Hid (R = ⟨6, nm, d.subs, putE (fs.getD I.toNat default).subs, 1⟩) := by unfold Hid; rw [HRE.out, HQV.out, HQN.out, if_pos hI0, if_pos hI0]
     clear HRE HQV HQN HQP HAG
     generalize (fs.getD I.toNat default).subs = gs at *
     obtain ⟨A3, q3, rfl, hq3, hs3⟩ := Own.SubO.strs HO3.out
     have HPK : Hid (Calls Tryz.prog 248 #[.slice A3 gs.length q3] w4 fun e w' => e = .returned (.string (putE gs)) ∧ Below w4.heap.size w4 w') := PutSubs_any A3 gs.length q3 gs w4 hs3 hp3.2 hp3.1 (tab_later HT.out HS4.out.bel)
     clear hs3 hp3
     generalize gs.length = gl at *
     go_wp2_with fail
     refine HPK.out.mono ?_
     rintro e w5 ⟨rfl, hb5⟩
     have HS5 := Lib.hid (HS4.out.later hb5)
     clear hb5 HPK HS4
     generalize putE gs = pv at *
     have zE := Lib.hid HS5.out.ev
     have zR := Lib.hid HS5.out.res
     have zT := HS5.out.tree.cell 0
     simp at zT
     have ze0 := zE.out.cell 0
     have ze1 := zE.out.cell 1
     have ze2 := zE.out.cell 2
     have ze3 := zE.out.cell 3
     have ze4 := zE.out.cell 4
     have zef0 := zE.out.frozen 0
     have zef1 := zE.out.frozen 1
     have zef2 := zE.out.frozen 2
     have zef3 := zE.out.frozen 3
     have zef4 := zE.out.frozen 4
     have zez := zE.out.lt
     simp at ze0 ze1 ze2 ze3 ze4
     have zr0 := zR.out.cell 0
     have zr1 := zR.out.cell 1
     have zr2 := zR.out.cell 2
     have zr3 := zR.out.cell 3
     have zr4 := zR.out.cell 4
     have zrf0 := zR.out.frozen 0
     have zrf1 := zR.out.frozen 1
     have zrf2 := zR.out.frozen 2
     have zrf3 := zR.out.frozen 3
     have zrf4 := zR.out.frozen 4
     have zrz := zR.out.lt
     simp at zr0 zr1 zr2 zr3 zr4
     have HZ0 := Lib.hid (HS5.out.set (by omega) (by omega) (by omega) 4 (.int .i64 1))
     have HZ1 := Lib.hid (HZ0.out.set (by omega) (by omega) (by omega) 3 (.string pv))
     have hfin := fun a b c d e => HZ1.out.fin (by omega) a b c d e
     have HFIN := Lib.hid hfin
     clear hfin
     go_wp2_with fail
     refine bodyPost_ret (v := .agg #[.int .i64 6, .string nm, .slice A1 m q1, .string pv, .int .i64 1]) (by simp [results, Tryz.results184, go_sem, zr0, zr1, zr2, zr3, zr4]) rfl ?_
     exact HEQ.out (.slice A1 m q1) _ _ (by rw [HRE2.out]) (HFIN.out _ _ _ _ _).1 (HFIN.out _ _ _ _ _).2
   · rw [decide_eq_false hI0]
     have HRE2 : Hid (R = ⟨6, nm, d.subs, ⟨#[]⟩, 0⟩) := by unfold Hid; rw [HRE.out, HQV.out, HQN.out, if_neg hI0, if_neg hI0]
     clear HRE HQV HQN HQP HAG HO3 hI0
     have zE := Lib.hid HS4.out.ev
     have zR := Lib.hid HS4.out.res
     have zT := HS4.out.tree.cell 0
     simp at zT
     have ze0 := zE.out.cell 0
     have ze1 := zE.out.cell 1
     have ze2 := zE.out.cell 2
     have ze3 := zE.out.cell 3
     have ze4 := zE.out.cell 4
     have zef0 := zE.out.frozen 0
     have zef1 := zE.out.frozen 1
     have zef2 := zE.out.frozen 2
     have zef3 := zE.out.frozen 3
     have zef4 := zE.out.frozen 4
     have zez := zE.out.lt
     simp at ze0 ze1 ze2 ze3 ze4
     have zr0 := zR.out.cell 0
     have zr1 := zR.out.cell 1
     have zr2 := zR.out.cell 2
     have zr3 := zR.out.cell 3
     have zr4 := zR.out.cell 4
     have zrf0 := zR.out.frozen 0
     have zrf1 := zR.out.frozen 1
     have zrf2 := zR.out.frozen 2
     have zrf3 := zR.out.frozen 3
     have zrf4 := zR.out.frozen 4
     have zrz := zR.out.lt
     simp at zr0 zr1 zr2 zr3 zr4
     have hfin := fun a b c d e => HS4.out.fin (by omega) a b c d e
     have HFIN := Lib.hid hfin
     clear hfin
     go_wp2_with fail
     refine bodyPost_ret (v := .agg #[.int .i64 6, .string nm, .slice A1 m q1, .string ⟨#[]⟩, .int .i64 0]) (by simp [results, Tryz.results184, go_sem, zr0, zr1, zr2, zr3, zr4]) rfl ?_
     exact HEQ.out (.slice A1 m q1) _ _ (by rw [HRE2.out]) (HFIN.out _ _ _ _ _).1 (HFIN.out _ _ _ _ _).2
end Go.Proofs.YtlicffeicmoifaaGreatDoor
namespace Go.Proofs.YtlicffeicmoifaaGreatDoor
open Go.RowKit
set_option linter.unusedVariables false
set_option maxRecDepth 100000 in
set_option maxHeartbeats 8000000 in
theorem apply_any (b base : Nat) (v : Value) (fs : List NodeD) (c0 c1 c2 c3 c4 : Value) (d : EvD) (w : World) (htab : tabT w) (hB : Blk w b 26 #[v]) (hN : NodesW w base v fs) (hbw : base ≤ w.heap.size) (ht : treeB fs = true) (hcl : cleanT fs) (hr : EvR w w.heap.size c0 c1 c2 c3 c4 d) (hsm : d.small) (hnote : noteB d = true) :
 Calls Tryz.prog 95 #[.pointer (some ⟨b, 0, none⟩), .agg #[c0, c1, c2, c3, c4]] w fun e w' => e = .returned (.int .i64 (applyB fs d).1) ∧ PutIn b base v (applyB fs d) w w' := by
 have hwh := (note_parts hnote).1
 have hrt := reads_turns hnote
 have HKT := Lib.hid (fun W (hW : Below w.heap.size w W) => TurnsOf_any c0 c1 c2 c3 c4 d W (hr.later hW))
 have HKC := Lib.hid (fun W (hW : Below w.heap.size w W) => changeOf_any c0 c1 c2 c3 c4 d W (hr.later hW) hsm.2.1.1)
 have HKD := Lib.hid (fun W W' S m q (hW : Below w.heap.size w W) (hW' : Below w.heap.size w W') (hs : Own.SubO W' W.heap.size (.slice S m q) (chgOf d).subs) => change_any b base v S m q fs (chgOf d) W' (tab_later htab hW') (hB.later hW' hB.lt) (hN.later hW') (Nat.le_trans hbw hW'.size) ht (by obtain ⟨A1, cap1, e1, _, hs1⟩ := hs.strs; cases e1; exact hs1) (by obtain ⟨A1, cap1, e1, hc1, _⟩ := hs.strs; cases e1; exact hc1)
  (fun a ha hv => by have h1 := (World.ownsRow.lt hs a.block (by rw [ha]; rfl)).1; have h2 := (hN.lt _ hv).2; have h3 := hW.size; omega) (chgOf_small hsm))
 obtain ⟨A, cap, rfl, hcap, hNN⟩ := hN.reads
 have HKG := Lib.hid (fun (hrd : readsB d = true) W (hW : Below w.heap.size w W) => again_any A fs.length cap fs c0 c1 c2 c3 c4 d W (tab_later htab hW) (hNN.later hW) ht hcl (hr.later hW) hsm hwh hrd)
 have HKS := Lib.hid (fun A1 m1 q1 W B (hW : Below w.heap.size w W) (hS : Own.SubO W B (.slice A1 m1 q1) (againB fs d).subs) => sameEvent_any _ _ _ _ _ c0 c1 c2 c3 c4 (againB fs d) d W (evR_of hS) (hr.later hW) (by rw [again_subs]; exact hsm.2.1.1) hsm.2.1.1)
 have HR : Hid (applyB fs d = if turnsB d = true then doB fs (chgOf d) else if sameE (againB fs d) d = true then (0, fs) else (5, fs)) := rfl
 have HB := Lib.hid hB
 have HN := Lib.hid hN
 have hck : (chgOf d).subs = d.subs := rfl
 obtain ⟨rfl, rfl, ⟨S, m, q, rfl, _, _⟩, rfl, rfl⟩ := hr
 obtain ⟨WB, hWB⟩ : ∃ WB, WB = w.alloc (.cells #[.int .i64 d.kind, .string d.name, .slice S m q, .string d.val, .int .i64 d.n] 37) := ⟨_, rfl⟩
 have HB0 : Hid (Below w.heap.size w WB) := by subst hWB; exact Below.new _ _
 have HE0 : Hid (Blk WB w.heap.size 37 #[.int .i64 d.kind, .string d.name, .slice S m q, .string d.val, .int .i64 d.n]) := by subst hWB; exact heap_alloc_new _ _
 have HT0 := Lib.hid (hB.later HB0.out hB.lt)
 unfold EvPost at HKG
 unfold ChgPost at HKC
 clear hN hB hNN ht hcl hsm hnote hwh htab
 generalize applyB fs d = R at *
 generalize doB fs (chgOf d) = PD at *
 go_enter Tryz.func95, Tryz.ntmps95
 go_wp2_with fail
 rw [← hWB]
 clear hWB
 refine (HKT.out _ HB0.out).mono ?_
 rintro e w1 ⟨rfl, hb1⟩
 have HB1 := Lib.hid hb1
 have HE1 := Lib.hid (HE0.out.later hb1 HE0.out.lt)
 have HT1 := Lib.hid (HT0.out.later hb1 HT0.out.lt)
 have HB01 := Lib.hid (HB0.out.later hb1)
 have p0 := HE1.out.cell 0
 have p1 := HE1.out.cell 1
 have p2 := HE1.out.cell 2
 have p3 := HE1.out.cell 3
 have p4 := HE1.out.cell 4
 have p5 := HT1.out.cell 0
 have pz := HT1.out.lt
 simp at p0 p1 p2 p3 p4 p5
 clear hb1
 cases hrd : readsB d
 · rw [hrd] at hrt
   have hrt2 : turnsB d = true := hrt
   rw [hrt2, if_pos rfl] at HR
   rw [hrt2]
   clear hrt hrd hrt2 HKG HKS
   go_wp2_with fail
   refine (HKC.out _ HB01.out).mono ?_
   rintro e w2 ⟨v2, rfl, hs2, hb2⟩
   obtain ⟨A2, m2, q2, rfl⟩ : ∃ A2 m2 q2, v2 = .slice A2 m2 q2 := by obtain ⟨A, cap, e, _⟩ := Own.own_slice hs2; exact ⟨A, _, cap, e⟩
   have HS2 := Lib.hid hs2
   have HB2 := Lib.hid hb2
   clear hs2 hb2 p0 p1 p2 p3 p4 p5
   go_wp2_with fail
   refine (HKD.out _ _ _ _ _ HB01.out (HB01.out.later HB2.out) HS2.out).mono ?_
   rintro e w3 ⟨rfl, hp⟩
   have HP := Lib.hid (hp.lift (HB01.out.later HB2.out))
   clear hp
   go_wp2_with fail
   go_ret
   exact ⟨by rw [HR.out]; rfl, by rw [HR.out]; exact HP.out⟩
 · rw [hrd] at hrt
   have hrt2 : turnsB d = false := hrt
   rw [hrt2, if_neg (by decide)] at HR
   rw [hrt2]
   have HKG2 := Lib.hid (HKG.out hrd)
   clear hrt hrd hrt2 HKC HKD HKG
   generalize againB fs d = ag at *
   generalize hsb : sameE ag d = sb at *
   clear hsb
   have HS : Hid (∀ W, Below w1.heap.size w1 W → (W.cell? ⟨b, 0, none⟩ = some (.slice A fs.length cap) ∧ W.cell? ⟨w.heap.size, 0, none⟩ = some (.int .i64 d.kind) ∧ W.cell? ⟨w.heap.size, 1, none⟩ = some (.string d.name) ∧ W.cell? ⟨w.heap.size, 2, none⟩ = some (.slice S m q) ∧ W.cell? ⟨w.heap.size, 3, none⟩ = some (.string d.val) ∧ W.cell? ⟨w.heap.size, 4, none⟩ = some (.int .i64 d.n))) := fun W hW => ⟨cell_later hW p5, cell_later hW p0, cell_later hW p1, cell_later hW p2, cell_later hW p3, cell_later hW p4⟩
   go_wp2_with fail
   go_region_held3 (fun W => W.cell? ⟨b, 0, none⟩ = some (.slice A fs.length cap) ∧ W.cell? ⟨w.heap.size, 0, none⟩ = some (.int .i64 d.kind) ∧ W.cell? ⟨w.heap.size, 1, none⟩ = some (.string d.name) ∧ W.cell? ⟨w.heap.size, 2, none⟩ = some (.slice S m q) ∧ W.cell? ⟨w.heap.size, 3, none⟩ = some (.string d.val) ∧ W.cell? ⟨w.heap.size, 4, none⟩ = some (.int .i64 d.n))
    (first | exact HS.out _ (Below.refl _ _).drew | exact HS.out _ HB2.out | exact HS.out _ HB3.out | go_keep)
    (first
      | (go_at_call 184
         refine (HKG2.out _ (by exact HB01.out.drew)).mono ?_
         rintro e w2 ⟨v2, rfl, ho2, hb2'⟩
         have HB2 := Lib.hid (undrew hb2')
         obtain ⟨A1, m2, q2, rfl⟩ : ∃ A1 m2 q2, v2 = .slice A1 m2 q2 := by obtain ⟨A, cap, e, _⟩ := Own.own_slice ho2; exact ⟨A, _, cap, e⟩
         have HSO := Lib.hid ho2
         clear hb2' ho2)
      | (go_at_call 183
         refine (HKS.out _ _ _ _ _ (HB01.out.later HB2.out) HSO.out).mono ?_
         rintro e w3 ⟨rfl, hb3⟩
         have HB3 := Lib.hid (HB2.out.later hb3)
         clear hb3))
   have HBW := Lib.hid (HB01.out.later HB3.out)
   have HP : Hid (∀ c, PutIn b base (.slice A fs.length cap) (c, fs) w w3) := fun c => ⟨Own.Chg.of_below HBW.out, fun _ => ⟨_, HB.out.later HBW.out HB.out.lt, HN.out.later HBW.out⟩⟩
   clear p0 p1 p2 p3 p4 p5
   cases sb
   · have HE : Hid (R = (5, fs)) := by unfold Hid; rw [HR.out]; rfl
     go_wp2_with fail
     go_ret
     exact ⟨by rw [HE.out]; rfl, by rw [HE.out]; exact HP.out _⟩
   · have HE : Hid (R = (0, fs)) := by unfold Hid; rw [HR.out]; rfl
     go_wp2_with fail
     go_ret
     exact ⟨by rw [HE.out]; rfl, by rw [HE.out]; exact HP.out _⟩
end Go.Proofs.YtlicffeicmoifaaGreatDoor
