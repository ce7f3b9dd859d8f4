import Derived.Test.YtlicffeicmoifaaGreatDoorZ15
import Derived.Deep.AppendLies
import Derived.Deep.RegionLaw
set_option linter.unusedSimpArgs false
namespace Go.Proofs.YtlicffeicmoifaaGreatDoor
open Go.RowKit
set_option linter.unusedVariables false
set_option maxRecDepth 100000 in
set_option maxHeartbeats 4000000 in
theorem l03Own_any (A : Option Addr) (n c : Nat) (fs : List NodeD) (w : World) (h : Nodes w w.heap.size A n fs) (hs : smallNs fs) :
 Calls Tryz.prog 240 #[.slice A n c] w (NodesOnly fs w) := by
 obtain ⟨i0, hi, hz0, hz1, hz2⟩ := info_parts infoNodeD
 have Hh := Lib.hid h
 have Hlen := Lib.hid h.1
 have Hsm := Lib.hid hs.2
 have hn : n ≤ 1048576 := by rw [← h.1]; exact hs.1
 clear h hs
 go_enter Tryz.func240, Tryz.ntmps240
 go_wp2_with fail
 go_loopw [3, 4] (fun v i wr => ∃ (k : Nat), k ≤ n ∧ i = .int .i64 k ∧ NodesO wr w.heap.size v (fs.take k) ∧ Below w.heap.size w wr) (fun _ i _ => n - (intOf i).toNat)
 case atStart => exact ⟨0, Nat.zero_le _, rfl, nodesO_lit w _ (Nat.le_refl _), Below.new _ _⟩
 case round =>
  obtain ⟨k, hk, rfl, ⟨vs, hown⟩, hb⟩ := hrel
  have HB := Lib.hid hb
  obtain ⟨g, cap, rfl, _, _, _⟩ := Own.own_slice hown.row
  have HO := Lib.hid hown
  clear hb hown
  by_cases hlt : k < n
  · have hl : k < fs.length := by rw [Hlen.out]; exact hlt
    obtain ⟨bb, o, rfl, hbB, hcn⟩ := (Hh.out.later HB.out).2 (by omega)
    obtain ⟨c0, c1, c2, k0, k1, k2, hr⟩ := hcn k hlt
    clear hcn
    have hsd := Hsm.out _ (getD_memD fs k hl)
    have HT : Hid (fs.take (k + 1) = fs.take k ++ [fs.getD k default]) := by
     unfold Hid
     rw [List.take_succ_eq_append_getElem hl, List.getD_eq_getElem?_getD, List.getElem?_eq_getElem hl, Option.getD_some]
    have htl : (fs.take k).length = k := by rw [List.length_take]; omega
    rw [htl]
    have hrw := HO.out.row
    rw [htl] at hrw
    have HRW := Lib.hid hrw
    have HTL := Lib.hid htl
    clear htl hrw
    generalize fs.getD k default = d at *
    obtain ⟨rfl, ⟨A1, n1, p1, rfl, s1, q1⟩, rfl⟩ := hr
    have hn1 : n1 ≤ 1048576 := by rw [← s1.1]; exact hsd.2.1.1
    have HKS := Lib.hid (fun W (hW : Below wr.heap.size wr W) => l03Subs_any A1 n1 p1 d.subs W (s1.later hW) hn1)
    generalize hdn : d.name = dn at *
    generalize hdv : d.val = dv at *
    have HDN := Lib.hid hdn
    have HDV := Lib.hid hdv
    clear s1 hsd hdn hdv
    go_wp2_with fail
    go_region_law (first
     | (refine step_append_lies _ (by rfl) _ _ _ (by rfl) w.heap.size 89 i0 _ 3 56 Tryz.underlying24 hi hz0 hz1 hz2 rfl (by omega) (.slice g k cap) k (Own.flat nodeK (fs.take k) vs) (by rfl) (by exact HRA.out)
         ⟨w4.heap.size, 0, none⟩ 1 1 [.string dn, .slice A2 n1 c2, .string dv] (by rfl) (by rfl) (by exact cells_newN w4 #[.string dn, .slice A2 n1 c2, .string dv] _) (by simp [Value.oneCell'])
         (by omega) (by unfold maxLen; omega) (by omega) (by simp; omega) (w4.heap.size + 1) (by simp) ?_
        intro gg cap' w5 hown5 hgrow5 hat hlt2
        have HOW := Lib.hid hown5
        have HGR := Lib.hid hgrow5
        clear hown5 hgrow5)
     | (go_simp
        go_at_call 253
        refine (HKS.out _ (by exact (Below.refl _ _).drew)).mono ?_
        rintro e w4 ⟨A2, c2, rfl, hq2, hs2, hb4'⟩
        have hb4 := undrew hb4'
        have HS2 := Lib.hid hs2
        have HB4 := Lib.hid hb4
        have j0 := cell_later hb4 k0
        have j2 := cell_later hb4 k2
        have hsz4 := hb4.size
        have hsz0 := HB.out.size
        have HRA := Lib.hid (Own.own_later (Own.own_later HRW.out hb4) (Below.new w4 (.cells #[.string dn, .slice A2 n1 c2, .string dv] 89)))
        clear hb4 hb4' hs2))
    all_goals
     have HN4 := Lib.hid (HB4.out.later (Below.new w4 (.cells #[.string dn, .slice A2 n1 c2, .string dv] 89)))
     have HN5 : Hid (Below w.heap.size w w5) := ((HB.out.later HN4.out)).grown HGR.out (by simp; omega) (fun g' hg' => (World.ownsRow.lt HRA.out g' hg').1)
     have HO5 : Hid (Own.OwnL nodeK w5 w.heap.size 89 (.slice (some ⟨gg, 0, none⟩) (k + 1) cap') (fs.take (k + 1)) (vs ++ [.slice A2 n1 c2])) := by
      unfold Hid
      rw [HT.out]
      refine Own.OwnL.snoc (HO.out.later HN4.out) (Own.own_later (Own.own_base HS2.out (show w.heap.size ≤ wr.heap.size by omega)) (Below.new _ _)) (HO.out.fresh HS2.out (by simp)) ?_ (by rw [HTL.out]; exact HGR.out) (by decide)
      rw [HTL.out]
      have hx := HOW.out
      rw [← HDN.out, ← HDV.out] at hx
      exact hx
     clear j0 j2 k0 k1 k2
     go_wp2_with fail
     go_roundw
     case rel => exact ⟨k + 1, by omega, by go_num, ⟨_, HO5.out⟩, HN5.out⟩
     case measure => simp [intOf]; omega
  · go_wp2_with fail
    go_ret
    have ht : fs.take k = fs := List.take_of_length_le (by rw [Hlen.out]; omega)
    have hx : Own.OwnL nodeK wr w.heap.size 89 (.slice g (fs.take k).length cap) fs vs := by
     have h2 := HO.out
     generalize (Value.slice g (fs.take k).length cap) = V at h2 ⊢
     rw [ht] at h2
     exact h2
    exact ⟨_, rfl, ⟨vs, hx⟩, HB.out⟩
end Go.Proofs.YtlicffeicmoifaaGreatDoor
namespace Go.Proofs.YtlicffeicmoifaaGreatDoor
open Go.RowKit
set_option linter.unusedVariables false
set_option maxRecDepth 100000 in
set_option maxHeartbeats 4000000 in
theorem l03At_any (A : Option Addr) (n c : Nat) (fs : List NodeD) (nm : ByteArray) (S : Option Addr) (m q : Nat) (ss : List ByteArray) (w : World) (h : Nodes w w.heap.size A n fs) (hs : smallNs fs) (h' : Strs w w.heap.size S m ss) (hm : m ≤ 1048576) (hz : ∀ s ∈ ss, s.size ≤ 1048576) :
 Calls Tryz.prog 239 #[.agg #[.slice A n c], .string nm, .slice S m q] w fun e w' => e = .returned (.tuple #[.int .i64 (atN fs nm ss : Nat), .bool (hasN fs nm ss)]) ∧ Below w.heap.size w w' := by
 have Hh := Lib.hid h
 have Hlen := Lib.hid h.1
 have hn : n ≤ 1048576 := by rw [← h.1]; exact hs.1
 have Hs := Lib.hid hs
 have Hst := Lib.hid h'
 have Hz := Lib.hid hz
 have HAT : Hid (∀ k, k ≤ n → (∀ j, j < k → aheadN nm ss (fs.getD j default) = true) → (k = n ∨ aheadN nm ss (fs.getD k default) = false) → atN fs nm ss = k) := fun k h1 h2 h3 => atN_eq (by rw [h.1]; exact h1) h2 (by rw [h.1]; exact h3)
 have HHS : Hid (hasN fs nm ss = (decide (atN fs nm ss < n) && hereN nm ss (fs.getD (atN fs nm ss) default))) := by unfold Hid hasN; rw [h.1]
 clear h hs h' hz
 generalize atN fs nm ss = AT at *
 generalize hasN fs nm ss = HS at *
 go_enter Tryz.func239, Tryz.ntmps239
 go_wp2_with fail
 go_loopw [8] (fun i wr => ∃ (k : Nat), k ≤ n ∧ i = .int .i64 k ∧ Below (w.heap.size + 1) (w.alloc (.cells #[.slice A n c] 26)) wr ∧ Hid (∀ j, j < k → aheadN nm ss (fs.getD j default) = true)) (fun i _ => n - (intOf i).toNat)
 case atStart => exact ⟨0, Nat.zero_le _, rfl, Below.refl _ _, fun j hj => absurd hj (by omega)⟩
 case round =>
  obtain ⟨k, hk, rfl, hb, hA⟩ := hrel
  have p0 := (Blk.later (heap_alloc_new w _) hb (by omega)).cell 0
  have hz0 : w.heap.size < wr.heap.size := by have := hb.size; simp at this; omega
  have HB := Lib.hid hb
  have HBw := Lib.hid ((Below.new _ _).trans (hb.mono (by omega)))
  clear hb
  by_cases hlt : k < n
  · obtain ⟨bb, o, rfl, hbB, hc⟩ := (Hh.out.later HBw.out).2 (by omega)
    obtain ⟨c0, c1, c2, k0, k1, k2, hr⟩ := hc k hlt
    clear hc k2
    have hsm := Hs.out.2 _ (getD_memD fs k (by rw [Hlen.out]; exact hlt))
    have HAK : Hid (aheadN nm ss (fs.getD k default) = aheadB (fs.getD k default).name (fs.getD k default).subs nm ss) := rfl
    have HHR : Hid (hereN nm ss (fs.getD k default) = (decide ((fs.getD k default).name = nm) && eqS (fs.getD k default).subs ss)) := rfl
    generalize hd : fs.getD k default = d at *
    have HD := Lib.hid hd
    obtain ⟨rfl, ⟨A1, n1, q1, rfl, s1, _⟩, rfl⟩ := hr
    have hn1 : n1 ≤ 1048576 := by rw [← s1.1]; exact hsm.2.1.1
    have HKL := Lib.hid (fun W (hW : Below wr.heap.size wr W) => l03Less_any d.name nm A1 S n1 q1 m q d.subs ss W (s1.later hW) (Hst.out.later (HBw.out.later hW)) hn1 hm hsm.2.1.2 Hz.out)
    have HKS := Lib.hid (fun W (hW : Below wr.heap.size wr W) => SameSubs_any A1 S n1 q1 m q d.subs ss W (s1.later hW) (Hst.out.later (HBw.out.later hW)) hn1 hm)
    clear s1 hsm hd
    generalize aheadB d.name d.subs nm ss = y at *
    generalize eqS d.subs ss = z at *
    generalize d.name = dn at *
    go_wp2_with fail
    go_region_held3 (fun w' => w'.cell? ⟨w.heap.size, 0, none⟩ = some (.slice (some ⟨bb, o, none⟩) n c) ∧ w'.cell? ⟨bb, o + k * 3, none⟩ = some (.string dn) ∧ w'.cell? ⟨bb, o + k * 3 + 1, none⟩ = some (.slice A1 n1 q1))
     (first | exact ⟨p0, k0, k1⟩ | exact ⟨cell_later hb1 p0, cell_later hb1 k0, cell_later hb1 k1⟩)
     (first | (go_at_call 97; refine (HKL.out _ (by exact (Below.refl _ _).drew)).mono ?_; rintro e w1 ⟨rfl, hb1'⟩; have hb1 := undrew hb1'; clear hb1'))
    have HB1 := Lib.hid hb1
    have p1 := cell_later hb1 p0
    have l0 := cell_later hb1 k0
    have l1 := cell_later hb1 k1
    clear hb1 p0 k0 k1
    cases y
    · have HE : Hid (AT = k) := HAT.out k (by omega) hA.out (.inr (by rw [HD.out]; exact HAK.out))
      have HE2 : Hid (HS = (decide (dn = nm) && z)) := by unfold Hid; rw [HHS.out, HE.out, HD.out, HHR.out, decide_eq_true hlt]; rfl
      by_cases hnm : dn = nm
      · subst hnm
        go_wp2_with fail
        refine (HKS.out _ (by exact HB1.out)).mono ?_
        rintro e w2 ⟨rfl, q2, rfl⟩
        go_wp2_with fail
        go_ret2
        exact ⟨by rw [HE.out, HE2.out]; simp, below_drewN (HBw.out.later HB1.out) _⟩
      · have hbe := str_beq hnm
        have HE3 : Hid (HS = false) := by unfold Hid; rw [HE2.out]; simp [hnm]
        clear hnm
        go_wp2_with fail
        go_ret2
        exact ⟨by rw [HE.out, HE3.out]; rfl, HBw.out.later HB1.out⟩
    · have HN : Hid (∀ j, j < k + 1 → aheadN nm ss (fs.getD j default) = true) := fun j hj => by
       by_cases e : j = k
       · subst e; rw [HD.out]; exact HAK.out
       · exact hA.out j (by omega)
      go_wp2_with fail
      go_roundw
      case rel => exact ⟨k + 1, by omega, by go_num, HB.out.trans (HB1.out.mono (by omega)), HN.out⟩
      case measure => simp [intOf]; omega
  · obtain rfl : k = n := by omega
    have HE : Hid (AT = k) := HAT.out k (by omega) hA.out (.inl rfl)
    have HE2 : Hid (HS = false) := by unfold Hid; rw [HHS.out, HE.out]; simp
    go_wp2_with fail
    first
      | (go_quiet (fail)
         go_wp2_with fail
         go_ret2
         exact ⟨by rw [HE.out, HE2.out]; rfl, below_drewN HBw.out _⟩)
      | (go_ret2
         exact ⟨by rw [HE.out, HE2.out]; rfl, HBw.out⟩)
end Go.Proofs.YtlicffeicmoifaaGreatDoor
namespace Go.Proofs.YtlicffeicmoifaaGreatDoor
open Go.RowKit
set_option linter.unusedVariables false
theorem NodesO.setBlk {w : World} {base g tp i : Nat} {v u : Value} {fs : List NodeD} {cs : Array Value} (h : NodesO w base v fs) (hB : Blk w g tp cs) (h1 : 89 ≠ tp) (h2 : 9 ≠ tp) : NodesO (w.setCell ⟨g, i, none⟩ u) base v fs := by
 obtain ⟨vs, h⟩ := h
 exact ⟨vs, h.grownOther hB h1 h2 (Own.grown_set _ _ _ _)⟩
theorem put_small {fs : List NodeD} {nm : ByteArray} {ss : List ByteArray} {v : ByteArray} (h : smallNs fs) (h1 : fs.length < 1048576) (h2 : (⟨nm, ss, v⟩ : NodeD).small) : smallNs (putN fs nm ss v) := by
 refine ⟨?_, fun d hd => ?_⟩
 · unfold putN
   rw [List.length_append, List.length_cons, List.length_take, List.length_drop]
   have := atN_le fs nm ss
   split <;> omega
 · unfold putN at hd
   rcases List.mem_append.1 hd with h3 | h3
   · exact h.2 d (List.mem_of_mem_take h3)
   · rcases List.mem_cons.1 h3 with h4 | h4
     · subst h4; exact h2
     · exact h.2 d (List.mem_of_mem_drop h4)
theorem has_lt {fs : List NodeD} {nm : ByteArray} {ss : List ByteArray} (h : hasN fs nm ss = true) : atN fs nm ss < fs.length := by
 unfold hasN at h
 rw [Bool.and_eq_true] at h
 exact of_decide_eq_true h.1
theorem reads_take {w : World} {B sz n k : Nat} {A : Option Addr} {xs : List Value} (h : Reads w B sz A n xs) (hk : k ≤ n) : Reads w B sz A k (xs.take (k * sz)) := by
 have hm : k * sz ≤ n * sz := Nat.mul_le_mul_right _ hk
 refine ⟨by rw [List.length_take, h.1]; omega, fun h0 => ?_⟩
 obtain ⟨ad, e, hb, hc⟩ := h.2 (by omega)
 refine ⟨ad, e, hb, fun j u hu => hc j u ?_⟩
 rw [List.getElem?_take] at hu
 split at hu
 · exact hu
 · cases hu
set_option maxRecDepth 100000 in
set_option maxHeartbeats 4000000 in
theorem l03Put_any (A : Option Addr) (n c : Nat) (fs : List NodeD) (nm : ByteArray) (S : Option Addr) (m q : Nat) (ss : List ByteArray) (v : ByteArray) (w : World) (h : Nodes w w.heap.size A n fs) (hnc : n ≤ c) (hs : smallNs fs) (hn : n < 1048576) (h' : Strs w w.heap.size S m ss) (hmq : m ≤ q) (hd : (⟨nm, ss, v⟩ : NodeD).small) :
 Calls Tryz.prog 173 #[.agg #[.slice A n c], .string nm, .slice S m q, .string v] w (TreePost (putB fs nm ss v) w) := by
 obtain ⟨i0, hi, hz0, hz1, hz2⟩ := info_parts infoNodeD
 have hm : m ≤ 1048576 := by rw [← h'.1]; exact hd.2.1.1
 have HKA := Lib.hid (fun W (hW : Below w.heap.size w W) => l03At_any A n c fs nm S m q ss W (h.later hW) hs (h'.later hW) hm hd.2.1.2)
 have HSM := Lib.hid (put_small (v := v) hs (by rw [h.1]; exact hn) hd)
 have HB : Hid (putB fs nm ss v = if (!hasN fs nm ss && decide (120 ≤ n)) = true then (4, []) else (0, putN fs nm ss v)) := by unfold Hid putB; rw [h.1]
 have HP : Hid (putN fs nm ss v = fs.take (atN fs nm ss) ++ ⟨nm, ss, v⟩ :: fs.drop (if hasN fs nm ss = true then atN fs nm ss + 1 else atN fs nm ss)) := rfl
 have hAT : atN fs nm ss ≤ n := by have := atN_le fs nm ss; rw [h.1] at this; exact this
 have HLT : Hid (hasN fs nm ss = true → atN fs nm ss < n) := fun e => by have := has_lt e; rw [h.1] at this; exact this
 have Hh := Lib.hid h
 have Hst := Lib.hid h'
 have Hsm := Lib.hid hd
 have HL := Lib.hid h.1
 clear h h' hd hs
 generalize putB fs nm ss v = PB at *
 generalize putN fs nm ss v = PN at *
 generalize atN fs nm ss = AT at *
 generalize hasN fs nm ss = HS at *
 go_enter Tryz.func173, Tryz.ntmps173
 go_wp2_with fail
 refine (HKA.out _ ((Below.new _ _).later (Below.new _ _))).mono ?_
 rintro e w1 ⟨rfl, hb1⟩
 have HB1 := Lib.hid (((Below.new w _).later (Below.new _ _)).later hb1)
 have HY := Lib.hid (Blk.later (heap_two1 w _ _) hb1 (by simp))
 have HX := Lib.hid (Blk.later (heap_two0 w _ _) hb1 (by simp; omega))
 have px := HX.out.cell 0
 have fy := HY.out.frozen 0
 have py := HY.out.cell 0
 simp at px py
 have hz1' : w.heap.size + 1 < w1.heap.size := by have := hb1.size; simp at this; omega
 have hz2' : w.heap.size < w1.heap.size := by omega
 clear hb1
 by_cases hful : (!HS && decide (120 ≤ n)) = true
 · have HE : Hid (PB = (4, [])) := by unfold Hid; rw [HB.out, if_pos hful]
   rw [Bool.and_eq_true] at hful
   obtain ⟨e1, e2⟩ := hful
   have e2 : 120 ≤ n := of_decide_eq_true e2
   obtain rfl : HS = false := by cases HS <;> simp_all
   go_wp2_with fail
   refine bodyPost_ret (v := .tuple #[.agg #[.slice none 0 0], .int .i64 4]) (by simp [results, Tryz.results173, go_sem, py]) rfl ?_
   exact ⟨_, by rw [HE.out], by rw [HE.out]; exact nodesO_nil _ _, HB1.out.setCell (show w.heap.size ≤ w.heap.size + 1 by omega) _⟩
 · have HE : Hid (PB = (0, PN)) := by unfold Hid; rw [HB.out, if_neg hful]
   have hcn : HS = true ∨ (HS = false ∧ ¬ 120 ≤ n) := by cases HS <;> simp_all
   clear hful
   obtain ⟨cs, hcs, hrd⟩ := nodes_reads Hh.out
   have HCS := Lib.hid hcs
   have HRD := Lib.hid ((hrd.below HB1.out))
   have HCL := Lib.hid hcs.len
   have HONE : Hid (∀ u ∈ cs, u.oneCell' = true) := CellsG.all (fun c d h => nodeC_one c d h) hcs
   clear hcs hrd
   have HLIT : Hid ((w1.alloc (.cells #[] 89)).ownsRow w.heap.size 89 3 (.slice (some ⟨w1.heap.size, 0, none⟩) 0 0) 0 []) := World.ownsRow_lit _ _ 0 (by omega) (by omega) rfl
   generalize hk2 : (if HS = true then AT + 1 else AT) = K2 at *
   rcases hcn with rfl | ⟨rfl, h120⟩
   · have hK2 : K2 ≤ n := by have := HLT.out rfl; simp at hk2; omega
     obtain rfl : K2 = AT + 1 := by simpa using hk2.symm
     go_wp2_with (at_builtin; refine wpList_append_any _ rfl (.tmp 29) (.tmp 33) 24 rfl w.heap.size 89 i0 _ 3 56 Tryz.underlying24 hi hz0 hz1 hz2 rfl (by decide) _ 0 [] rfl (HLIT.out) w.heap.size A AT c (cs.take (AT * 3)) rfl ((reads_take HRD.out hAT).alloc (by omega) _) (fun u hu => HONE.out u (List.mem_of_mem_take hu)) ?c1 ?c2 ?c3 ?_)
     case c1 => unfold maxLen; omega
     case c2 => omega
     case c3 => simp; omega
     intro v2 w2 ho2 hg2 _
     have HB2 := Lib.hid ((HB1.out.alloc (by omega) _).grown hg2 (by simp; omega) (fun g hg' => (HLIT.out.lt g hg').1))
     have HX2 := Lib.hid ((HX.out.alloc (.cells #[] 89)).grown hg2 (fun e => Own.own_blk_ne HLIT.out (HX.out.alloc _) (by decide) e.symm))
     have HY2 := Lib.hid ((HY.out.alloc (.cells #[] 89)).grown hg2 (fun e => Own.own_blk_ne HLIT.out (HY.out.alloc _) (by decide) e.symm))
     have HRD2 := Lib.hid ((HRD.out.alloc (by omega) _).grown hg2 (by simp; omega) (fun g hg' => (HLIT.out.lt g hg').1))
     have HO2 : Hid (∀ o, (w2.alloc o).ownsRow w.heap.size 89 3 v2 AT (cs.take (AT * 3))) := fun o => Own.own_later (by simpa using ho2) (Below.new _ _)
     have hw2 := HB2.out.size
     clear ho2 hg2 px py fy
     go_wp2_with (at_builtin; refine wpList_append_own _ rfl (.tmp 35) (.tmp 40) 24 rfl w.heap.size 89 i0 _ 3 56 Tryz.underlying24 hi hz0 hz1 hz2 rfl (by decide) _ AT _ rfl (HO2.out _) ⟨_, 0, none⟩ 1 1 [.string nm, .slice S m q, .string v] rfl rfl ?c1 ?c2 ?c3 ?c4 ?c5 ?_)
     case c1 => exact cells_newN _ _ _
     case c2 => simp [Value.oneCell']
     case c3 => unfold maxLen; omega
     case c4 => omega
     case c5 => simp; omega
     intro v3 w3 ho3 hg3 _
     have HB3 := Lib.hid ((HB2.out.alloc (by omega) _).grown hg3 (by simp; omega) (fun g hg' => ((HO2.out (.cells #[] 0)).lt g hg').1))
     have HX3 := Lib.hid ((HX2.out.alloc (.cells #[.string nm, .slice S m q, .string v] 89)).grown hg3 (fun e => Own.own_blk_ne (HO2.out (.cells #[] 0)) (HX2.out.alloc _) (by decide) e.symm))
     have HY3 := Lib.hid ((HY2.out.alloc (.cells #[.string nm, .slice S m q, .string v] 89)).grown hg3 (fun e => Own.own_blk_ne (HO2.out (.cells #[] 0)) (HY2.out.alloc _) (by decide) e.symm))
     have HRD3 := Lib.hid ((HRD2.out.alloc (by omega) _).grown hg3 (by simp; omega) (fun g hg' => ((HO2.out (.cells #[] 0)).lt g hg').1))
     have HO3 := Lib.hid ho3
     have hw3 := HB3.out.size
     have px := HX3.out.cell 0
     simp at px
     have hx3 := HX3.out.lt
     have hi3 : (AT + 1) ≤ n := by omega
     have hi4 : ((AT + 1 : Nat) : Int) ≤ (n : Int) := by omega
     clear ho3 hg3
     go_wp2_with (at_builtin; refine wpList_append_any _ rfl (.tmp 45) (.tmp 49) 24 rfl w.heap.size 89 i0 _ 3 56 Tryz.underlying24 hi hz0 hz1 hz2 rfl (by decide) _ _ _ rfl (HO3.out) w.heap.size _ (n - (AT + 1)) _ (cs.drop ((AT + 1) * 3)) rfl (HRD3.out.cut hi3 hnc) (fun u hu => HONE.out u (List.mem_of_mem_drop hu)) ?c1 ?c2 ?c3 ?_)
     case c1 => unfold maxLen; omega
     case c2 => omega
     case c3 => omega
     all_goals
      intro v4 w4 ho4 hg4 _
      have HB4 := Lib.hid (HB3.out.grown hg4 (by omega) (fun g hg' => (HO3.out.lt g hg').1))
      have HY4 := Lib.hid (HY3.out.grown hg4 (fun e => Own.own_blk_ne HO3.out HY3.out (by decide) e.symm))
      have hpn : PN.length = AT + 1 + (n - (AT + 1)) := by
       rw [HP.out, List.length_append, List.length_cons, List.length_take, List.length_drop, HL.out]
       omega
      have hcn : CellsN w PN ((cs.take (AT * 3) ++ [.string nm, .slice S m q, .string v]) ++ cs.drop ((AT + 1) * 3)) := by
       rw [cellsN_iff, HP.out, List.append_assoc]
       exact CellsG.append (HCS.out.take AT) ⟨[.string nm, .slice S m q, .string v], _, rfl, rfl, ⟨_, _, _, rfl, rfl, ⟨S, m, q, rfl, Hst.out, hmq⟩, rfl⟩, HCS.out.drop (AT + 1)⟩
      obtain ⟨A4, cap4, rfl, hcap4, hN4⟩ := nodes_of_row (fs := PN) ho4 (by omega) (by simpa using hcn) HB4.out
      have HKO := Lib.hid (l03Own_any A4 _ cap4 PN w4 hN4 HSM.out)
      have hw4 := HB4.out.size
      clear ho4 hg4 hcn px hN4 hpn
      go_wp2_with fail
      refine HKO.out.mono ?_
      rintro e w5 ⟨v5, rfl, hN5, hb5⟩
      have HY5 := Lib.hid (HY4.out.later hb5 HY4.out.lt)
      have HB5 := Lib.hid (HB4.out.later hb5)
      obtain ⟨A5, cap5, rfl, _, _⟩ := hN5.reads
      have HN5 := Lib.hid (hN5.base hw4)
      have p5 := HY5.out.cell 0
      have f5 := HY5.out.frozen 0
      simp at p5
      have z5 := HY5.out.lt
      clear hb5 hN5
      go_wp2_with fail
      refine bodyPost_ret (v := .tuple #[.agg #[.slice A5 _ cap5], .int .i64 0]) (by simp [results, Tryz.results173, go_sem, p5]; try exact rfl) rfl ?_
      exact ⟨_, by rw [HE.out], by rw [HE.out]; exact HN5.out.setBlk HY5.out (by decide) (by decide), HB5.out.setCell (show w.heap.size ≤ w.heap.size + 1 by omega) _⟩
   · obtain rfl : K2 = AT := by simpa using hk2.symm
     go_wp2_with (at_builtin; refine wpList_append_any _ rfl (.tmp 29) (.tmp 33) 24 rfl w.heap.size 89 i0 _ 3 56 Tryz.underlying24 hi hz0 hz1 hz2 rfl (by decide) _ 0 [] rfl (HLIT.out) w.heap.size A K2 c (cs.take (K2 * 3)) rfl ((reads_take HRD.out hAT).alloc (by omega) _) (fun u hu => HONE.out u (List.mem_of_mem_take hu)) ?c1 ?c2 ?c3 ?_)
     case c1 => unfold maxLen; omega
     case c2 => omega
     case c3 => simp; omega
     intro v2 w2 ho2 hg2 _
     have HB2 := Lib.hid ((HB1.out.alloc (by omega) _).grown hg2 (by simp; omega) (fun g hg' => (HLIT.out.lt g hg').1))
     have HX2 := Lib.hid ((HX.out.alloc (.cells #[] 89)).grown hg2 (fun e => Own.own_blk_ne HLIT.out (HX.out.alloc _) (by decide) e.symm))
     have HY2 := Lib.hid ((HY.out.alloc (.cells #[] 89)).grown hg2 (fun e => Own.own_blk_ne HLIT.out (HY.out.alloc _) (by decide) e.symm))
     have HRD2 := Lib.hid ((HRD.out.alloc (by omega) _).grown hg2 (by simp; omega) (fun g hg' => (HLIT.out.lt g hg').1))
     have HO2 : Hid (∀ o, (w2.alloc o).ownsRow w.heap.size 89 3 v2 K2 (cs.take (K2 * 3))) := fun o => Own.own_later (by simpa using ho2) (Below.new _ _)
     have hw2 := HB2.out.size
     clear ho2 hg2 px py fy
     go_wp2_with (at_builtin; refine wpList_append_own _ rfl (.tmp 35) (.tmp 40) 24 rfl w.heap.size 89 i0 _ 3 56 Tryz.underlying24 hi hz0 hz1 hz2 rfl (by decide) _ K2 _ rfl (HO2.out _) ⟨_, 0, none⟩ 1 1 [.string nm, .slice S m q, .string v] rfl rfl ?c1 ?c2 ?c3 ?c4 ?c5 ?_)
     case c1 => exact cells_newN _ _ _
     case c2 => simp [Value.oneCell']
     case c3 => unfold maxLen; omega
     case c4 => omega
     case c5 => simp; omega
     intro v3 w3 ho3 hg3 _
     have HB3 := Lib.hid ((HB2.out.alloc (by omega) _).grown hg3 (by simp; omega) (fun g hg' => ((HO2.out (.cells #[] 0)).lt g hg').1))
     have HX3 := Lib.hid ((HX2.out.alloc (.cells #[.string nm, .slice S m q, .string v] 89)).grown hg3 (fun e => Own.own_blk_ne (HO2.out (.cells #[] 0)) (HX2.out.alloc _) (by decide) e.symm))
     have HY3 := Lib.hid ((HY2.out.alloc (.cells #[.string nm, .slice S m q, .string v] 89)).grown hg3 (fun e => Own.own_blk_ne (HO2.out (.cells #[] 0)) (HY2.out.alloc _) (by decide) e.symm))
     have HRD3 := Lib.hid ((HRD2.out.alloc (by omega) _).grown hg3 (by simp; omega) (fun g hg' => ((HO2.out (.cells #[] 0)).lt g hg').1))
     have HO3 := Lib.hid ho3
     have hw3 := HB3.out.size
     have px := HX3.out.cell 0
     simp at px
     have hx3 := HX3.out.lt
     have hi3 : (K2) ≤ n := by omega
     have hi4 : ((K2 : Nat) : Int) ≤ (n : Int) := by omega
     clear ho3 hg3
     go_wp2_with (at_builtin; refine wpList_append_any _ rfl (.tmp 45) (.tmp 49) 24 rfl w.heap.size 89 i0 _ 3 56 Tryz.underlying24 hi hz0 hz1 hz2 rfl (by decide) _ _ _ rfl (HO3.out) w.heap.size _ (n - (K2)) _ (cs.drop ((K2) * 3)) rfl (HRD3.out.cut hi3 hnc) (fun u hu => HONE.out u (List.mem_of_mem_drop hu)) ?c1 ?c2 ?c3 ?_)
     case c1 => unfold maxLen; omega
     case c2 => omega
     case c3 => omega
     all_goals
      intro v4 w4 ho4 hg4 _
      have HB4 := Lib.hid (HB3.out.grown hg4 (by omega) (fun g hg' => (HO3.out.lt g hg').1))
      have HY4 := Lib.hid (HY3.out.grown hg4 (fun e => Own.own_blk_ne HO3.out HY3.out (by decide) e.symm))
      have hpn : PN.length = K2 + 1 + (n - (K2)) := by
       rw [HP.out, List.length_append, List.length_cons, List.length_take, List.length_drop, HL.out]
       omega
      have hcn : CellsN w PN ((cs.take (K2 * 3) ++ [.string nm, .slice S m q, .string v]) ++ cs.drop ((K2) * 3)) := by
       rw [cellsN_iff, HP.out, List.append_assoc]
       exact CellsG.append (HCS.out.take K2) ⟨[.string nm, .slice S m q, .string v], _, rfl, rfl, ⟨_, _, _, rfl, rfl, ⟨S, m, q, rfl, Hst.out, hmq⟩, rfl⟩, HCS.out.drop (K2)⟩
      obtain ⟨A4, cap4, rfl, hcap4, hN4⟩ := nodes_of_row (fs := PN) ho4 (by omega) (by simpa using hcn) HB4.out
      have HKO := Lib.hid (l03Own_any A4 _ cap4 PN w4 hN4 HSM.out)
      have hw4 := HB4.out.size
      clear ho4 hg4 hcn px hN4 hpn
      go_wp2_with fail
      refine HKO.out.mono ?_
      rintro e w5 ⟨v5, rfl, hN5, hb5⟩
      have HY5 := Lib.hid (HY4.out.later hb5 HY4.out.lt)
      have HB5 := Lib.hid (HB4.out.later hb5)
      obtain ⟨A5, cap5, rfl, _, _⟩ := hN5.reads
      have HN5 := Lib.hid (hN5.base hw4)
      have p5 := HY5.out.cell 0
      have f5 := HY5.out.frozen 0
      simp at p5
      have z5 := HY5.out.lt
      clear hb5 hN5
      go_wp2_with fail
      refine bodyPost_ret (v := .tuple #[.agg #[.slice A5 _ cap5], .int .i64 0]) (by simp [results, Tryz.results173, go_sem, p5]; try exact rfl) rfl ?_
      exact ⟨_, by rw [HE.out], by rw [HE.out]; exact HN5.out.setBlk HY5.out (by decide) (by decide), HB5.out.setCell (show w.heap.size ≤ w.heap.size + 1 by omega) _⟩
end Go.Proofs.YtlicffeicmoifaaGreatDoor
