import Derived.Test.YtlicffeicmoifaaGreatDoorZ09
import Derived.Test.YtlicffeicmoifaaGreatDoorZ00
import Derived.Test.YtlicffeicmoifaaGreatDoorZ07
import Derived.Test.YtlicffeicmoifaaGreatDoorZ08
import Derived.Test.YtlicffeicmoifaaGreatDoorZ16
set_option linter.unusedSimpArgs false
namespace Go.Proofs.YtlicffeicmoifaaGreatDoor
open Go.RowKit
theorem any_not_all {α : Type} (p : α → Bool) (l : List α) : (!(l.any fun c => !p c)) = l.all p := by
 induction l with
 | nil => rfl
 | cons a r ih => rw [List.any_cons, List.all_cons, ← ih]; cases p a <;> simp
end Go.Proofs.YtlicffeicmoifaaGreatDoor
namespace Go.Proofs.YtlicffeicmoifaaGreatDoor
open Go.RowKit
theorem CloneS_any (A : Option Addr) (n c : Nat) (ss : List ByteArray) (w : World) (h : Strs w w.heap.size A n ss) (hn : n ≤ 1048576) :
 Calls Tryz.prog 130 #[.slice A n c] w fun e w' => ∃ v, e = .returned v ∧ Own.SubO w' w.heap.size v ss ∧ Below w.heap.size w w' := by
 rcases Nat.eq_zero_or_pos n with h0 | h0
 · subst h0
   obtain rfl : ss = [] := List.eq_nil_of_length_eq_zero h.1
   cases A with
   | none => exact (Tryz.slices_Clone_string_nil 0 c w).mono fun e w' ⟨he, hw⟩ => ⟨_, he, by subst hw; exact Own.sub_nil _ _, by subst hw; exact Below.refl _ _⟩
   | some a => exact (Tryz.slices_Clone_string_zero a c w).mono fun e w' ⟨v, he, ho, _, hb⟩ => ⟨v, he, ho, hb⟩
 · obtain ⟨b, o, rfl, hb, hc⟩ := h.2 h0
   have hl := h.1
   refine (Tryz.slices_Clone_string b o n c ss w (by omega) (by omega) (fun j hj => hc j (by omega))).mono fun e w' ⟨v, he, ho, _, hb⟩ => ⟨v, he, ?_, hb⟩
   rw [List.take_of_length_le (by omega), ← hl] at ho
   exact ho
end Go.Proofs.YtlicffeicmoifaaGreatDoor
namespace Go.Proofs.YtlicffeicmoifaaGreatDoor
open Go.RowKit
set_option linter.unusedVariables false
def putNodeB (fs : List NodeD) (nm : ByteArray) (ss : List ByteArray) (v : ByteArray) : Int × List NodeD := if (treeB fs && (thingB nm ss && decide (v.size ≤ 64))) = true then putB fs nm ss v else (1, [])
theorem treeB_len {fs : List NodeD} (h : treeB fs = true) : fs.length ≤ 120 := (tree_iff.1 h).1
set_option maxRecDepth 100000 in
set_option maxHeartbeats 4000000 in
theorem PutNode_any (A : Option Addr) (n c : Nat) (fs : List NodeD) (nm : ByteArray) (S : Option Addr) (m q : Nat) (ss : List ByteArray) (v : ByteArray) (w : World) (h : Nodes w w.heap.size A n fs) (hnc : n ≤ c) (hs : smallNs fs) (h' : Strs w w.heap.size S m ss) (hmq : m ≤ q) (hd : (⟨nm, ss, v⟩ : NodeD).small) :
 Calls Tryz.prog 86 #[.agg #[.slice A n c], .string nm, .slice S m q, .string v] w (TreePost (putNodeB fs nm ss v) w) := by
 have hm : m ≤ 1048576 := by rw [← h'.1]; exact hd.2.1.1
 have HKT := Lib.hid (fun W (hW : Below w.heap.size w W) => specTreeOk_any A n c fs W (h.later hW) hs)
 have HKP := Lib.hid (fun W (hW : Below w.heap.size w W) => l03Place_any nm S m q ss W hd.1 (h'.later hW) hm hd.2.1.2)
 have HKU := Lib.hid (fun W (hW : Below w.heap.size w W) (ht : treeB fs = true) => l03Put_any A n c fs nm S m q ss v W (h.later hW) hnc hs (by have := treeB_len ht; rw [h.1] at this; omega) (h'.later hW) hmq hd)
 have HB : Hid (putNodeB fs nm ss v = if (treeB fs && (thingB nm ss && decide (v.size ≤ 64))) = true then putB fs nm ss v else (1, [])) := rfl
 have hvs : v.size ≤ 1048576 := hd.2.2
 clear h h' hd hs
 generalize putNodeB fs nm ss v = PB at *
 generalize putB fs nm ss v = PU at *
 generalize treeB fs = t0 at *
 generalize thingB nm ss = t1 at *
 go_enter Tryz.func86, Tryz.ntmps86
 go_wp2_with fail
 refine (HKT.out _ ((Below.new _ _).later (Below.new _ _))).mono ?_
 rintro e w1 ⟨rfl, hb1⟩
 have HB1 := Lib.hid (((Below.new w _).later (Below.new _ _)).later hb1)
 have HX := Lib.hid (Blk.later (heap_two0 w _ _) hb1 (by simp; omega))
 have HY := Lib.hid (Blk.later (heap_two1 w _ _) hb1 (by simp))
 have px := HX.out.cell 0
 have py := HY.out.cell 0
 have fy := HY.out.frozen 0
 have zy := HY.out.lt
 simp at px py
 clear hb1
 cases t0
 · have HE : Hid (PB = (1, [])) := by unfold Hid; rw [HB.out]; rfl
   go_wp2_with fail
   refine bodyPost_ret (v := .tuple #[.agg #[.slice none 0 0], .int .i64 1]) (by simp [results, Tryz.results86, go_sem, py]) rfl ?_
   exact ⟨_, by rw [HE.out], by rw [HE.out]; exact nodesO_nil _ _, HB1.out.setCell (show w.heap.size ≤ w.heap.size + 1 by omega) _⟩
 · go_wp2_with fail
   refine (HKP.out _ HB1.out).mono ?_
   rintro e w2 ⟨rfl, rfl⟩
   cases t1
   · have HE : Hid (PB = (1, [])) := by unfold Hid; rw [HB.out]; rfl
     go_wp2_with fail
     refine bodyPost_ret (v := .tuple #[.agg #[.slice none 0 0], .int .i64 1]) (by simp [results, Tryz.results86, go_sem, py]) rfl ?_
     exact ⟨_, by rw [HE.out], by rw [HE.out]; exact nodesO_nil _ _, HB1.out.setCell (show w.heap.size ≤ w.heap.size + 1 by omega) _⟩
   · by_cases h64 : 64 < v.size
     · have HE : Hid (PB = (1, [])) := by unfold Hid; rw [HB.out, decide_eq_false (by omega)]; rfl
       go_wp2_with fail
       refine bodyPost_ret (v := .tuple #[.agg #[.slice none 0 0], .int .i64 1]) (by simp [results, Tryz.results86, go_sem, py]) rfl ?_
       exact ⟨_, by rw [HE.out], by rw [HE.out]; exact nodesO_nil _ _, HB1.out.setCell (show w.heap.size ≤ w.heap.size + 1 by omega) _⟩
     · have HE : Hid (PB = PU) := by unfold Hid; rw [HB.out, decide_eq_true (show v.size ≤ 64 by omega)]; rfl
       go_wp2_with fail
       refine (HKU.out _ HB1.out (by trivial)).mono ?_
       rintro e w5 ⟨v5, rfl, hN5, hb5⟩
       have HY5 := Lib.hid (HY.out.later hb5 HY.out.lt)
       have HB5 := Lib.hid (HB1.out.later hb5)
       obtain ⟨A5, cap5, rfl, _, _⟩ := hN5.reads
       have HN5 := Lib.hid (hN5.base HB1.out.size)
       have p5 := HY5.out.cell 0
       have f5 := HY5.out.frozen 0
       have z5 := HY5.out.lt
       simp at p5
       clear hb5 hN5 px py fy zy
       go_wp2_with fail
       refine bodyPost_ret (v := .tuple #[.agg #[.slice A5 _ cap5], .int .i64 _]) (by simp [results, Tryz.results86, go_sem, p5]; try first | exact rfl | exact ⟨rfl, rfl⟩) rfl ?_
       exact ⟨_, by rw [HE.out], by rw [HE.out]; exact HN5.out.setBlk HY5.out (by decide) (by decide), HB5.out.setCell (show w.heap.size ≤ w.heap.size + 1 by omega) _⟩
theorem kill_small {fs : List NodeD} {nm : ByteArray} {ss : List ByteArray} (h : smallNs fs) : smallNs (killB fs nm ss) :=
 ⟨Nat.le_trans (List.length_filter_le _ _) h.1, fun d hd => h.2 d (List.mem_filter.1 hd).1⟩
set_option maxRecDepth 100000 in
set_option maxHeartbeats 4000000 in
theorem l03Kill_any (A : Option Addr) (n c : Nat) (fs : List NodeD) (nm : ByteArray) (S : Option Addr) (m q : Nat) (ss : List ByteArray) (w : World) (h : Nodes w w.heap.size A n fs) (hs : smallNs fs) (h' : Strs w w.heap.size S m ss) (hm : m ≤ 1048576) :
 Calls Tryz.prog 281 #[.agg #[.slice A n c], .string nm, .slice S m q] w (TreeOnly (killB fs nm ss) w) := by
 obtain ⟨i0, hi, hz0, hz1, hz2⟩ := info_parts infoNodeD
 have Hh := Lib.hid h
 have Hlen := Lib.hid h.1
 have hn : n ≤ 1048576 := by rw [← h.1]; exact hs.1
 have Hst := Lib.hid h'
 have HSM := Lib.hid (kill_small (nm := nm) (ss := ss) hs)
 have HOUT : Hid (killB fs nm ss = fs.filter fun d => !inN nm ss d) := rfl
 clear h h' hs
 generalize killB fs nm ss = OUT at *
 generalize hP : (fun d => !inN nm ss d) = P at *
 have HP : Hid (∀ d, P d = !inN nm ss d) := by subst hP; exact fun _ => rfl
 clear hP
 have HY0 := Lib.hid (Blk.alloc (heap_two1 w (.cells #[.slice A n c] 26) (.cells #[.slice none 0 0] 26)) (.cells #[] 89))
 have HX0 := Lib.hid (Blk.alloc (heap_two0 w (.cells #[.slice A n c] 26) (.cells #[.slice none 0 0] 26)) (.cells #[] 89))
 have HB0 := Lib.hid (((Below.new w (.cells #[.slice A n c] 26)).later (Below.new _ (.cells #[.slice none 0 0] 26))).later (Below.new _ (.cells #[] 89)))
 go_enter Tryz.func281, Tryz.ntmps281
 go_wp2_with fail
 go_loopw [7, 8] (fun v i wr => ∃ (k : Nat) (cs : List Value), k ≤ n ∧ i = .int .i64 k ∧ Hid (wr.ownsRow (w.heap.size + 1 + 1) 89 3 v ((fs.take k).filter P).length cs) ∧ Hid (CellsN w ((fs.take k).filter P) cs) ∧ Hid (Blk wr w.heap.size 26 #[.slice A n c]) ∧ Hid (Blk wr (w.heap.size + 1) 26 #[.slice none 0 0]) ∧ Hid (Below w.heap.size w wr)) (fun _ i _ => n - (intOf i).toNat)
 case atStart => exact ⟨0, [], Nat.zero_le _, rfl, by unfold Hid; simpa using World.ownsRow_lit (e := 89) (size := 3) ((w.alloc (.cells #[.slice A n c] 26)).alloc (.cells #[.slice none 0 0] 26)) #[] 0 (by simp) (by omega) rfl, rfl, HX0.out, HY0.out, HB0.out⟩
 case round =>
  obtain ⟨k, cs, hk, rfl, HO, HC, HX, HY, HB⟩ := hrel
  have px := HX.out.cell 0
  have zx := HX.out.lt
  simp at px
  have hml := filter_len P fs k
  have hsz := HB.out.size
  have hzy := HY.out.lt
  by_cases hlt : k < n
  · obtain ⟨bb, o, e0, hbB0, hc0⟩ := Hh.out.2 (by omega)
    obtain ⟨c0, c1, c2, k0, k1, k2, hr⟩ := hc0 k hlt
    subst e0
    have j0 := (HB.out.cell (p := ⟨bb, o + k * 3, none⟩) hbB0).trans k0
    have j1 := (HB.out.cell (p := ⟨bb, o + k * 3 + 1, none⟩) hbB0).trans k1
    have j2 := (HB.out.cell (p := ⟨bb, o + k * 3 + 2, none⟩) hbB0).trans k2
    have hbB : bb < wr.heap.size := by omega
    clear hc0 k0 k1 k2
    have hl1 : k < fs.length := by rw [Hlen.out]; exact hlt
    have HTS := Lib.hid (filter_snoc P fs k hl1)
    have HPd := Lib.hid (HP.out (fs.getD k default))
    clear hl1
    generalize fs.getD k default = d at *
    have HNR := Lib.hid hr
    have HKI := Lib.hid (fun W (hW : Below wr.heap.size wr W) => l03In_any c0 c1 c2 S m q d nm ss W (hr.later (HB.out.later hW)) (Hst.out.later (HB.out.later hW)) hm)
    obtain ⟨e0, ⟨A1, n1, cap1, e1, hs1, hcap1⟩, e2⟩ := hr
    subst e0 e1 e2
    clear hs1
    generalize hM : ((fs.take k).filter P).length = mm at *
    have HM := Lib.hid hM
    clear hM
    generalize inN nm ss d = y at *
    go_wp2_with fail
    refine (HKI.out _ (by first | exact Below.refl _ _ | exact (Below.refl _ _).drew | exact below_drewN (Below.refl _ _) _)).mono ?_
    rintro e w1 ⟨rfl, hb1'⟩
    have hb1 : Below wr.heap.size wr w1 := by first | exact hb1' | exact undrew hb1' | exact undrewN hb1'
    have HX1 := Lib.hid (HX.out.later hb1 HX.out.lt)
    have HY1 := Lib.hid (HY.out.later hb1 HY.out.lt)
    have HB1 := Lib.hid (HB.out.later hb1)
    have HO1 := Lib.hid (Own.own_later HO.out hb1)
    have l0 := (hb1.cell (p := ⟨bb, o + k * 3, none⟩) hbB).trans j0
    have l1 := (hb1.cell (p := ⟨bb, o + k * 3 + 1, none⟩) hbB).trans j1
    have l2 := (hb1.cell (p := ⟨bb, o + k * 3 + 2, none⟩) hbB).trans j2
    have p1 := HX1.out.cell 0
    have z1 := HX1.out.lt
    simp at p1
    have hw1 := hb1.size
    clear hb1 hb1' j0 j1 j2 px
    cases y
    · have HE : Hid ((fs.take (k + 1)).filter P = (fs.take k).filter P ++ [d]) := by unfold Hid; rw [HTS.out, if_pos (by rw [HPd.out]; rfl)]
      have hrow : Hid (∀ o, (w1.alloc o).ownsRow (w.heap.size + 1 + 1) 89 3 u7 mm cs) := fun o => Own.own_later HO1.out (Below.new _ _)
      go_wp2_with (at_builtin; refine wpList_append_own _ rfl (.tmp 26) (.tmp 32) 24 rfl (w.heap.size + 1 + 1) 89 i0 _ 3 56 Tryz.underlying24 hi hz0 hz1 hz2 rfl (by decide) _ mm _ rfl (hrow.out _) ⟨_, 0, none⟩ 1 1 [.string d.name, .slice A1 n1 cap1, .string d.val] rfl rfl ?c1 ?c2 ?c3 ?c4 ?c5 ?_)
      case c1 => exact cells_newN _ _ _
      case c2 => simp [Value.oneCell']
      case c3 => unfold maxLen; omega
      case c4 => omega
      case c5 => first | omega | (simp; omega)
      intro v1 w2 hown1 hg1 _
      have HO3 : Hid (w2.ownsRow (w.heap.size + 1 + 1) 89 3 v1 ((fs.take (k + 1)).filter P).length (cs ++ [.string d.name, .slice A1 n1 cap1, .string d.val])) := by
       unfold Hid
       rw [HE.out, List.length_append, List.length_singleton, HM.out]
       exact hown1
      have HC3 : Hid (CellsN w ((fs.take (k + 1)).filter P) (cs ++ [.string d.name, .slice A1 n1 cap1, .string d.val])) := by
       unfold Hid
       rw [HE.out]
       exact CellsN.snoc HNR.out HC.out
      have HX3 := Lib.hid ((HX1.out.alloc (.cells #[.string d.name, .slice A1 n1 cap1, .string d.val] 89)).grown hg1 (fun e => Own.own_blk_ne (hrow.out (.cells #[] 0)) (HX1.out.alloc _) (by decide) e.symm))
      have HY3 := Lib.hid ((HY1.out.alloc (.cells #[.string d.name, .slice A1 n1 cap1, .string d.val] 89)).grown hg1 (fun e => Own.own_blk_ne (hrow.out (.cells #[] 0)) (HY1.out.alloc _) (by decide) e.symm))
      have HB3 := Lib.hid ((HB1.out.alloc (by omega) _).grown hg1 (by simp; omega) (fun g hg' => by have := ((hrow.out (.cells #[] 0)).lt g hg').1; omega))
      clear hown1 hg1 l0 l1 l2 p1 z1
      go_wp2_with fail
      go_roundw
      case rel => exact ⟨k + 1, _, by omega, by go_num, HO3.out, HC3.out, HX3.out, HY3.out, HB3.out⟩
      case measure => simp [intOf]; omega
    · have HE : Hid ((fs.take (k + 1)).filter P = (fs.take k).filter P) := by unfold Hid; rw [HTS.out, if_neg (by rw [HPd.out]; simp)]
      go_wp2_with fail
      go_roundw
      case rel =>
       refine ⟨k + 1, cs, by omega, by go_num, ?_, ?_, HX1.out, HY1.out, HB1.out⟩
       · unfold Hid; rw [HE.out, HM.out]; exact HO1.out
       · unfold Hid; rw [HE.out]; exact HC.out
      case measure => simp [intOf]; omega
  · obtain rfl : k = n := by omega
    have HE : Hid ((fs.take k).filter P = OUT) := by unfold Hid; rw [HOUT.out, List.take_of_length_le (by rw [Hlen.out]; omega)]
    have h1 := HO.out
    have h2 := HC.out
    rw [HE.out] at h1 h2
    obtain ⟨A4, cap4, rfl, hcap4, hN4⟩ := nodes_of_row h1 rfl h2 HB.out
    have HKO := Lib.hid (l03Own_any A4 _ cap4 OUT wr hN4 HSM.out)
    clear h1 h2 hN4 HO
    go_wp2_with fail
    refine HKO.out.mono ?_
    rintro e w5 ⟨v5, rfl, hN5, hb5⟩
    have HY5 := Lib.hid (HY.out.later hb5 HY.out.lt)
    have HB5 := Lib.hid (HB.out.later hb5)
    obtain ⟨A5, cap5, rfl, _, _⟩ := hN5.reads
    have HN5 := Lib.hid (hN5.base hsz)
    have p5 := HY5.out.cell 0
    have f5 := HY5.out.frozen 0
    have z5 := HY5.out.lt
    simp at p5
    clear hb5 hN5 px
    go_wp2_with fail
    refine bodyPost_ret (v := .agg #[.slice A5 _ cap5]) (by simp [results, Tryz.results281, go_sem, p5]; try first | exact rfl | exact ⟨rfl, rfl⟩) rfl ?_
    exact ⟨_, rfl, HN5.out.setBlk HY5.out (by decide) (by decide), HB5.out.setCell (show w.heap.size ≤ w.heap.size + 1 by omega) _⟩
end Go.Proofs.YtlicffeicmoifaaGreatDoor
namespace Go.Proofs.YtlicffeicmoifaaGreatDoor
open Go.RowKit
set_option linter.unusedVariables false
set_option maxRecDepth 100000 in
set_option maxHeartbeats 2000000 in
theorem ChangeOk_any (c0 c1 c2 c3 : Value) (d : ChgD) (w : World) (h : ChgR w w.heap.size c0 c1 c2 c3 d) (hd : d.small) :
 Calls Tryz.prog 254 #[.agg #[c0, c1, c2, c3]] w fun e w' => e = .returned (.bool (changeB d)) ∧ Below w.heap.size w w' := by
 obtain ⟨rfl, rfl, ⟨S, m, q, rfl, hs, hmq⟩, rfl⟩ := h
 have hm : m ≤ 1048576 := by rw [← hs.1]; exact hd.2.1.1
 have HKP := Lib.hid (fun W (hW : Below w.heap.size w W) => l03Place_any d.name S m q d.subs W hd.1 (hs.later hW) hm hd.2.1.2)
 have HR : Hid (changeB d = (thingB d.name d.subs && ((decide (d.kind = 1) && decide (d.val.size ≤ 64)) || (decide (d.kind = 2) && decide (d.val = ⟨#[]⟩))))) := rfl
 have hvs := hd.2.2
 clear hs hd
 generalize changeB d = R at *
 generalize thingB d.name d.subs = t1 at *
 generalize d.name = nm at *
 generalize d.val = vl at *
 generalize d.kind = kd at *
 go_enter Tryz.func254, Tryz.ntmps254
 go_wp2_with fail
 refine (HKP.out _ (Below.new _ _)).mono ?_
 rintro e w2 ⟨rfl, rfl⟩
 cases t1
 · have HE : Hid (R = false) := by unfold Hid; rw [HR.out]; rfl
   go_wp2_with fail
   go_ret
   exact ⟨ret_bool (by first | exact HE.out.symm | (rw [HE.out]; first | (simp; done) | (simp; omega) | (rw [Bool.eq_iff_iff]; simp))), Below.new _ _⟩
 · by_cases h1 : kd = 1
   · subst h1
     by_cases h64 : vl.size ≤ 64
     · have HE : Hid (R = true) := by unfold Hid; rw [HR.out, decide_eq_true h64]; rfl
       have h64i : (vl.size : Int) ≤ 64 := by omega
       go_wp2_with fail
       go_ret
       exact ⟨ret_bool (by first | exact HE.out.symm | (rw [HE.out]; first | (simp; done) | (simp; omega) | (rw [Bool.eq_iff_iff]; simp))), Below.new _ _⟩
     · have HE : Hid (R = false) := by unfold Hid; rw [HR.out, decide_eq_false h64]; rfl
       have h64i : ¬ (vl.size : Int) ≤ 64 := by omega
       go_wp2_with fail
       go_ret
       exact ⟨ret_bool (by first | exact HE.out.symm | (rw [HE.out]; first | (simp; done) | (simp; omega) | (rw [Bool.eq_iff_iff]; simp))), Below.new _ _⟩
   · have hb1 : (kd == (1 : Int)) = false := by rw [beq_eq_false_iff_ne]; exact h1
     by_cases h2 : kd = 2
     · subst h2
       by_cases hv : vl = ⟨#[]⟩
       · subst hv
         have HE : Hid (R = true) := by unfold Hid; rw [HR.out]; rfl
         go_wp2_with fail
         go_ret
         exact ⟨ret_bool (by first | exact HE.out.symm | (rw [HE.out]; first | (simp; done) | (simp; omega) | (rw [Bool.eq_iff_iff]; simp))), Below.new _ _⟩
       · have HE : Hid (R = false) := by unfold Hid; rw [HR.out, decide_eq_false hv]; rfl
         have hbe := str_beq hv
         have hbe3 := ne_bytes (l := []) hv
         go_wp2_with fail
         go_ret
         exact ⟨ret_bool (by first | exact HE.out.symm | (rw [HE.out]; first | (simp; done) | (simp; omega) | (rw [Bool.eq_iff_iff]; simp))), Below.new _ _⟩
     · have HE : Hid (R = false) := by unfold Hid; rw [HR.out, decide_eq_false h1, decide_eq_false h2]; rfl
       have hb2 : (kd == (2 : Int)) = false := by rw [beq_eq_false_iff_ne]; exact h2
       go_wp2_with fail
       go_ret
       exact ⟨ret_bool (by first | exact HE.out.symm | (rw [HE.out]; first | (simp; done) | (simp; omega) | (rw [Bool.eq_iff_iff]; simp))), Below.new _ _⟩
theorem chg_node {d : ChgD} (h : d.small) : (⟨d.name, d.subs, d.val⟩ : NodeD).small := h
set_option maxRecDepth 100000 in
set_option maxHeartbeats 2000000 in
theorem l03Do_any (A : Option Addr) (n c : Nat) (c0 c1 c2 c3 : Value) (fs : List NodeD) (d : ChgD) (w : World) (h : Nodes w w.heap.size A n fs) (hnc : n ≤ c) (hs : smallNs fs) (hn : n < 1048576) (h' : ChgR w w.heap.size c0 c1 c2 c3 d) (hd : d.small) :
 Calls Tryz.prog 255 #[.agg #[.slice A n c], .agg #[c0, c1, c2, c3]] w (TreePost (doB fs d) w) := by
 obtain ⟨rfl, rfl, ⟨S, m, q, rfl, hst, hmq⟩, rfl⟩ := h'
 have hm : m ≤ 1048576 := by rw [← hst.1]; exact hd.2.1.1
 have HKU := Lib.hid (fun W (hW : Below w.heap.size w W) => l03Put_any A n c fs d.name S m q d.subs d.val W (h.later hW) hnc hs hn (hst.later hW) hmq (chg_node hd))
 have HKK := Lib.hid (fun W (hW : Below w.heap.size w W) => l03Kill_any A n c fs d.name S m q d.subs W (h.later hW) hs (hst.later hW) hm)
 have HB : Hid (doB fs d = if d.kind = 1 then putB fs d.name d.subs d.val else (0, killB fs d.name d.subs)) := rfl
 clear h hst hd hs
 generalize doB fs d = PB at *
 generalize putB fs d.name d.subs d.val = PU at *
 generalize killB fs d.name d.subs = KI at *
 generalize d.name = nm at *
 generalize d.val = vl at *
 generalize d.kind = kd at *
 have HB0 := Lib.hid (((Below.new w (.cells #[.slice A n c] 26)).later (Below.new _ (.cells #[.int .i64 kd, .string nm, .slice S m q, .string vl] 190))).later (Below.new _ (.cells #[.slice none 0 0] 26)))
 have HYY : Hid (Blk (((w.alloc (.cells #[.slice A n c] 26)).alloc (.cells #[.int .i64 kd, .string nm, .slice S m q, .string vl] 190)).alloc (.cells #[.slice none 0 0] 26)) (w.heap.size + 1 + 1) 26 #[.slice none 0 0]) := heap_new2 _ _ _ _
 go_enter Tryz.func255, Tryz.ntmps255
 by_cases h1 : kd = 1
 · subst h1
   have HE : Hid (PB = PU) := by unfold Hid; rw [HB.out]; rfl
   go_wp2_with fail
   refine (HKU.out _ HB0.out).mono ?_
   rintro e w5 ⟨v5, rfl, hN5, hb5⟩
   have HY5 := Lib.hid (HYY.out.later hb5 HYY.out.lt)
   have HB5 := Lib.hid (HB0.out.later hb5)
   obtain ⟨A5, cap5, rfl, _, _⟩ := hN5.reads
   have HN5 := Lib.hid (hN5.base HB0.out.size)
   have p5 := HY5.out.cell 0
   have f5 := HY5.out.frozen 0
   have z5 := HY5.out.lt
   simp at p5
   clear hb5 hN5
   go_wp2_with fail
   refine bodyPost_ret (v := .tuple #[.agg #[.slice A5 _ cap5], .int .i64 _]) (by simp [results, Tryz.results255, go_sem, p5]; try first | exact rfl | exact ⟨rfl, rfl⟩) rfl ?_
   exact ⟨_, by rw [HE.out], by rw [HE.out]; exact HN5.out.setBlk HY5.out (by decide) (by decide), HB5.out.setCell (show w.heap.size ≤ w.heap.size + 1 + 1 by omega) _⟩
 · have hb1 : (kd == (1 : Int)) = false := by rw [beq_eq_false_iff_ne]; exact h1
   have HE : Hid (PB = (0, KI)) := by unfold Hid; rw [HB.out, if_neg h1]
   go_wp2_with fail
   refine (HKK.out _ HB0.out).mono ?_
   rintro e w5 ⟨v5, rfl, hN5, hb5⟩
   have HY5 := Lib.hid (HYY.out.later hb5 HYY.out.lt)
   have HB5 := Lib.hid (HB0.out.later hb5)
   obtain ⟨A5, cap5, rfl, _, _⟩ := hN5.reads
   have HN5 := Lib.hid (hN5.base HB0.out.size)
   have p5 := HY5.out.cell 0
   have f5 := HY5.out.frozen 0
   have z5 := HY5.out.lt
   simp at p5
   clear hb5 hN5
   go_wp2_with fail
   refine bodyPost_ret (v := .tuple #[.agg #[.slice A5 _ cap5], .int .i64 0]) (by simp [results, Tryz.results255, go_sem, p5]; try first | exact rfl | exact ⟨rfl, rfl⟩) rfl ?_
   exact ⟨_, by rw [HE.out], by rw [HE.out]; exact HN5.out.setBlk HY5.out (by decide) (by decide), HB5.out.setCell (show w.heap.size ≤ w.heap.size + 1 + 1 by omega) _⟩
set_option maxRecDepth 100000 in
set_option maxHeartbeats 2000000 in
theorem DoChange_any (A : Option Addr) (n c : Nat) (c0 c1 c2 c3 : Value) (fs : List NodeD) (d : ChgD) (w : World) (h : Nodes w w.heap.size A n fs) (hnc : n ≤ c) (hs : smallNs fs) (h' : ChgR w w.heap.size c0 c1 c2 c3 d) (hd : d.small) :
 Calls Tryz.prog 193 #[.agg #[.slice A n c], .agg #[c0, c1, c2, c3]] w (TreePost (doOneB fs d) w) := by
 have HKT := Lib.hid (fun W (hW : Below w.heap.size w W) => specTreeOk_any A n c fs W (h.later hW) hs)
 have HKC := Lib.hid (fun W (hW : Below w.heap.size w W) => ChangeOk_any c0 c1 c2 c3 d W (h'.later hW) hd)
 have HKD := Lib.hid (fun W (hW : Below w.heap.size w W) (ht : treeB fs = true) => l03Do_any A n c c0 c1 c2 c3 fs d W (h.later hW) hnc hs (by have := treeB_len ht; rw [h.1] at this; omega) (h'.later hW) hd)
 have HB : Hid (doOneB fs d = if (treeB fs && changeB d) = true then doB fs d else (1, [])) := rfl
 obtain ⟨rfl, rfl, ⟨S, m, q, rfl, hst, hmq⟩, rfl⟩ := h'
 clear h hst hs hd
 generalize doOneB fs d = PB at *
 generalize doB fs d = PU at *
 generalize treeB fs = t0 at *
 generalize changeB d = t1 at *
 generalize d.name = nm at *
 generalize d.val = vl at *
 generalize d.kind = kd at *
 have HB0 := Lib.hid (((Below.new w (.cells #[.slice A n c] 26)).later (Below.new _ (.cells #[.int .i64 kd, .string nm, .slice S m q, .string vl] 190))).later (Below.new _ (.cells #[.slice none 0 0] 26)))
 have HYY : Hid (Blk (((w.alloc (.cells #[.slice A n c] 26)).alloc (.cells #[.int .i64 kd, .string nm, .slice S m q, .string vl] 190)).alloc (.cells #[.slice none 0 0] 26)) (w.heap.size + 1 + 1) 26 #[.slice none 0 0]) := heap_new2 _ _ _ _
 have HCC : Hid (Blk (((w.alloc (.cells #[.slice A n c] 26)).alloc (.cells #[.int .i64 kd, .string nm, .slice S m q, .string vl] 190)).alloc (.cells #[.slice none 0 0] 26)) (w.heap.size + 1) 190 #[.int .i64 kd, .string nm, .slice S m q, .string vl]) := heap_new1 _ _ _ _
 have HXX : Hid (Blk (((w.alloc (.cells #[.slice A n c] 26)).alloc (.cells #[.int .i64 kd, .string nm, .slice S m q, .string vl] 190)).alloc (.cells #[.slice none 0 0] 26)) w.heap.size 26 #[.slice A n c]) := heap_new0 _ _ _ _
 go_enter Tryz.func193, Tryz.ntmps193
 go_wp2_with fail
 refine (HKT.out _ HB0.out).mono ?_
 rintro e w1 ⟨rfl, hb1⟩
 have HB1 := Lib.hid (HB0.out.later hb1)
 have HX := Lib.hid (HXX.out.later hb1 HXX.out.lt)
 have HY := Lib.hid (HYY.out.later hb1 HYY.out.lt)
 have HC := Lib.hid (HCC.out.later hb1 HCC.out.lt)
 have px := HX.out.cell 0
 have py := HY.out.cell 0
 have fy := HY.out.frozen 0
 have zy := HY.out.lt
 have q0 := HC.out.cell 0
 have q1 := HC.out.cell 1
 have q2 := HC.out.cell 2
 have q3 := HC.out.cell 3
 simp at px py q0 q1 q2 q3
 clear hb1
 cases t0
 · have HE : Hid (PB = (1, [])) := by unfold Hid; rw [HB.out]; rfl
   go_wp2_with fail
   refine bodyPost_ret (v := .tuple #[.agg #[.slice none 0 0], .int .i64 1]) (by simp [results, Tryz.results193, go_sem, py]) rfl ?_
   exact ⟨_, by rw [HE.out], by rw [HE.out]; exact nodesO_nil _ _, HB1.out.setCell (show w.heap.size ≤ w.heap.size + 1 + 1 by omega) _⟩
 · go_wp2_with fail
   refine (HKC.out _ HB1.out).mono ?_
   rintro e w2 ⟨rfl, hb2⟩
   have HB2 := Lib.hid (HB1.out.later hb2)
   have HX2 := Lib.hid (HX.out.later hb2 HX.out.lt)
   have HY2 := Lib.hid (HY.out.later hb2 HY.out.lt)
   have HC2 := Lib.hid (HC.out.later hb2 HC.out.lt)
   clear px py fy zy q0 q1 q2 q3
   have px := HX2.out.cell 0
   have py := HY2.out.cell 0
   have fy := HY2.out.frozen 0
   have zy := HY2.out.lt
   have q0 := HC2.out.cell 0
   have q1 := HC2.out.cell 1
   have q2 := HC2.out.cell 2
   have q3 := HC2.out.cell 3
   simp at px py q0 q1 q2 q3
   clear hb2
   cases t1
   · have HE : Hid (PB = (1, [])) := by unfold Hid; rw [HB.out]; rfl
     go_wp2_with fail
     refine bodyPost_ret (v := .tuple #[.agg #[.slice none 0 0], .int .i64 1]) (by simp [results, Tryz.results193, go_sem, py]) rfl ?_
     exact ⟨_, by rw [HE.out], by rw [HE.out]; exact nodesO_nil _ _, HB2.out.setCell (show w.heap.size ≤ w.heap.size + 1 + 1 by omega) _⟩
   · have HE : Hid (PB = PU) := by unfold Hid; rw [HB.out]; rfl
     go_wp2_with fail
     refine (HKD.out _ HB2.out (by trivial)).mono ?_
     rintro e w5 ⟨v5, rfl, hN5, hb5⟩
     have HY5 := Lib.hid (HY2.out.later hb5 HY2.out.lt)
     have HB5 := Lib.hid (HB2.out.later hb5)
     obtain ⟨A5, cap5, rfl, _, _⟩ := hN5.reads
     have HN5 := Lib.hid (hN5.base HB2.out.size)
     clear px py fy zy q0 q1 q2 q3
     have p5 := HY5.out.cell 0
     have f5 := HY5.out.frozen 0
     have z5 := HY5.out.lt
     simp at p5
     clear hb5 hN5
     go_wp2_with fail
     refine bodyPost_ret (v := .tuple #[.agg #[.slice A5 _ cap5], .int .i64 _]) (by simp [results, Tryz.results193, go_sem, p5]; try first | exact rfl | exact ⟨rfl, rfl⟩) rfl ?_
     exact ⟨_, by rw [HE.out], by rw [HE.out]; exact HN5.out.setBlk HY5.out (by decide) (by decide), HB5.out.setCell (show w.heap.size ≤ w.heap.size + 1 + 1 by omega) _⟩
end Go.Proofs.YtlicffeicmoifaaGreatDoor
