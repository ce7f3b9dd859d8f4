import Derived.Test.YtgmaamnofhmecaaGreatDoorZ26
import Derived.Test.YtgmaamnofhmecaaGreatDoorZ13
import Derived.Test.YtgmaamnofhmecaaGreatDoorZ24
import Derived.Test.YtgmaamnofhmecaaGreatDoorZ09
import Derived.Test.YtgmaamnofhmecaaGreatDoorZ12
set_option linter.unusedSimpArgs false
namespace Go.Proofs.YtgmaamnofhmecaaGreatDoor
open Go.RowKit
set_option linter.unusedVariables false
def okE (d : EvD) : Prop := d.small ∧ okV d.val
def okEs (l : List EvD) : Prop := l.length ≤ 1048576 ∧ ∀ d ∈ l, okE d
theorem getD_memQ {α : Type} [Inhabited α] (fs : List α) (k : Nat) (h : k < fs.length) : fs.getD k default ∈ fs := by
 rw [List.getD_eq_getElem?_getD, List.getElem?_eq_getElem h]; exact List.getElem_mem h
theorem all_stepQ {α : Type} [Inhabited α] (p : α → Bool) (fs : List α) (k : Nat) (h : k < fs.length) : (fs.drop k).all p = (p (fs.getD k default) && (fs.drop (k + 1)).all p) := by
 rw [List.drop_eq_getElem_cons h, List.getD_eq_getElem?_getD, List.getElem?_eq_getElem h]
 rfl
def PredEvent (g : Nat) (lb : Array Value) (p : EvD → Bool) (fs : List EvD) (w : World) : Prop :=
 ∀ d ∈ fs, ∀ c0 c1 c2 c3 c4 W, Below w.heap.size w W → EvR W W.heap.size c0 c1 c2 c3 c4 d → Calls Tryz.prog g (#[.agg #[c0, c1, c2, c3, c4]] ++ lb) W fun e w' => e = .returned (.bool (p d)) ∧ Below W.heap.size W w'
set_option maxHeartbeats 1000000 in
theorem IndexFuncEvent_any (g : Nat) (lb : Array Value) (p : EvD → Bool) (A : Option Addr) (n c : Nat) (fs : List EvD) (w : World) (h : Evs w w.heap.size A n fs) (hn : n ≤ 1048576)
 (eg : ∀ args w, (callFunc g args).run Tryz.prog w = .ok (.enter g args) w) (hg : PredEvent g lb p fs w) :
 Calls Tryz.prog 213 #[.slice A n c, .func (.func g) #[] lb] w fun e w' => e = .returned (.int .i64 (idxF p fs 0)) ∧ Below w.heap.size w w' := by
 have Hh := Lib.hid h
 have Hlen := Lib.hid h.1
 have Hg := Lib.hid hg
 clear h hg
 go_enter Tryz.func213, Tryz.ntmps213
 go_wp2_with fail
 go_loopw [8] (fun i wr => ∃ k : Nat, k ≤ n ∧ i = .int .i64 k ∧ Below w.heap.size w wr ∧ Hid (idxF p fs 0 = idxF p (fs.drop k) k)) (fun i _ => n - (intOf i).toNat)
 case atStart => exact ⟨0, Nat.zero_le _, rfl, Below.refl _ _, rfl⟩
 case round =>
  obtain ⟨k, hk, rfl, hb, hS⟩ := hrel
  have HB := Lib.hid hb
  clear hb
  by_cases hlt : k < n
  · obtain ⟨b, o, rfl, hbB, hcell⟩ := (Hh.out.later HB.out).2 (by omega)
    obtain ⟨c0, c1, c2, c3, c4, k0, k1, k2, k3, k4, hr⟩ := hcell k hlt
    clear hcell
    have hl : k < fs.length := by rw [Hlen.out]; exact hlt
    have HS := Lib.hid (idxF_step p fs k hl)
    have HK := Lib.hid (Hg.out (fs.getD k default) (getD_memQ fs k hl) c0 c1 c2 c3 c4 wr HB.out hr)
    clear hl hr
    generalize fs.getD k default = s at *
    generalize hx : p s = x at *
    have HX := Lib.hid hx
    clear hx
    go_wp2_with fail
    refine HK.out.mono ?_
    rintro e w' ⟨rfl, hb1⟩
    have HB1 := Lib.hid (HB.out.later hb1)
    clear hb1
    cases x
    · go_wp2_with fail
      go_roundw
      case rel => exact ⟨k + 1, by omega, by go_num, HB1.out, by unfold Hid; rw [hS.out, HS.out]; rfl⟩
      case measure => simp [intOf]; omega
    · go_wp2_with fail
      go_ret
      exact ⟨ret_int (by rw [hS.out, HS.out]; rfl), HB1.out⟩
  · have HE : Hid (idxF p fs 0 = -1) := by unfold Hid; rw [hS.out, List.drop_of_length_le (by rw [Hlen.out]; omega)]; rfl
    go_wp2_with fail
    go_ret
    exact ⟨ret_int HE.out.symm, HB.out⟩
set_option maxHeartbeats 400000 in
theorem ContainsFuncEvent_any (g : Nat) (lb : Array Value) (p : EvD → Bool) (A : Option Addr) (n c : Nat) (fs : List EvD) (w : World) (h : Evs w w.heap.size A n fs) (hn : n ≤ 1048576)
 (eg : ∀ args w, (callFunc g args).run Tryz.prog w = .ok (.enter g args) w) (hg : PredEvent g lb p fs w) :
 Calls Tryz.prog 160 #[.slice A n c, .func (.func g) #[] lb] w fun e w' => e = .returned (.bool (fs.any p)) ∧ Below w.heap.size w w' := by
 have HK := Lib.hid (IndexFuncEvent_any g lb p A n c fs w h hn eg hg)
 have hE := idxF_any p fs 0
 clear h hg eg
 generalize fs.any p = R at *
 generalize idxF p fs 0 = x at *
 have HE := Lib.hid hE
 clear hE
 go_enter Tryz.func160, Tryz.ntmps160
 go_wp2_with fail
 refine HK.out.mono ?_
 rintro e w' ⟨rfl, hb1⟩
 have HB1 := Lib.hid hb1
 clear hb1
 go_wp2_with fail
 go_ret
 exact ⟨ret_bool HE.out, HB1.out⟩
set_option maxHeartbeats 1000000 in
theorem notesOk1_any (c0 c1 c2 c3 c4 : Value) (d : EvD) (w : World) (htab : tabT w) (h : EvR w w.heap.size c0 c1 c2 c3 c4 d) (hok : okE d) :
 Calls Tryz.prog 161 #[.agg #[c0, c1, c2, c3, c4]] w fun e w' => e = .returned (.bool (!noteB d)) ∧ Below w.heap.size w w' := by
 have HK := Lib.hid (fun W (hW : Below w.heap.size w W) => NoteOk_any c0 c1 c2 c3 c4 d W (tab_later htab hW) (h.later hW) hok.1 hok.2)
 have HB0 : Hid (Below w.heap.size w (w.alloc (.cells #[c0, c1, c2, c3, c4] 55))) := Below.new _ _
 clear h hok htab
 generalize noteB d = x at *
 go_enter Tryz.func161, Tryz.ntmps161
 go_wp2_with fail
 refine (HK.out _ HB0.out).mono ?_
 rintro e w1 ⟨rfl, hb1⟩
 have HB := Lib.hid (HB0.out.later hb1)
 clear hb1
 go_wp2_with fail
 go_ret
 exact ⟨rfl, HB.out⟩
set_option maxHeartbeats 1000000 in
theorem notesOk_any (A : Option Addr) (n c : Nat) (fs : List EvD) (w : World) (htab : tabT w) (h : Evs w w.heap.size A n fs) (hok : okEs fs) :
 Calls Tryz.prog 93 #[.slice A n c] w fun e w' => e = .returned (.bool (notesB fs)) ∧ Below w.heap.size w w' := by
 have hn : n ≤ 1048576 := by rw [← h.1]; exact hok.1
 have eg : ∀ args w, (callFunc 161 args).run Tryz.prog w = .ok (.enter 161 args) w := enters_of Tryz.func161 (by kernel_rfl) rfl
 have HK := Lib.hid (ContainsFuncEvent_any 161 #[] (fun d => !noteB d) A n c fs w h hn eg (fun d hd c0 c1 c2 c3 c4 W hW hr => notesOk1_any c0 c1 c2 c3 c4 d W (tab_later htab hW) hr (hok.2 d hd)))
 have HR : Hid (notesB fs = (decide (n ≤ 60) && !(fs.any fun d => !noteB d))) := by unfold Hid notesB; rw [any_not_all, h.1]
 clear h hok eg htab
 generalize notesB fs = R at *
 generalize (fs.any fun d => !noteB d) = x at *
 go_enter Tryz.func93, Tryz.ntmps93
 by_cases h4 : n ≤ 60
 · have hd : decide (n ≤ 60) = true := decide_eq_true h4
   rw [hd, Bool.true_and] at HR
   go_wp2_with fail
   refine HK.out.mono ?_
   rintro e w1 ⟨rfl, hb1⟩
   have HB := Lib.hid hb1
   clear hb1
   go_wp2_with fail
   go_ret
   exact ⟨ret_bool HR.out.symm, HB.out⟩
 · have hd : decide (n ≤ 60) = false := decide_eq_false h4
   rw [hd, Bool.false_and] at HR
   go_wp2_with fail
   go_ret
   exact ⟨ret_bool HR.out.symm, Below.refl _ _⟩
set_option maxHeartbeats 1000000 in
theorem l25Notes_any (A : Option Addr) (n c : Nat) (fs : List EvD) (w : World) (h : Evs w w.heap.size A n fs) (hok : okEs fs) :
 Calls Tryz.prog 92 #[.slice A n c] w fun e w' => e = .returned (.bool (notesB fs)) ∧ Below w.heap.size w w' := by
 have hn : n ≤ 1048576 := by rw [← h.1]; exact hok.1
 have HR : Hid (notesB fs = (decide (n ≤ 60) && fs.all noteB)) := by unfold Hid notesB; rw [h.1]
 have Hh := Lib.hid h
 have Hlen := Lib.hid h.1
 have Hok := Lib.hid hok.2
 clear h hok
 generalize notesB fs = R at *
 by_cases h4 : n ≤ 60
 · have hd : decide (60 < n) = false := decide_eq_false (by omega)
   rw [decide_eq_true h4, Bool.true_and] at HR
   have h4I : ¬ (60 : Int) < (n : Int) := by omega
   have HD := Lib.hid h4
   go_enter Tryz.func92, Tryz.ntmps92
   go_wp2_with fail
   go_loopw [3] (fun i wr => ∃ k : Nat, k ≤ n ∧ i = .int .i64 k ∧ Below w.heap.size w wr ∧ Hid (R = (fs.drop k).all noteB)) (fun i _ => n - (intOf i).toNat)
   case atStart => exact ⟨0, Nat.zero_le _, rfl, Below.refl _ _, HR⟩
   case round =>
    obtain ⟨k, hk, rfl, hb, hS⟩ := hrel
    have HB := Lib.hid hb
    clear hb
    by_cases hlt : k < n
    · obtain ⟨b, o, rfl, hbB, hcell⟩ := (Hh.out.later HB.out).2 (by omega)
      obtain ⟨c0, c1, c2, c3, c4, k0, k1, k2, k3, k4, hr⟩ := hcell k hlt
      clear hcell
      have hl : k < fs.length := by rw [Hlen.out]; exact hlt
      have HS := Lib.hid (all_stepQ noteB fs k hl)
      have HK := Lib.hid (specNoteOk_any c0 c1 c2 c3 c4 (fs.getD k default) wr hr (Hok.out _ (getD_memQ fs k hl)).1 (Hok.out _ (getD_memQ fs k hl)).2)
      clear hl hr
      generalize fs.getD k default = s at *
      generalize hx : noteB s = x at *
      have HX := Lib.hid hx
      clear hx
      go_wp2_with fail
      refine HK.out.mono ?_
      rintro e w' ⟨rfl, hb1⟩
      have HB1 := Lib.hid (HB.out.later hb1)
      clear hb1
      cases x
      · go_wp2_with fail
        go_ret
        exact ⟨ret_bool (by rw [hS.out, HS.out]; rfl), HB1.out⟩
      · go_wp2_with fail
        go_roundw
        case rel => exact ⟨k + 1, by omega, by go_num, HB1.out, by unfold Hid; rw [hS.out, HS.out, Bool.true_and]⟩
        case measure => simp [intOf]; omega
    · have HE : Hid (R = true) := by unfold Hid; rw [hS.out, List.drop_of_length_le (by rw [Hlen.out]; omega)]; rfl
      go_wp2_with fail
      go_ret
      exact ⟨ret_bool HE.out.symm, HB.out⟩
 · have hd : decide (60 < n) = true := decide_eq_true (by omega)
   have h4I : (60 : Int) < (n : Int) := by omega
   rw [decide_eq_false h4, Bool.false_and] at HR
   go_enter Tryz.func92, Tryz.ntmps92
   go_wp2_with fail
   go_ret
   exact ⟨ret_bool HR.out.symm, Below.refl _ _⟩
end Go.Proofs.YtgmaamnofhmecaaGreatDoor
namespace Go.Proofs.YtgmaamnofhmecaaGreatDoor
open Go.RowKit
set_option linter.unusedVariables false
def QryPost (nm : ByteArray) (ss : List ByteArray) (fs : List NodeD) (w : World) (e : Ending) (w' : World) : Prop :=
 ∃ v, e = .returned (.tuple #[v, .bool (decide (0 ≤ qryI nm ss fs))]) ∧ Own.SubO w' w.heap.size v (if 0 ≤ qryI nm ss fs then (fs.getD (qryI nm ss fs).toNat default).subs else []) ∧ Below w.heap.size w w'
set_option maxRecDepth 100000 in
set_option maxHeartbeats 1000000 in
theorem implSubsBefore_any (A A' : Option Addr) (n c n' c' : Nat) (ss ts : List ByteArray) (w : World) (htab : tabT w) (h : Strs w w.heap.size A n ss) (h' : Strs w w.heap.size A' n' ts) (hn : n ≤ 1048576) (hn' : n' ≤ 1048576) (hz : ∀ s ∈ ss, s.size ≤ 1048576) (hz' : ∀ s ∈ ts, s.size ≤ 1048576) :
 Calls Tryz.prog 235 #[.slice A n c, .slice A' n' c'] w fun e w' => e = .returned (.bool (lessS ss ts)) ∧ Below w.heap.size w w' := by
 have HK := Lib.hid (collateLists_any A A' n c n' c' ss ts w htab h h' hn hn' hz hz')
 have hE := colL_lt ss ts
 clear h h' hz hz' htab
 generalize lessS ss ts = R at *
 generalize colL ss ts = z at *
 go_enter Tryz.func235, Tryz.ntmps235
 go_wp2_with fail
 refine HK.out.mono ?_
 rintro e w1 ⟨rfl, hb1⟩
 have HB := Lib.hid hb1
 clear hb1
 have HE := Lib.hid hE
 clear hE
 go_wp2_with fail
 go_ret
 exact ⟨ret_bool HE.out, HB.out⟩
set_option maxRecDepth 100000 in
set_option maxHeartbeats 8000000 in
theorem specQueryOf_true (A : Option Addr) (n c : Nat) (fs : List NodeD) (nm : ByteArray) (S : Option Addr) (m q : Nat) (ss : List ByteArray) (w : World) (h : Nodes w w.heap.size A n fs) (ht : treeB fs = true) (hS : Strs w w.heap.size S m ss) (hm : m ≤ 1048576) (hth : thingB nm ss = true) (hns : nm.size ≤ 1048576) (hz : ∀ s ∈ ss, s.size ≤ 1048576) :
 Calls Tryz.prog 177 #[.agg #[.slice A n c], .string nm, .slice S m q] w (QryPost nm ss fs w) := by
 have HK1 := Lib.hid (fun W (hW : Below w.heap.size w W) => specTreeOk_any A n c fs W (h.later hW) (tree_small ht))
 have HK2 := Lib.hid (fun W (hW : Below w.heap.size w W) => l03Place_any nm S m q ss W hns (hS.later hW) hm hz)
 have Hh := Lib.hid h
 have Hlen := Lib.hid h.1
 have hn : n ≤ 120 := by rw [← h.1]; exact (tree_iff.1 ht).1
 have Hs := Lib.hid (tree_small ht)
 have Hst := Lib.hid hS
 have Hz := Lib.hid hz
 rw [ht] at HK1
 rw [hth] at HK2
 have HI0 : Hid (qryI nm ss fs = idxF (qryP nm ss) (fs.drop 0) 0) := rfl
 have HQP : Hid (∀ d, qryP nm ss d = (decide (d.name = nm) && lessS ss d.subs)) := fun _ => rfl
 have HST := Lib.hid (fun k (hk : k < n) => idxF_step (qryP nm ss) fs k (by rw [h.1]; exact hk))
 have HEN : Hid (idxF (qryP nm ss) (fs.drop n) n = -1) := by unfold Hid; rw [List.drop_of_length_le (by rw [h.1]; exact Nat.le_refl _)]; rfl
 have HQ : Hid (∀ v e w', e = .returned (.tuple #[v, .bool (decide (0 ≤ qryI nm ss fs))]) → Own.SubO w' w.heap.size v (if 0 ≤ qryI nm ss fs then (fs.getD (qryI nm ss fs).toNat default).subs else []) → Below w.heap.size w w' → QryPost nm ss fs w e w') := fun v e w' h1 h2 h3 => ⟨v, h1, h2, h3⟩
 clear h ht hS hth hz
 generalize qryI nm ss fs = I at *
 generalize QryPost nm ss fs w = POST at *
 have HBX : Hid (Below w.heap.size w (w.alloc (.cells #[.slice A n c] 26))) := Below.new _ _
 go_enter Tryz.func177, Tryz.ntmps177
 go_wp2_with fail
 refine (HK1.out _ HBX.out).mono ?_
 rintro e w1 ⟨rfl, hb1⟩
 have hbx0 := (Blk.later (heap_alloc_new w (.cells #[.slice A n c] 26)) hb1 (by simp))
 have HBX1 := Lib.hid (hb1.mono (show w.heap.size + 1 ≤ (w.alloc (.cells #[.slice A n c] 26)).heap.size by simp))
 have HB1 := Lib.hid (HBX.out.later hb1)
 have HX1 := Lib.hid hbx0
 have p0 := hbx0.cell 0
 simp at p0
 clear hb1 hbx0
 go_wp2_with fail
 refine (HK2.out _ HB1.out).mono ?_
 rintro e w2 ⟨rfl, rfl⟩
 have hz1 := HX1.out.lt
 clear p0
 have p0 := HX1.out.cell 0
 simp at p0
 go_wp2_with fail
 go_loopw [8] (fun i wr => ∃ (k : Nat), k ≤ n ∧ i = .int .i64 k ∧ Below (w.heap.size + 1) w1 wr ∧ Hid (I = idxF (qryP nm ss) (fs.drop k) k)) (fun i _ => n - (intOf i).toNat)
 case atStart => exact ⟨0, Nat.zero_le _, rfl, Below.refl _ _, HI0.out⟩
 case round =>
  obtain ⟨k, hk, rfl, hb, HI⟩ := hrel
  have p0 := (HX1.out.later hb (by omega)).cell 0
  have hzz : w.heap.size < wr.heap.size := Nat.lt_of_lt_of_le hz1 hb.size
  have HB := Lib.hid hb
  have HBw := Lib.hid (HB1.out.trans (hb.mono (by omega)))
  simp at p0
  clear hb
  by_cases hlt : k < n
  · have hki : (k : Int) < (n : Int) := by omega
    obtain ⟨bb, o, rfl, hbB, hc⟩ := (Hh.out.later HBw.out).2 (by omega)
    obtain ⟨c0, c1, c2, k0, k1, k2, hr⟩ := hc k hlt
    have HSK := Lib.hid (HST.out k hlt)
    have hsm := Hs.out.2 _ (getD_memD fs k (by rw [Hlen.out]; exact hlt))
    rw [HQP.out] at HSK
    have HGD : Hid (fs.getD k default = fs.getD k default) := rfl
    generalize hdd : fs.getD k default = d at *
    have HDD := Lib.hid hdd
    clear hc HGD hdd
    obtain ⟨rfl, ⟨A1, n1, p1, rfl, s1, _⟩, rfl⟩ := hr
    have hn1 : n1 ≤ 1048576 := by rw [← s1.1]; exact hsm.2.1.1
    have HKB := Lib.hid (fun W (hW : Below wr.heap.size wr W) => specSubsBefore_any S A1 m q n1 p1 ss d.subs W (Hst.out.later (HBw.out.later hW)) (s1.later hW) hm hn1 Hz.out hsm.2.1.2)
    have HKC := Lib.hid (fun W (hW : Below wr.heap.size wr W) => l03Subs_any A1 n1 p1 d.subs W (s1.later hW) hn1)
    have HRES : Hid (I = (k : Int) → (if 0 ≤ I then (fs.getD I.toNat default).subs else []) = d.subs) := fun e => by
     rw [e, if_pos (by omega), Int.toNat_natCast, HDD.out]
    clear s1 hsm
    generalize hdn : d.name = dn at *
    generalize d.val = vl at *
    by_cases hnm : dn = nm
    · obtain rfl := hnm.symm
      rw [decide_eq_true rfl, Bool.true_and] at HSK
      generalize lessS ss d.subs = y at *
      clear hdn
      go_wp2_with fail
      refine (HKB.out _ (Below.refl _ _)).mono ?_
      rintro e w3 ⟨rfl, hb1'⟩
      have hb1 : Below wr.heap.size wr w3 := (Below.refl _ _).later hb1'
      have p2 := cell_later hb1 p0
      have l1 := cell_later hb1 k1
      have HB3 := Lib.hid hb1
      clear hb1 hb1'
      cases y
      · have HI2 : Hid (I = idxF (qryP nm ss) (fs.drop (k + 1)) (k + 1)) := by unfold Hid; rw [HI.out, HSK.out, if_neg Bool.false_ne_true]
        go_wp2_with fail
        go_roundw
        case rel => exact ⟨k + 1, by omega, by go_num, HB.out.trans (HB3.out.mono (by omega)), HI2.out⟩
        case measure => simp [intOf]; omega
      · have HE : Hid (I = (k : Int)) := by unfold Hid; rw [HI.out, HSK.out, if_pos rfl]
        go_wp2_with fail
        refine (HKC.out _ HB3.out).mono ?_
        rintro e w4 ⟨A2, c2, rfl, _, ho2, hb2⟩
        have HB4 := Lib.hid ((HBw.out.later HB3.out).later hb2)
        have HO4 := Lib.hid (Own.own_base ho2 ((HBw.out.later HB3.out).size))
        clear hb2 ho2
        go_wp2_with fail
        refine HQ.out (.slice A2 n1 c2) _ _ ?_ ?_ HB4.out
        · rw [HE.out, decide_eq_true (by omega)]
          rfl
        · rw [HRES.out HE.out]
          exact HO4.out
    · rw [decide_eq_false hnm, Bool.false_and] at HSK
      have hne1 := str_beq hnm
      have hne2 := str_bne hnm
      clear hnm hdn
      have HI2 : Hid (I = idxF (qryP nm ss) (fs.drop (k + 1)) (k + 1)) := by unfold Hid; rw [HI.out, HSK.out, if_neg Bool.false_ne_true]
      go_wp2_with fail
      go_roundw
      case rel => exact ⟨k + 1, by omega, by go_num, HB.out, HI2.out⟩
      case measure => simp [intOf]; omega
  · obtain rfl : k = n := by omega
    have HE : Hid (I = -1) := by unfold Hid; rw [HI.out, HEN.out]
    go_wp2_with fail
    refine HQ.out (.slice none 0 0) _ _ ?_ ?_ HBw.out
    · rw [HE.out]
      rfl
    · rw [HE.out]
      exact Own.sub_nil _ _
set_option maxRecDepth 100000 in
set_option maxHeartbeats 8000000 in
theorem QueryOf_true (A : Option Addr) (n c : Nat) (fs : List NodeD) (nm : ByteArray) (S : Option Addr) (m q : Nat) (ss : List ByteArray) (w : World) (htab : tabT w) (h : Nodes w w.heap.size A n fs) (ht : treeB fs = true) (hS : Strs w w.heap.size S m ss) (hm : m ≤ 1048576) (hth : thingB nm ss = true) (hns : nm.size ≤ 1048576) (hz : ∀ s ∈ ss, s.size ≤ 1048576) :
 Calls Tryz.prog 184 #[.agg #[.slice A n c], .string nm, .slice S m q] w (QryPost nm ss fs w) := by
 have HK1 := Lib.hid (fun W (hW : Below w.heap.size w W) => TreeOk_any A n c fs W (h.later hW) (tab_later htab hW) (tree_small ht))
 have HK2 := Lib.hid (fun W (hW : Below w.heap.size w W) => locationOk_any nm S m q ss W hns (hS.later hW) hm hz)
 have Hh := Lib.hid h
 have Hlen := Lib.hid h.1
 have hn : n ≤ 120 := by rw [← h.1]; exact (tree_iff.1 ht).1
 have Hs := Lib.hid (tree_small ht)
 have Hst := Lib.hid hS
 have Hz := Lib.hid hz
 have HT := Lib.hid htab
 rw [ht] at HK1
 rw [hth] at HK2
 have HI0 : Hid (qryI nm ss fs = idxF (qryP nm ss) (fs.drop 0) 0) := rfl
 have HQP : Hid (∀ d, qryP nm ss d = (decide (d.name = nm) && lessS ss d.subs)) := fun _ => rfl
 have HST := Lib.hid (fun k (hk : k < n) => idxF_step (qryP nm ss) fs k (by rw [h.1]; exact hk))
 have HEN : Hid (idxF (qryP nm ss) (fs.drop n) n = -1) := by unfold Hid; rw [List.drop_of_length_le (by rw [h.1]; exact Nat.le_refl _)]; rfl
 have HQ : Hid (∀ v e w', e = .returned (.tuple #[v, .bool (decide (0 ≤ qryI nm ss fs))]) → Own.SubO w' w.heap.size v (if 0 ≤ qryI nm ss fs then (fs.getD (qryI nm ss fs).toNat default).subs else []) → Below w.heap.size w w' → QryPost nm ss fs w e w') := fun v e w' h1 h2 h3 => ⟨v, h1, h2, h3⟩
 clear h ht hS hth hz htab
 generalize qryI nm ss fs = I at *
 generalize QryPost nm ss fs w = POST at *
 have HBX : Hid (Below w.heap.size w (w.alloc (.cells #[.slice A n c] 26))) := Below.new _ _
 go_enter Tryz.func184, Tryz.ntmps184
 go_wp2_with fail
 refine (HK1.out _ HBX.out).mono ?_
 rintro e w1 ⟨rfl, hb1⟩
 have hbx0 := (Blk.later (heap_alloc_new w (.cells #[.slice A n c] 26)) hb1 (by simp))
 have HBX1 := Lib.hid (hb1.mono (show w.heap.size + 1 ≤ (w.alloc (.cells #[.slice A n c] 26)).heap.size by simp))
 have HB1 := Lib.hid (HBX.out.later hb1)
 have HX1 := Lib.hid hbx0
 have p0 := hbx0.cell 0
 simp at p0
 clear hb1 hbx0
 go_wp2_with fail
 refine (HK2.out _ HB1.out).mono ?_
 rintro e w2 ⟨rfl, rfl⟩
 have hz1 := HX1.out.lt
 clear p0
 have p0 := HX1.out.cell 0
 simp at p0
 go_wp2_with fail
 go_loopw [22] (fun i wr => ∃ (k : Nat), k ≤ n ∧ i = .int .i64 k ∧ Below (w.heap.size + 1) w1 wr ∧ Hid (I = idxF (qryP nm ss) (fs.drop k) k)) (fun i _ => n - (intOf i).toNat)
 case atStart => exact ⟨0, Nat.zero_le _, rfl, Below.refl _ _, HI0.out⟩
 case round =>
  obtain ⟨k, hk, rfl, hb, HI⟩ := hrel
  have p0 := (HX1.out.later hb (by omega)).cell 0
  have hzz : w.heap.size < wr.heap.size := Nat.lt_of_lt_of_le hz1 hb.size
  have HB := Lib.hid hb
  have HBw := Lib.hid (HB1.out.trans (hb.mono (by omega)))
  simp at p0
  clear hb
  by_cases hlt : k < n
  · have hki : (k : Int) < (n : Int) := by omega
    obtain ⟨bb, o, rfl, hbB, hc⟩ := (Hh.out.later HBw.out).2 (by omega)
    obtain ⟨c0, c1, c2, k0, k1, k2, hr⟩ := hc k hlt
    have HSK := Lib.hid (HST.out k hlt)
    have hsm := Hs.out.2 _ (getD_memD fs k (by rw [Hlen.out]; exact hlt))
    rw [HQP.out] at HSK
    have HGD : Hid (fs.getD k default = fs.getD k default) := rfl
    generalize hdd : fs.getD k default = d at *
    have HDD := Lib.hid hdd
    clear hc HGD hdd
    obtain ⟨rfl, ⟨A1, n1, p1, rfl, s1, _⟩, rfl⟩ := hr
    have hn1 : n1 ≤ 1048576 := by rw [← s1.1]; exact hsm.2.1.1
    have HKB := Lib.hid (fun W (hW : Below wr.heap.size wr W) => implSubsBefore_any S A1 m q n1 p1 ss d.subs W (tab_later HT.out (HBw.out.later hW)) (Hst.out.later (HBw.out.later hW)) (s1.later hW) hm hn1 Hz.out hsm.2.1.2)
    have HKC := Lib.hid (fun W (hW : Below wr.heap.size wr W) => CloneS_any A1 n1 p1 d.subs W (s1.later hW) hn1)
    have HRES : Hid (I = (k : Int) → (if 0 ≤ I then (fs.getD I.toNat default).subs else []) = d.subs) := fun e => by
     rw [e, if_pos (by omega), Int.toNat_natCast, HDD.out]
    clear s1 hsm
    generalize hdn : d.name = dn at *
    generalize d.val = vl at *
    have r0 := (show Blk _ _ _ _ from heap_alloc_new wr (.cells #[.string dn, .slice A1 n1 p1, .string vl] 102)).cell
    have q0 : (wr.alloc (.cells #[.string dn, .slice A1 n1 p1, .string vl] 102)).cell? ⟨wr.heap.size, 0, none⟩ = some (.string dn) := r0 0
    have q1 : (wr.alloc (.cells #[.string dn, .slice A1 n1 p1, .string vl] 102)).cell? ⟨wr.heap.size, 1, none⟩ = some (.slice A1 n1 p1) := r0 1
    have HWn := Lib.hid (Below.new wr (.cells #[.string dn, .slice A1 n1 p1, .string vl] 102))
    clear r0
    by_cases hnm : dn = nm
    · obtain rfl := hnm.symm
      rw [decide_eq_true rfl, Bool.true_and] at HSK
      generalize lessS ss d.subs = y at *
      clear hdn
      go_wp2_with fail
      refine (HKB.out _ HWn.out).mono ?_
      rintro e w3 ⟨rfl, hb1'⟩
      have hb1 : Below wr.heap.size wr w3 := HWn.out.later hb1'
      have l1 := cell_later hb1' q1
      have HB3 := Lib.hid hb1
      clear hb1 hb1'
      cases y
      · have HI2 : Hid (I = idxF (qryP nm ss) (fs.drop (k + 1)) (k + 1)) := by unfold Hid; rw [HI.out, HSK.out, if_neg Bool.false_ne_true]
        go_wp2_with fail
        go_roundw
        case rel => exact ⟨k + 1, by omega, by go_num, HB.out.trans (HB3.out.mono (by omega)), HI2.out⟩
        case measure => simp [intOf]; omega
      · have HE : Hid (I = (k : Int)) := by unfold Hid; rw [HI.out, HSK.out, if_pos rfl]
        go_wp2_with fail
        refine (HKC.out _ HB3.out).mono ?_
        rintro e w4 ⟨v2, rfl, ho2, hb2⟩
        have HB4 := Lib.hid ((HBw.out.later HB3.out).later hb2)
        have HO4 := Lib.hid (Own.own_base ho2 ((HBw.out.later HB3.out).size))
        clear hb2 ho2
        go_wp2_with fail
        refine HQ.out v2 _ _ ?_ ?_ HB4.out
        · rw [HE.out, decide_eq_true (by omega)]
          rfl
        · rw [HRES.out HE.out]
          exact HO4.out
    · rw [decide_eq_false hnm, Bool.false_and] at HSK
      have hne1 := str_beq hnm
      have hne2 := str_bne hnm
      clear hnm hdn
      have HI2 : Hid (I = idxF (qryP nm ss) (fs.drop (k + 1)) (k + 1)) := by unfold Hid; rw [HI.out, HSK.out, if_neg Bool.false_ne_true]
      go_wp2_with fail
      go_roundw
      case rel => exact ⟨k + 1, by omega, by go_num, (HB.out.trans (HWn.out.mono (by omega))), HI2.out⟩
      case measure => simp [intOf]; omega
  · obtain rfl : k = n := by omega
    have HE : Hid (I = -1) := by unfold Hid; rw [HI.out, HEN.out]
    go_wp2_with fail
    refine HQ.out (.slice none 0 0) _ _ ?_ ?_ HBw.out
    · rw [HE.out]
      rfl
    · rw [HE.out]
      exact Own.sub_nil _ _
end Go.Proofs.YtgmaamnofhmecaaGreatDoor
namespace Go.Proofs.YtgmaamnofhmecaaGreatDoor
open Go.RowKit
set_option linter.unusedVariables false
theorem data_snoc (nm : ByteArray) (ss : List ByteArray) (fs : List NodeD) (k : Nat) (hk : k < fs.length) : dataF nm ss (fs.take (k + 1)) = dataN nm ss (fs.getD k default) (dataF nm ss (fs.take k)) := by
 unfold dataF
 rw [List.take_add_one, List.getElem?_eq_getElem hk, List.foldl_append, List.getD_eq_getElem?_getD, List.getElem?_eq_getElem hk]
 rfl
set_option maxRecDepth 100000 in
set_option maxHeartbeats 4000000 in
theorem l03Data_any (A : Option Addr) (n c : Nat) (fs : List NodeD) (nm : ByteArray) (S : Option Addr) (m q : Nat) (ss : List ByteArray) (w : World) (h : Nodes w w.heap.size A n fs) (hs : smallNs fs) (h' : Strs w w.heap.size S m ss) (hm : m ≤ 1048576) :
 Calls Tryz.prog 113 #[.agg #[.slice A n c], .string nm, .slice S m q] w fun e w' => e = .returned (.int .i64 (dataF nm ss fs)) ∧ Below w.heap.size w w' := by
 have Hh := Lib.hid h
 have Hlen := Lib.hid h.1
 have hn : n ≤ 1048576 := by rw [← h.1]; exact hs.1
 have hl0 : fs.length = n := h.1
 have Hst := Lib.hid h'
 have Hsl : Hid (ss.length = m) := h'.1
 have HALL : Hid (dataF nm ss (fs.take n) = dataF nm ss fs) := by unfold Hid; rw [List.take_of_length_le (by omega)]
 have HSN : Hid (∀ k, k < n → dataF nm ss (fs.take (k + 1)) = dataN nm ss (fs.getD k default) (dataF nm ss (fs.take k))) := fun k hk => data_snoc nm ss fs k (by omega)
 clear h hs h' hl0
 generalize dataF nm ss fs = OUT at *
 generalize hD : (fun k => dataF nm ss (fs.take k)) = D at *
 have HD : Hid (∀ k, dataF nm ss (fs.take k) = D k) := by subst hD; exact fun _ => rfl
 have HD0 : Hid (D 0 = 0) := by subst hD; rfl
 clear hD
 have HS2 : Hid (∀ k, k < n → D (k + 1) = dataN nm ss (fs.getD k default) (D k)) := fun k hk => by rw [← HD.out, ← HD.out]; exact HSN.out k hk
 have HA2 : Hid (D n = OUT) := by unfold Hid; rw [← HD.out]; exact HALL.out
 clear HSN HALL HD
 go_enter Tryz.func113, Tryz.ntmps113
 go_wp2_with fail
 go_loopw [7, 8] (fun o i wr => ∃ (k : Nat) (z : Int), k ≤ n ∧ o = .int .i64 z ∧ i = .int .i64 k ∧ Hid (z = D k) ∧ 0 ≤ z ∧ z ≤ 20 + k ∧ Below (w.heap.size + 1) (w.alloc (.cells #[.slice A n c] 26)) wr) (fun _ i _ => n - (intOf i).toNat)
 case atStart => exact ⟨0, 0, Nat.zero_le _, rfl, rfl, HD0.out.symm, by omega, by omega, Below.refl _ _⟩
 case round =>
  obtain ⟨k, z, hk, rfl, rfl, HZ, hz0, hz1, hb⟩ := hrel
  have p0 := (Blk.later (heap_alloc_new w _) hb (by omega)).cell 0
  have hzz : w.heap.size < wr.heap.size := by have := hb.size; simp at this; omega
  have HB := Lib.hid hb
  have HBw := Lib.hid ((Below.new _ _).trans (hb.mono (by omega)))
  simp at p0
  clear hb
  by_cases hlt : k < n
  · have hki : (k : Int) < (n : Int) := by omega
    obtain ⟨bb, o, rfl, hbB, hc⟩ := (Hh.out.later HBw.out).2 (by omega)
    obtain ⟨c0, c1, c2, k0, k1, k2, hr⟩ := hc k hlt
    have HSK := Lib.hid (HS2.out k hlt)
    clear hc
    generalize fs.getD k default = d at *
    have HKI := Lib.hid (fun W (hW : Below wr.heap.size wr W) => l03In_any c0 c1 c2 S m q d nm ss W (hr.later hW) (Hst.out.later (HBw.out.later hW)) hm)
    obtain ⟨e0, ⟨A1, n1, cap1, e1, hs1, hcap1⟩, e2⟩ := hr
    have HDN : Hid (dataN nm ss d z = if inN nm ss d = true then (if n1 = m then z + 1 else if z < 10 then z + 10 else z) else z) := by
     unfold Hid dataN
     rw [hs1.1, Hsl.out]
    have HN : Hid (D (k + 1) = dataN nm ss d z) := by unfold Hid; rw [HSK.out, ← HZ.out]
    subst e0 e1 e2
    clear hs1 HSK
    generalize inN nm ss d = y at *
    generalize dataN nm ss d z = zn at *
    go_wp2_with fail
    refine (HKI.out _ (by first | exact Below.refl _ _ | exact (Below.refl _ _).drew | exact below_drewN (Below.refl _ _) _)).mono ?_
    rintro e w1 ⟨rfl, hb1'⟩
    have hb1 : Below wr.heap.size wr w1 := by first | exact hb1' | exact undrew hb1' | exact undrewN hb1'
    have HB1 := Lib.hid (HB.out.trans (hb1.mono (by omega)))
    have p1 := cell_later hb1 p0
    have l0 := cell_later hb1 k0
    have l1 := cell_later hb1 k1
    have l2 := cell_later hb1 k2
    clear hb1 hb1' p0 k0 k1 k2 HKI
    cases y
    · have HE : Hid (z = D (k + 1)) := by unfold Hid; rw [HN.out, HDN.out, if_neg (by decide)]
      go_wp2_with fail
      go_roundw
      case rel => exact ⟨k + 1, z, by omega, rfl, by go_num, HE.out, hz0, by omega, HB1.out⟩
      case measure => simp [intOf]; omega
    · by_cases hnm : n1 = m
      · have HE : Hid (z + 1 = D (k + 1)) := by unfold Hid; rw [HN.out, HDN.out, if_pos rfl, if_pos hnm]
        subst hnm
        have hwz : IntKind.i64.wrap (z + 1) = z + 1 := by rw [IntKind.wrap_i64]; omega
        go_wp2_with fail
        go_roundw
        case rel => exact ⟨k + 1, z + 1, by omega, by go_num, by go_num, HE.out, by omega, by omega, HB1.out⟩
        case measure => simp [intOf]; omega
      · have hnb : ((n1 : Int) == (m : Int)) = false := by rw [beq_eq_false_iff_ne]; omega
        have hnb2 : (n1 == m) = false := by rw [beq_eq_false_iff_ne]; exact hnm
        by_cases hz10 : z < 10
        · have HE : Hid (z + 10 = D (k + 1)) := by unfold Hid; rw [HN.out, HDN.out, if_pos rfl, if_neg hnm, if_pos hz10]
          have hwz : IntKind.i64.wrap (z + 10) = z + 10 := by rw [IntKind.wrap_i64]; omega
          go_wp2_with fail
          go_roundw
          case rel => exact ⟨k + 1, z + 10, by omega, by go_num, by go_num, HE.out, by omega, by omega, HB1.out⟩
          case measure => simp [intOf]; omega
        · have HE : Hid (z = D (k + 1)) := by unfold Hid; rw [HN.out, HDN.out, if_pos rfl, if_neg hnm, if_neg hz10]
          go_wp2_with fail
          go_roundw
          case rel => exact ⟨k + 1, z, by omega, rfl, by go_num, HE.out, hz0, by omega, HB1.out⟩
          case measure => simp [intOf]; omega
  · obtain rfl : k = n := by omega
    have HE : Hid (z = OUT) := by unfold Hid; rw [HZ.out, HA2.out]
    go_wp2_with fail
    go_ret
    exact ⟨by first | rfl | (rw [HE.out]; rfl), HBw.out⟩
set_option maxRecDepth 100000 in
set_option maxHeartbeats 4000000 in
theorem DataOf_any (A : Option Addr) (n c : Nat) (fs : List NodeD) (nm : ByteArray) (S : Option Addr) (m q : Nat) (ss : List ByteArray) (w : World) (h : Nodes w w.heap.size A n fs) (hs : smallNs fs) (h' : Strs w w.heap.size S m ss) (hm : m ≤ 1048576) (hnm : nm.size ≤ 1048576) (hz : ∀ s ∈ ss, s.size ≤ 1048576) :
 Calls Tryz.prog 42 #[.agg #[.slice A n c], .string nm, .slice S m q] w fun e w' => e = .returned (.int .i64 (dataB fs nm ss)) ∧ Below w.heap.size w w' := by
 have HK1 := Lib.hid (fun W (hW : Below w.heap.size w W) => specTreeOk_any A n c fs W (h.later hW) hs)
 have HK2 := Lib.hid (fun W (hW : Below w.heap.size w W) => l03Place_any nm S m q ss W hnm (h'.later hW) hm hz)
 have HK3 := Lib.hid (fun W (hW : Below w.heap.size w W) => l03Data_any A n c fs nm S m q ss W (h.later hW) hs (h'.later hW) hm)
 have HR : Hid (dataB fs nm ss = if (treeB fs && thingB nm ss) = true then dataF nm ss fs else 0) := rfl
 clear h h' hs hz
 generalize dataB fs nm ss = R at *
 generalize treeB fs = x at *
 generalize thingB nm ss = y at *
 generalize dataF nm ss fs = z at *
 have HBX : Hid (Below w.heap.size w (w.alloc (.cells #[.slice A n c] 26))) := Below.new _ _
 go_enter Tryz.func42, Tryz.ntmps42
 go_wp2_with fail
 refine (HK1.out _ (by exact HBX.out)).mono ?_
 rintro e w1 ⟨rfl, hb1⟩
 have HB1 := Lib.hid (HBX.out.later hb1)
 have p0 := (Blk.later (heap_alloc_new w (.cells #[.slice A n c] 26)) hb1 (by simp)).cell 0
 simp at p0
 clear hb1
 cases x
 · go_wp2_with fail
   go_ret
   exact ⟨by rw [HR.out]; rfl, HB1.out⟩
 · go_wp2_with fail
   refine (HK2.out _ HB1.out).mono ?_
   rintro e w2 ⟨rfl, rfl⟩
   cases y
   · go_wp2_with fail
     go_ret
     exact ⟨by rw [HR.out]; rfl, HB1.out⟩
   · go_wp2_with fail
     refine (HK3.out _ HB1.out).mono ?_
     rintro e w3 ⟨rfl, hb3⟩
     go_wp2_with fail
     go_ret
     exact ⟨by rw [HR.out]; rfl, HB1.out.later hb3⟩
end Go.Proofs.YtgmaamnofhmecaaGreatDoor
