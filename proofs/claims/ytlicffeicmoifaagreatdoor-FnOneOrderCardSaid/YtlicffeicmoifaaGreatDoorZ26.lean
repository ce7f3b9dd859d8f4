import Derived.Test.YtlicffeicmoifaaGreatDoorZ25
import Derived.Test.YtlicffeicmoifaaGreatDoorZ21
import Derived.Test.YtlicffeicmoifaaGreatDoorZ22
import Derived.Test.YtlicffeicmoifaaGreatDoorZ11
import Derived.Deep.AppendLies
import Derived.Deep.RegionHeld3
import Derived.Deep.RegionLaw
set_option linter.unusedSimpArgs false
namespace Go.Proofs.YtlicffeicmoifaaGreatDoor
open Go.RowKit
set_option linter.unusedVariables false
def okE (d : EvD) : Prop := d.small ∧ okV d.val
def okEs (l : List EvD) : Prop := l.length ≤ 1048576 ∧ ∀ d ∈ l, okE d
theorem getD_memQ {α : Type} [Inhabited α] (fs : List α) (k : Nat) (h : k < fs.length) : fs.getD k default ∈ fs := by
 rw [List.getD_eq_getElem?_getD, List.getElem?_eq_getElem h]; exact List.getElem_mem h
theorem all_stepQ {α : Type} [Inhabited α] (p : α → Bool) (fs : List α) (k : Nat) (h : k < fs.length) : (fs.drop k).all p = (p (fs.getD k default) && (fs.drop (k + 1)).all p) := by
 rw [List.drop_eq_getElem_cons h, List.getD_eq_getElem?_getD, List.getElem?_eq_getElem h]
 rfl
def PredEvent (g : Nat) (lb : Array Value) (p : EvD → Bool) (fs : List EvD) (w : World) : Prop :=
 ∀ d ∈ fs, ∀ c0 c1 c2 c3 c4 W, Below w.heap.size w W → EvR W W.heap.size c0 c1 c2 c3 c4 d → Calls Tryz.prog g (#[.agg #[c0, c1, c2, c3, c4]] ++ lb) W fun e w' => e = .returned (.bool (p d)) ∧ Below W.heap.size W w'
set_option maxHeartbeats 1000000 in
theorem IndexFuncEvent_any (g : Nat) (lb : Array Value) (p : EvD → Bool) (A : Option Addr) (n c : Nat) (fs : List EvD) (w : World) (h : Evs w w.heap.size A n fs) (hn : n ≤ 1048576)
 (eg : ∀ args w, (callFunc g args).run Tryz.prog w = .ok (.enter g args) w) (hg : PredEvent g lb p fs w) :
 Calls Tryz.prog 244 #[.slice A n c, .func (.func g) #[] lb] w fun e w' => e = .returned (.int .i64 (idxF p fs 0)) ∧ Below w.heap.size w w' := by
 have Hh := Lib.hid h
 have Hlen := Lib.hid h.1
 have Hg := Lib.hid hg
 clear h hg
 go_enter Tryz.func244, Tryz.ntmps244
 go_wp2_with fail
 go_loopw [8] (fun i wr => ∃ k : Nat, k ≤ n ∧ i = .int .i64 k ∧ Below w.heap.size w wr ∧ Hid (idxF p fs 0 = idxF p (fs.drop k) k)) (fun i _ => n - (intOf i).toNat)
 case atStart => exact ⟨0, Nat.zero_le _, rfl, Below.refl _ _, rfl⟩
 case round =>
  obtain ⟨k, hk, rfl, hb, hS⟩ := hrel
  have HB := Lib.hid hb
  clear hb
  by_cases hlt : k < n
  · obtain ⟨b, o, rfl, hbB, hcell⟩ := (Hh.out.later HB.out).2 (by omega)
    obtain ⟨c0, c1, c2, c3, c4, k0, k1, k2, k3, k4, hr⟩ := hcell k hlt
    clear hcell
    have hl : k < fs.length := by rw [Hlen.out]; exact hlt
    have HS := Lib.hid (idxF_step p fs k hl)
    have HK := Lib.hid (Hg.out (fs.getD k default) (getD_memQ fs k hl) c0 c1 c2 c3 c4 wr HB.out hr)
    clear hl hr
    generalize fs.getD k default = s at *
    generalize hx : p s = x at *
    have HX := Lib.hid hx
    clear hx
    go_wp2_with fail
    refine HK.out.mono ?_
    rintro e w' ⟨rfl, hb1⟩
    have HB1 := Lib.hid (HB.out.later hb1)
    clear hb1
    cases x
    · go_wp2_with fail
      go_roundw
      case rel => exact ⟨k + 1, by omega, by go_num, HB1.out, by unfold Hid; rw [hS.out, HS.out]; rfl⟩
      case measure => simp [intOf]; omega
    · go_wp2_with fail
      go_ret
      exact ⟨ret_int (by rw [hS.out, HS.out]; rfl), HB1.out⟩
  · have HE : Hid (idxF p fs 0 = -1) := by unfold Hid; rw [hS.out, List.drop_of_length_le (by rw [Hlen.out]; omega)]; rfl
    go_wp2_with fail
    go_ret
    exact ⟨ret_int HE.out.symm, HB.out⟩
set_option maxHeartbeats 400000 in
theorem ContainsFuncEvent_any (g : Nat) (lb : Array Value) (p : EvD → Bool) (A : Option Addr) (n c : Nat) (fs : List EvD) (w : World) (h : Evs w w.heap.size A n fs) (hn : n ≤ 1048576)
 (eg : ∀ args w, (callFunc g args).run Tryz.prog w = .ok (.enter g args) w) (hg : PredEvent g lb p fs w) :
 Calls Tryz.prog 178 #[.slice A n c, .func (.func g) #[] lb] w fun e w' => e = .returned (.bool (fs.any p)) ∧ Below w.heap.size w w' := by
 have HK := Lib.hid (IndexFuncEvent_any g lb p A n c fs w h hn eg hg)
 have hE := idxF_any p fs 0
 clear h hg eg
 generalize fs.any p = R at *
 generalize idxF p fs 0 = x at *
 have HE := Lib.hid hE
 clear hE
 go_enter Tryz.func178, Tryz.ntmps178
 go_wp2_with fail
 refine HK.out.mono ?_
 rintro e w' ⟨rfl, hb1⟩
 have HB1 := Lib.hid hb1
 clear hb1
 go_wp2_with fail
 go_ret
 exact ⟨ret_bool HE.out, HB1.out⟩
set_option maxHeartbeats 1000000 in
theorem notesOk1_any (c0 c1 c2 c3 c4 : Value) (d : EvD) (w : World) (htab : tabT w) (h : EvR w w.heap.size c0 c1 c2 c3 c4 d) (hok : okE d) :
 Calls Tryz.prog 179 #[.agg #[c0, c1, c2, c3, c4]] w fun e w' => e = .returned (.bool (!noteB d)) ∧ Below w.heap.size w w' := by
 have HK := Lib.hid (fun W (hW : Below w.heap.size w W) => NoteOk_any c0 c1 c2 c3 c4 d W (tab_later htab hW) (h.later hW) hok.1 hok.2)
 have HB0 : Hid (Below w.heap.size w (w.alloc (.cells #[c0, c1, c2, c3, c4] 37))) := Below.new _ _
 clear h hok htab
 generalize noteB d = x at *
 go_enter Tryz.func179, Tryz.ntmps179
 go_wp2_with fail
 refine (HK.out _ HB0.out).mono ?_
 rintro e w1 ⟨rfl, hb1⟩
 have HB := Lib.hid (HB0.out.later hb1)
 clear hb1
 go_wp2_with fail
 go_ret
 exact ⟨rfl, HB.out⟩
set_option maxHeartbeats 1000000 in
theorem notesOk_any (A : Option Addr) (n c : Nat) (fs : List EvD) (w : World) (htab : tabT w) (h : Evs w w.heap.size A n fs) (hok : okEs fs) :
 Calls Tryz.prog 93 #[.slice A n c] w fun e w' => e = .returned (.bool (notesB fs)) ∧ Below w.heap.size w w' := by
 have hn : n ≤ 1048576 := by rw [← h.1]; exact hok.1
 have eg : ∀ args w, (callFunc 179 args).run Tryz.prog w = .ok (.enter 179 args) w := enters_of Tryz.func179 (by kernel_rfl) rfl
 have HK := Lib.hid (ContainsFuncEvent_any 179 #[] (fun d => !noteB d) A n c fs w h hn eg (fun d hd c0 c1 c2 c3 c4 W hW hr => notesOk1_any c0 c1 c2 c3 c4 d W (tab_later htab hW) hr (hok.2 d hd)))
 have HR : Hid (notesB fs = (decide (n ≤ 60) && !(fs.any fun d => !noteB d))) := by unfold Hid notesB; rw [any_not_all, h.1]
 clear h hok eg htab
 generalize notesB fs = R at *
 generalize (fs.any fun d => !noteB d) = x at *
 go_enter Tryz.func93, Tryz.ntmps93
 by_cases h4 : n ≤ 60
 · have hd : decide (n ≤ 60) = true := decide_eq_true h4
   rw [hd, Bool.true_and] at HR
   go_wp2_with fail
   refine HK.out.mono ?_
   rintro e w1 ⟨rfl, hb1⟩
   have HB := Lib.hid hb1
   clear hb1
   go_wp2_with fail
   go_ret
   exact ⟨ret_bool HR.out.symm, HB.out⟩
 · have hd : decide (n ≤ 60) = false := decide_eq_false h4
   rw [hd, Bool.false_and] at HR
   go_wp2_with fail
   go_ret
   exact ⟨ret_bool HR.out.symm, Below.refl _ _⟩
end Go.Proofs.YtlicffeicmoifaaGreatDoor
namespace Go.Proofs.YtlicffeicmoifaaGreatDoor
open Go.RowKit
set_option linter.unusedVariables false
def fineS (s : ByteArray) : Prop := pureS s ∧ okV s ∧ 1 ≤ s.size ∧ s.size ≤ 24
def fineT (fs : List NodeD) : Prop := ∀ d ∈ fs, (∀ s ∈ d.subs, fineS s) ∧ okV d.val
theorem fine_clean {fs : List NodeD} (h : fineT fs) : cleanT fs := fun d hd => ⟨fun s hs => ((h d hd).1 s hs).1, (h d hd).2⟩
theorem fine_nil : fineT [] := fun d hd => by cases hd
theorem fine_put {fs : List NodeD} {nm : ByteArray} {ss : List ByteArray} {v : ByteArray} (h : fineT fs) (hs : ∀ s ∈ ss, fineS s) (hv : okV v) : fineT (putB fs nm ss v).2 := by
 unfold putB
 split
 · exact fun d hd => by cases hd
 · intro d hd
   have hd : d ∈ putN fs nm ss v := hd
   unfold putN at hd
   rcases List.mem_append.1 hd with h1 | h1
   · exact h d (List.mem_of_mem_take h1)
   · rcases List.mem_cons.1 h1 with h2 | h2
     · subst h2; exact ⟨hs, hv⟩
     · exact h d (List.mem_of_mem_drop h2)
theorem fine_kill {fs : List NodeD} {nm : ByteArray} {ss : List ByteArray} (h : fineT fs) : fineT (killB fs nm ss) := fun d hd => h d (List.mem_filter.1 hd).1
theorem fine_do {fs : List NodeD} {e : EvD} (h : fineT fs) (hs : ∀ s ∈ e.subs, fineS s) (hv : okV e.val) : fineT (doB fs (chgOf e)).2 := by
 unfold doB
 split
 · exact fine_put h hs hv
 · exact fine_kill h
theorem fine_doOne {fs : List NodeD} {e : EvD} (h : fineT fs) (hs : ∀ s ∈ e.subs, fineS s) (hv : okV e.val) : fineT (doOneB fs (chgOf e)).2 := by
 unfold doOneB
 split
 · exact fine_do h hs hv
 · exact fine_nil
theorem putNode_fine {fs : List NodeD} {nm : ByteArray} {ss : List ByteArray} {v : ByteArray} (h : fineT fs) (hs : ∀ s ∈ ss, fineS s) (hv : okV v) : fineT (putNodeB fs nm ss v).2 := by
 unfold putNodeB
 split
 · exact fine_put h hs hv
 · exact fine_nil
theorem okV_head {v : ByteArray} {c : UInt8} {r : List UInt8} (h : v.data.toList = c :: r) (h1 : c ≠ 1) (h2 : c ≠ 2) : okV v := .inr ⟨c, r, h, h1, h2⟩
instance (s : ByteArray) : Decidable (pureS s) := inferInstanceAs (Decidable ((0 : UInt8) ∉ s.data.toList))
theorem okV_list : ∀ s ∈ ([⟨#[]⟩, ⟨#[49]⟩, ⟨#[116, 119, 111]⟩, ⟨#[51, 46, 53]⟩] : List ByteArray), s.size ≤ 16 ∧ okV s := by
 intro s hs
 simp only [List.mem_cons, List.not_mem_nil, or_false] at hs
 rcases hs with rfl | rfl | rfl | rfl
 · exact ⟨by decide, okV_nil⟩
 · exact ⟨by decide, okV_head (c := 49) rfl (by decide) (by decide)⟩
 · exact ⟨by decide, okV_head (c := 116) rfl (by decide) (by decide)⟩
 · exact ⟨by decide, okV_head (c := 51) rfl (by decide) (by decide)⟩
theorem okV_set : ∀ s ∈ ([⟨#[]⟩, ⟨#[55]⟩, ⟨#[110, 101, 119]⟩, ⟨#[52]⟩] : List ByteArray), s.size ≤ 16 ∧ okV s := by
 intro s hs
 simp only [List.mem_cons, List.not_mem_nil, or_false] at hs
 rcases hs with rfl | rfl | rfl | rfl
 · exact ⟨by decide, okV_nil⟩
 · exact ⟨by decide, okV_head (c := 55) rfl (by decide) (by decide)⟩
 · exact ⟨by decide, okV_head (c := 110) rfl (by decide) (by decide)⟩
 · exact ⟨by decide, okV_head (c := 52) rfl (by decide) (by decide)⟩
theorem fine_list : ∀ s ∈ ([⟨#[49]⟩, ⟨#[50]⟩, ⟨#[49, 48]⟩, ⟨#[120]⟩, ⟨#[45, 51]⟩, ⟨#[98]⟩] : List ByteArray), fineS s := by
 intro s hs
 simp only [List.mem_cons, List.not_mem_nil, or_false] at hs
 rcases hs with rfl | rfl | rfl | rfl | rfl | rfl
 · exact ⟨by decide, okV_head (c := 49) rfl (by decide) (by decide), by decide, by decide⟩
 · exact ⟨by decide, okV_head (c := 50) rfl (by decide) (by decide), by decide, by decide⟩
 · exact ⟨by decide, okV_head (c := 49) rfl (by decide) (by decide), by decide, by decide⟩
 · exact ⟨by decide, okV_head (c := 120) rfl (by decide) (by decide), by decide, by decide⟩
 · exact ⟨by decide, okV_head (c := 45) rfl (by decide) (by decide), by decide, by decide⟩
 · exact ⟨by decide, okV_head (c := 98) rfl (by decide) (by decide), by decide, by decide⟩
theorem fine_app {ss : List ByteArray} {t : ByteArray} (h : ∀ s ∈ ss, fineS s) (ht : fineS t) : ∀ s ∈ ss ++ [t], fineS s := fun s hs => by
 rcases List.mem_append.1 hs with h1 | h1
 · exact h s h1
 · rw [List.mem_singleton] at h1; subst h1; exact ht
structure RawE (d : EvD) : Prop where
 nm : d.name.size ≤ 16
 nb : nameB d.name = true
 len : d.subs.length ≤ 3
 pure : ∀ s ∈ d.subs, pureS s ∧ s.size ≤ 24
theorem RawE.small {d : EvD} (h : RawE d) (hv : d.val.size ≤ 1048576) : d.small := ⟨by have := h.nm; omega, ⟨by have := h.len; omega, fun s hs => by have := (h.pure s hs).2; omega⟩, hv⟩
def goodE (d : EvD) : Prop := okE d ∧ cleanE d
theorem RawE.good {d : EvD} (h : RawE d) (hv : d.val.size ≤ 1048576) (ho : okV d.val) : goodE d := ⟨⟨h.small hv, ho⟩, fun s hs => (h.pure s hs).1, ho⟩
theorem subE_lenD (s : ByteArray) : (subE s).length ≤ s.size + 9 := by
 unfold subE
 split
 · rw [List.length_cons, be8_len]; omega
 · rw [List.length_cons, List.length_append]
   have : s.data.toList.length = s.size := rfl
   simp only [List.length_cons, List.length_nil]
   omega
theorem flat_bdD : ∀ (ss : List ByteArray) (m : Nat), (∀ s ∈ ss, s.size ≤ m) → (ss.flatMap subE).length ≤ ss.length * (m + 9)
 | [], m, _ => by simp
 | s :: r, m, h => by
   have h1 := flat_bdD r m (fun t ht => h t (List.mem_cons_of_mem _ ht))
   have h2 := subE_lenD s
   have h3 := h s (by simp)
   rw [List.flatMap_cons, List.length_append, List.length_cons, Nat.add_mul, Nat.one_mul]
   omega
theorem putE_small {ss : List ByteArray} (h : ss.length ≤ 4) (hs : ∀ s ∈ ss, s.size ≤ 24) : (putE ss).size ≤ 1048576 := by
 have h1 := flat_bdD ss 24 hs
 have h2 : (putE ss).size = (ss.flatMap subE).length := by
  have : (putE ss).size = (putE ss).data.toList.length := rfl
  rw [this, putE_list]
 rw [h2]
 have h3 : ss.length * (24 + 9) ≤ 4 * 33 := Nat.mul_le_mul_right _ h
 omega
def goodV (v : ByteArray) : Prop := okV v ∧ v.size ≤ 1048576
theorem goodV_nil : goodV ⟨#[]⟩ := ⟨okV_nil, by decide⟩
theorem getD_memN {fs : List NodeD} (k : Nat) : fs.getD k default ∈ fs ∨ fs.getD k default = default := by
 rw [List.getD_eq_getElem?_getD]
 by_cases h : k < fs.length
 · rw [List.getElem?_eq_getElem h]; exact .inl (List.getElem_mem h)
 · rw [List.getElem?_eq_none (by omega)]; exact .inr rfl
theorem node_good {fs : List NodeD} (ht : treeB fs = true) (hf : fineT fs) {d : NodeD} (h : d ∈ fs) : goodV d.val ∧ subsB d.subs = true ∧ ∀ s ∈ d.subs, fineS s := by
 have h1 := (tree_small ht).2 d h
 have h2 := (tree_iff.1 ht).2.1 d h
 unfold nodeB thingB at h2
 simp only [Bool.and_eq_true, decide_eq_true_eq] at h2
 exact ⟨⟨(hf d h).2, h1.2.2⟩, h2.1.2, (hf d h).1⟩
theorem get_good {fs : List NodeD} (ht : treeB fs = true) (hf : fineT fs) (nm : ByteArray) (ss : List ByteArray) : goodV (getF fs nm ss) := by
 unfold getF
 split
 · rcases getD_memN (fs := fs) (atN fs nm ss) with h | h
   · exact (node_good ht hf h).1
   · rw [h]; exact goodV_nil
 · exact goodV_nil
theorem sub_good {ss : List ByteArray} (h : ∀ s ∈ ss, fineS s) (k : Nat) : goodV (ss.getD k ByteArray.empty) := by
 rw [List.getD_eq_getElem?_getD]
 by_cases hk : k < ss.length
 · rw [List.getElem?_eq_getElem hk]
   have := h _ (List.getElem_mem hk)
   exact ⟨this.2.1, by have := this.2.2.2; show ss[k].size ≤ _; omega⟩
 · rw [List.getElem?_eq_none (by omega)]; exact goodV_nil
theorem ordN_good {nm : ByteArray} {ss : List ByteArray} {back : Bool} {d : NodeD} {best : ByteArray} (hd : ∀ s ∈ d.subs, fineS s) (hb : goodV best) : goodV (ordN nm ss back d best) := by
 unfold ordN
 split
 · generalize (if back = true then (decide (lastS ss = ⟨#[]⟩) || beforeB (d.subs.getD (ss.length - 1) ByteArray.empty) (lastS ss)) && (decide (best = ⟨#[]⟩) || beforeB best (d.subs.getD (ss.length - 1) ByteArray.empty)) else (decide (lastS ss = ⟨#[]⟩) || beforeB (lastS ss) (d.subs.getD (ss.length - 1) ByteArray.empty)) && (decide (best = ⟨#[]⟩) || beforeB (d.subs.getD (ss.length - 1) ByteArray.empty) best)) = c
   cases c
   · exact hb
   · exact sub_good hd _
 · exact hb
theorem ord_fold {nm : ByteArray} {ss : List ByteArray} {back : Bool} : ∀ (l : List NodeD) (best : ByteArray), (∀ d ∈ l, ∀ s ∈ d.subs, fineS s) → goodV best → goodV (l.foldl (fun best d => ordN nm ss back d best) best)
 | [], best, _, hb => hb
 | d :: r, best, h, hb => ord_fold r _ (fun x hx => h x (List.mem_cons_of_mem _ hx)) (ordN_good (h d (by simp)) hb)
theorem qry_good {fs : List NodeD} (ht : treeB fs = true) (hf : fineT fs) (nm : ByteArray) (ss : List ByteArray) : goodV (qryV nm ss fs) := by
 unfold qryV
 split
 · rcases getD_memN (fs := fs) (qryI nm ss fs).toNat with h | h
   · obtain ⟨_, h2, h3⟩ := node_good ht hf h
     have h4 := h2
     unfold subsB at h4
     rw [Bool.and_eq_true, decide_eq_true_eq] at h4
     exact ⟨.inl ⟨_, h2, fun s hs => (h3 s hs).1, rfl⟩, putE_small h4.1 (fun s hs => (h3 s hs).2.2.2)⟩
   · rw [h]; exact ⟨.inl ⟨[], by decide, (fun s hs => by cases hs), rfl⟩, by decide⟩
 · exact goodV_nil
theorem again_good {fs : List NodeD} (ht : treeB fs = true) (hf : fineT fs) {d : EvD} (h : RawE d) (hv : goodV d.val) : goodE (againB fs d) := by
 unfold againB
 split
 · have := get_good ht hf d.name d.subs
   exact RawE.good ⟨h.nm, h.nb, h.len, h.pure⟩ this.2 this.1
 · split
   · exact RawE.good ⟨h.nm, h.nb, h.len, h.pure⟩ hv.2 hv.1
   · split
     · have : goodV (ordF d.name d.subs (decide (d.n < 0)) fs) := ord_fold fs _ (fun x hx => (hf x hx).1) goodV_nil
       exact RawE.good ⟨h.nm, h.nb, h.len, h.pure⟩ this.2 this.1
     · have := qry_good ht hf d.name d.subs
       exact RawE.good ⟨h.nm, h.nb, h.len, h.pure⟩ this.2 this.1
theorem where_raw {d : EvD} (h : RawE d) (hs : ∀ s ∈ d.subs, 1 ≤ s.size) : d.kind ≠ 5 → whereB d = true := fun hk => by
 unfold whereB
 rw [if_neg hk, h.nb, Bool.true_and]
 unfold subsB
 rw [Bool.and_eq_true, decide_eq_true_eq, List.all_eq_true]
 refine ⟨by have := h.len; omega, fun s hs' => ?_⟩
 unfold subB
 rw [Bool.and_eq_true, decide_eq_true_eq, decide_eq_true_eq]
 exact ⟨hs s hs', (h.pure s hs').2⟩
theorem subs_fine {ss : List ByteArray} (h : ∀ s ∈ ss, fineS s) (hl : ss.length ≤ 4) : subsB ss = true := by
 unfold subsB
 rw [Bool.and_eq_true, decide_eq_true_eq, List.all_eq_true]
 refine ⟨hl, fun s hs => ?_⟩
 unfold subB
 rw [Bool.and_eq_true, decide_eq_true_eq, decide_eq_true_eq]
 exact ⟨(h s hs).2.2.1, (h s hs).2.2.2⟩
theorem level_fine {ss : List ByteArray} (h : ∀ s ∈ ss, fineS s) (h0 : 0 < ss.length) (hl : ss.length ≤ 3) : levelB ss = true := by
 unfold levelB
 rw [decide_eq_true h0, decide_eq_true (show ss.length ≤ 4 by omega), subs_fine (fun s hs => h s (List.mem_of_mem_take hs)) (by rw [List.length_take]; omega)]
 have : subB (lastS ss) = true := by
  unfold lastS
  rw [List.getD_eq_getElem?_getD, List.getElem?_eq_getElem (by omega), Option.getD_some]
  have h1 := h _ (List.getElem_mem (show ss.length - 1 < ss.length by omega))
  unfold subB
  rw [decide_eq_true h1.2.2.1, decide_eq_true h1.2.2.2]
  rfl
 rw [this, Bool.or_true]
 rfl
theorem level_open {ss : List ByteArray} (h : ∀ s ∈ ss, fineS s) (hl : ss.length ≤ 2) : levelB (ss ++ [⟨#[]⟩]) = true := by
 unfold levelB
 have e1 : (ss ++ [(⟨#[]⟩ : ByteArray)]).length = ss.length + 1 := by simp
 have e2 : lastS (ss ++ [⟨#[]⟩]) = ⟨#[]⟩ := by
  unfold lastS
  rw [e1, Nat.add_sub_cancel, List.getD_eq_getElem?_getD, List.getElem?_append_right (Nat.le_refl _), Nat.sub_self]
  rfl
 rw [e2, e1, Nat.add_sub_cancel, List.take_left, subs_fine h (by omega), decide_eq_true (show 0 < ss.length + 1 by omega), decide_eq_true (show ss.length + 1 ≤ 4 by omega)]
 simp
theorem raw_of {k n : Int} {nm : ByteArray} {ss : List ByteArray} {v : ByteArray} (hn : nm.size ≤ 16) (hb : nameB nm = true) (hl : ss.length ≤ 3) (h : ∀ s ∈ ss, fineS s) : RawE ⟨k, nm, ss, v, n⟩ := ⟨hn, hb, hl, fun s hs => ⟨(h s hs).1, (h s hs).2.2.2⟩⟩
theorem raw_open {k n : Int} {nm : ByteArray} {ss : List ByteArray} {v : ByteArray} (hn : nm.size ≤ 16) (hb : nameB nm = true) (hl : ss.length ≤ 2) (h : ∀ s ∈ ss, fineS s) : RawE ⟨k, nm, ss ++ [⟨#[]⟩], v, n⟩ := ⟨hn, hb, by simp; omega, fun s hs => by
 rcases List.mem_append.1 hs with h1 | h1
 · exact ⟨(h s h1).1, (h s h1).2.2.2⟩
 · rw [List.mem_singleton] at h1; subst h1; exact ⟨by decide, by decide⟩⟩
end Go.Proofs.YtlicffeicmoifaaGreatDoor
namespace Go.Proofs.YtlicffeicmoifaaGreatDoor
open Go.RowKit
set_option linter.unusedVariables false
def ChgPost (d : ChgD) (w : World) (e : Ending) (w' : World) : Prop := ∃ v, e = .returned (.agg #[.int .i64 d.kind, .string d.name, v, .string d.val]) ∧ Own.SubO w' w.heap.size v d.subs ∧ Below w.heap.size w w'
theorem sub_lit2 {Z : World} {bs g n : Nat} (ss : List ByteArray) (cs : Array Value) (hg : Z.heap.size = g) (hb : bs ≤ g) (hn : ss.length = n) (hm : n ≤ 1048576) (h : cs = strArr ss) : Own.SubO (Z.alloc (.cells cs 9)) bs (.slice (some ⟨g, 0, none⟩) n n) ss := by
 subst hg hn
 exact sub_lit ss cs hb hm h
theorem sub_later {w w' : World} {bs : Nat} {v : Value} {ss : List ByteArray} (h : Own.SubO w bs v ss) (hb : Below w.heap.size w w') : Own.SubO w' bs v ss := Own.own_later h hb
theorem sub_four {w : World} {bs g t : Nat} {v : Value} {ss : List ByteArray} {a0 a1 a2 a3 : Value} (h : Own.SubO w bs v ss) (hB : Blk w g t #[a0, a1, a2, a3]) (ht : 9 ≠ t) (x0 x1 x2 x3 : Value) : Own.SubO ((((w.setCell ⟨g, 0, none⟩ x0).setCell ⟨g, 1, none⟩ x1).setCell ⟨g, 2, none⟩ x2).setCell ⟨g, 3, none⟩ x3) bs v ss :=
 (((h.setBlk hB ht).setBlk (hB.set_ 0 x0) ht).setBlk ((hB.set_ 0 x0).set_ 1 x1) ht).setBlk (((hB.set_ 0 x0).set_ 1 x1).set_ 2 x2) ht
theorem below_four {a w : World} {B g : Nat} (h : Below B a w) (hg : B ≤ g) (x0 x1 x2 x3 : Value) : Below B a ((((w.setCell ⟨g, 0, none⟩ x0).setCell ⟨g, 1, none⟩ x1).setCell ⟨g, 2, none⟩ x2).setCell ⟨g, 3, none⟩ x3) :=
 (((h.setCell (p := ⟨g, 0, none⟩) hg _).setCell (p := ⟨g, 1, none⟩) hg _).setCell (p := ⟨g, 2, none⟩) hg _).setCell (p := ⟨g, 3, none⟩) hg _
end Go.Proofs.YtlicffeicmoifaaGreatDoor
namespace Go.Proofs.YtlicffeicmoifaaGreatDoor
open Go.RowKit
set_option linter.unusedVariables false
theorem Drawn.set {p K : Nat} {a b : World} (h : Drawn p K a b) {g : Nat} (hg : a.heap.size ≤ g) (hp : p < a.heap.size) (i : Nat) (u : Value) : Drawn p K a (b.setCell ⟨g, i, none⟩ u) :=
 h.grown (Own.grown_set b g i u) (fun g' e => by cases e; exact hg) hp
theorem Drawn.own {p K : Nat} {a b c : World} {P : Nat → Prop} (h : Drawn p K a b) (k : Own.Chg P b c) (hP : ∀ g, P g → a.heap.size ≤ g) (hp : p < a.heap.size) : Drawn p K a c :=
 ⟨h.src.chg k (fun g hg => Nat.lt_of_lt_of_le hp (hP g hg)), h.chg.fresh k hP⟩
theorem own_not {w : World} {base e size n t : Nat} {v : Value} {xs : List Value} {P : Nat → Prop} (h : w.ownsRow base e size v n xs) (hne : e ≠ t) (hB : ∀ g, P g → ∃ cs, Blk w g t cs) : Own.inP (fun g => ¬ P g) v := fun g hg hp => by
 obtain ⟨cs, hb⟩ := hB g hp
 exact Own.own_blk_ne h hb hne hg
theorem chgS {P : Nat → Prop} {a b : World} {g i : Nat} {u : Value} (h : Own.Chg P a b) (hg : P g) : Own.Chg P a (b.setCell ⟨g, i, none⟩ u) := h.set hg i u
end Go.Proofs.YtlicffeicmoifaaGreatDoor
namespace Go.Proofs.YtlicffeicmoifaaGreatDoor
open Go.RowKit
set_option linter.unusedVariables false
theorem sub_app {w5 : World} {bs n cap gg : Nat} {ss : List ByteArray} {t : ByteArray} (hrow : w5.ownsRow bs 9 1 (.slice (some ⟨gg, 0, none⟩) n cap) n (ss.map Value.string ++ [.string t])) (hn : n = ss.length + 1) : Own.SubO w5 bs (.slice (some ⟨gg, 0, none⟩) n cap) (ss ++ [t]) := by
 subst hn
 unfold Own.SubO
 rw [List.length_append, List.map_append]
 exact hrow
theorem sub_appv {w5 : World} {bs n : Nat} {v : Value} {ss : List ByteArray} {t : ByteArray} (hrow : w5.ownsRow bs 9 1 v (n + 1) (ss.map Value.string ++ [.string t])) (hn : n = ss.length) : Own.SubO w5 bs v (ss ++ [t]) := by
 subst hn
 unfold Own.SubO
 rw [List.length_append, List.map_append]
 exact hrow
end Go.Proofs.YtlicffeicmoifaaGreatDoor
namespace Go.Proofs.YtlicffeicmoifaaGreatDoor
open Go.RowKit
set_option linter.unusedVariables false
theorem NodesO.drawn {w w' : World} {p K K' base : Nat} {v : Value} {fs : List NodeD} (h : NodesO w base v fs) (hs : SrcR w p K) (hd : Drawn p K' w w') : NodesO w' base v fs := by
 obtain ⟨vs, h⟩ := h
 exact ⟨vs, OwnL.drawn h hs hd (by decide)⟩
theorem putNode_tree {fs : List NodeD} {nm : ByteArray} {ss : List ByteArray} {v : ByteArray} (h0 : (putNodeB fs nm ss v).1 = 0) : treeB (putNodeB fs nm ss v).2 = true := by
 unfold putNodeB at h0 ⊢
 split at h0
 · next hc =>
   rw [if_pos hc]
   simp only [Bool.and_eq_true, decide_eq_true_eq] at hc
   exact put_tree hc.1 hc.2.1 hc.2.2 h0
 · cases h0
structure TrS (p K : Nat) (w : World) (q r : Nat) (v : Value) (fs : List NodeD) (X : World) : Prop where
 own : NodesO X w.heap.size v fs
 tree : treeB fs = true
 box : Blk X q 26 #[v]
 res : Blk X r 26 #[.slice none 0 0]
 draw : Drawn p K w X
section
variable {p K K' q r : Nat} {w X Y : World} {v : Value} {fs : List NodeD}
theorem TrS.later (s : TrS p K w q r v fs X) (hb : Below X.heap.size X Y) : TrS p K w q r v fs Y := ⟨s.own.later hb, s.tree, s.box.later hb s.box.lt, s.res.later hb s.res.lt, s.draw.later hb⟩
theorem TrS.drawn (s : TrS p K w q r v fs X) (hd : Drawn p K' X Y) (hq : q ≠ p) (hr : r ≠ p) : TrS p K' w q r v fs Y := ⟨s.own.drawn s.draw.src hd, s.tree, Blk.drawn s.box hd hq, Blk.drawn s.res hd hr, s.draw.trans hd⟩
theorem TrS.mono (s : TrS p K w q r v fs X) (hK : K ≤ K') : TrS p K' w q r v fs X := ⟨s.own, s.tree, s.box, s.res, s.draw.mono hK⟩
theorem TrS.put (s : TrS p K w q r v fs X) {v2 : Value} {fs2 : List NodeD} (h : NodesO X w.heap.size v2 fs2) (ht : treeB fs2 = true) (hrq : r ≠ q) (hpw : p < w.heap.size) (hq : w.heap.size ≤ q) : TrS p K w q r v2 fs2 (X.setCell ⟨q, 0, none⟩ v2) :=
 ⟨h.setBlk s.box (by decide) (by decide), ht, by have h2 := s.box.set_ 0 v2; simpa using h2, s.res.far (p := ⟨q, 0, none⟩) hrq v2, s.draw.set hq hpw 0 v2⟩
theorem TrS.side (s : TrS p K w q r v fs X) {b : Nat} {u : Value} {cs : Array Value} (hb : Blk X b 26 cs) (hqb : q ≠ b) (hrb : r ≠ b) (hpw : p < w.heap.size) (hwb : w.heap.size ≤ b) : TrS p K w q r v fs (X.setCell ⟨b, 0, none⟩ u) :=
 ⟨s.own.setBlk hb (by decide) (by decide), s.tree, s.box.far (p := ⟨b, 0, none⟩) hqb u, s.res.far (p := ⟨b, 0, none⟩) hrb u, s.draw.set hwb hpw 0 u⟩
end
theorem strs_at {Z : World} {g n t : Nat} {ss : List ByteArray} {cs : Array Value} (h : cs = strArr ss) (hg : Z.heap.size = g) (hn : ss.length = n) : Strs (Z.alloc (.cells cs t)) (Z.alloc (.cells cs t)).heap.size (some ⟨g, 0, none⟩) n ss := by
 subst hg hn
 exact strs_lit Z t ss cs h
theorem strs_al {Z : World} {n : Nat} {A : Option Addr} {ss : List ByteArray} {o : Obj} (h : Strs Z Z.heap.size A n ss) : Strs (Z.alloc o) (Z.alloc o).heap.size A n ss := h.later (Below.new _ _)
theorem strs_drew {Z : World} {n : Nat} {A : Option Addr} {ss : List ByteArray} (h : Strs Z Z.heap.size A n ss) : Strs Z.drew Z.drew.heap.size A n ss := h.later (Below.refl _ _).drew
theorem blk_at {Z : World} {g t : Nat} {cs : Array Value} (hg : Z.heap.size = g) : Blk (Z.alloc (.cells cs t)) g t cs := heap_last hg
theorem blk_al {Z : World} {g t : Nat} {cs : Array Value} {o : Obj} (h : Blk Z g t cs) : Blk (Z.alloc o) g t cs := h.alloc o
theorem blk_drew {Z : World} {g t : Nat} {cs : Array Value} (h : Blk Z g t cs) : Blk Z.drew g t cs := h
theorem blk_src {Z Y : World} {p K K' g : Nat} {cs : Array Value} (hs : SrcR Z p K) (hd : Drawn p K' Z Y) (h : Blk Z g 26 cs) : Blk Y g 26 cs := Blk.drawn h hd (fun e => by
 subst e
 obtain ⟨A, n, c, a, s, hB, _⟩ := hs
 have h2 := hB.symm.trans h
 injection h2 with h2
 injection h2 with _ ht
 exact absurd ht (by decide))
theorem sub_dr {wo Z Y : World} {p K K' bs : Nat} {v : Value} {ss : List ByteArray} (h : Own.SubO Z bs v ss) (h0 : Drawn p K wo Z) (hd : Drawn p K' Z Y) : Own.SubO Y bs v ss := SubO.drawn h h0.src hd
theorem sub_drew {Z : World} {bs : Nat} {v : Value} {ss : List ByteArray} (h : Own.SubO Z bs v ss) : Own.SubO Z.drew bs v ss := sub_later h (Below.refl _ _).drew
theorem sub_al {Z : World} {bs : Nat} {v : Value} {ss : List ByteArray} {o : Obj} (h : Own.SubO Z bs v ss) : Own.SubO (Z.alloc o) bs v ss := sub_later h (Below.new _ _)
theorem strs_dr {wo Z Y : World} {p K K' n : Nat} {A : Option Addr} {ss : List ByteArray} (h0 : Drawn p K wo Z) (hd : Drawn p K' Z Y) (h : Strs Z Z.heap.size A n ss) : Strs Y Y.heap.size A n ss := h0.src.strs h hd
theorem blk_dr {wo Z Y : World} {p K K' g : Nat} {cs : Array Value} (h0 : Drawn p K wo Z) (hd : Drawn p K' Z Y) (h : Blk Z g 26 cs) : Blk Y g 26 cs := blk_src h0.src hd h
theorem dr_al {p K : Nat} {a b : World} {o : Obj} (h : Drawn p K a b) : Drawn p K a (b.alloc o) := h.later (Below.new _ _)
theorem dr_drew {p K : Nat} {a b : World} (h : Drawn p K a b) : Drawn p K a b.drew := h.later (Below.refl _ _).drew
def DrW (p : Nat) (wo W : World) : Prop := ∃ K, Drawn p K wo W
theorem dw_of {p K : Nat} {a b : World} (h : Drawn p K a b) : DrW p a b := ⟨K, h⟩
theorem dw_al {p : Nat} {a b : World} {o : Obj} (h : DrW p a b) : DrW p a (b.alloc o) := by
 obtain ⟨K, h⟩ := h
 exact ⟨K, dr_al h⟩
theorem dw_drew {p : Nat} {a b : World} (h : DrW p a b) : DrW p a b.drew := by
 obtain ⟨K, h⟩ := h
 exact ⟨K, dr_drew h⟩
theorem place_small {nm : ByteArray} {ss : List ByteArray} {v : ByteArray} (h1 : nm.size ≤ 16) (h2 : ss.length ≤ 16) (h3 : ∀ s ∈ ss, s.size ≤ 16) (h4 : v.size ≤ 16) : (⟨nm, ss, v⟩ : NodeD).small :=
 ⟨by show nm.size ≤ _; omega, ⟨by show ss.length ≤ _; omega, fun s hs => by have := h3 s hs; omega⟩, by show v.size ≤ _; omega⟩
end Go.Proofs.YtlicffeicmoifaaGreatDoor
namespace Go.Proofs.YtlicffeicmoifaaGreatDoor
open Go.RowKit
set_option linter.unusedVariables false
noncomputable def replB (fs : List NodeD) (l : List EvD) : Int × Nat × List NodeD := if (treeB fs && notesB l) = true then repB fs l 0 else (1, 0, [])
end Go.Proofs.YtlicffeicmoifaaGreatDoor
