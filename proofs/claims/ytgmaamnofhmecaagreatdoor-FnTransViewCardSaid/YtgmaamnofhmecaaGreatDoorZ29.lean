import Derived.Test.YtgmaamnofhmecaaGreatDoorZ17
import Derived.Test.YtgmaamnofhmecaaGreatDoorZ27
import Derived.Test.YtgmaamnofhmecaaGreatDoorZ28
import Derived.Test.YtgmaamnofhmecaaGreatDoorZ12
import Derived.Test.YtgmaamnofhmecaaGreatDoorZ14
import Derived.Deep.AppendLies
import Derived.Deep.RegionHeld3
import Derived.Deep.RegionLaw
set_option linter.unusedSimpArgs false
namespace Go.Proofs.YtgmaamnofhmecaaGreatDoor
open Go.RowKit
set_option linter.unusedVariables false
theorem cell_far2 {w : World} {a b : Addr} {u v : Value} (h : a.block ≠ b.block) (hc : w.cell? b = some v) : (w.setCell a u).cell? b = some v :=
 by rw [World.cell?_setCell_other]; exact hc; exact fun e => h (by rw [e])
theorem chgOf_small {d : EvD} (h : d.small) : (chgOf d).small := h
theorem chgR_of {w : World} {B : Nat} {A : Option Addr} {m c : Nat} {d : ChgD} (h : Own.SubO w B (.slice A m c) d.subs) (hB : True) : ChgR w w.heap.size (.int .i64 d.kind) (.string d.name) (.slice A m c) (.string d.val) d := by
 obtain ⟨A1, cap1, e1, hc1, hs1⟩ := h.strs
 cases e1
 exact ⟨rfl, rfl, ⟨A, _, c, rfl, hs1, hc1⟩, rfl⟩
set_option maxRecDepth 100000 in
set_option maxHeartbeats 4000000 in
theorem l25Turn_any (A : Option Addr) (n c : Nat) (fs : List NodeD) (c0 c1 c2 c3 c4 : Value) (d : EvD) (w : World) (hN : Nodes w w.heap.size A n fs) (hnc : n ≤ c) (hs : smallNs fs) (h : EvR w w.heap.size c0 c1 c2 c3 c4 d) (hsm : d.small) :
 Calls Tryz.prog 82 #[.agg #[.slice A n c], .agg #[c0, c1, c2, c3, c4]] w (TreePost (doOneB fs (chgOf d)) w) := by
 have HKC := Lib.hid (fun W (hW : Below w.heap.size w W) => l25Change_any c0 c1 c2 c3 c4 d W (h.later hW) hsm.2.1.1)
 have HKD := Lib.hid (fun d0 d1 d2 d3 W (hW : Below w.heap.size w W) (hr : ChgR W W.heap.size d0 d1 d2 d3 (chgOf d)) => DoChange_any A n c d0 d1 d2 d3 fs (chgOf d) W (hN.later hW) hnc hs hr (chgOf_small hsm))
 obtain ⟨rfl, rfl, ⟨S, m, q, rfl, _, _⟩, rfl, rfl⟩ := h
 clear hN hs hsm
 generalize doOneB fs (chgOf d) = PB at *
 generalize chgOf d = C at *
 generalize d.subs = ss at *
 generalize d.name = nm at *
 generalize d.val = vl at *
 generalize d.kind = kd at *
 generalize d.n = nn at *
 obtain ⟨WB, hWB⟩ : ∃ WB, WB = ((w.alloc (.cells #[.slice A n c] 26)).alloc (.cells #[.int .i64 kd, .string nm, .slice S m q, .string vl, .int .i64 nn] 55)).alloc (.cells #[.slice none 0 0] 26) := ⟨_, rfl⟩
 have HB0 : Hid (Below w.heap.size w WB) := by subst hWB; exact below_new3 w _ _ _
 have HTT : Hid (Blk WB w.heap.size 26 #[.slice A n c]) := by subst hWB; exact heap_new0 _ _ _ _
 have HEE : Hid (Blk WB (w.heap.size + 1) 55 #[.int .i64 kd, .string nm, .slice S m q, .string vl, .int .i64 nn]) := by subst hWB; exact heap_new1 _ _ _ _
 have HYY : Hid (Blk WB (w.heap.size + 1 + 1) 26 #[.slice none 0 0]) := by subst hWB; exact heap_new2 _ _ _ _
 have q0 := HEE.out.cell 0
 have q1 := HEE.out.cell 1
 have q2 := HEE.out.cell 2
 have q3 := HEE.out.cell 3
 have q4 := HEE.out.cell 4
 have q5 := HTT.out.cell 0
 have hwb := HB0.out.size
 have hwy := HYY.out.lt
 have hwe := HEE.out.lt
 have hwt := HTT.out.lt
 simp at q0 q1 q2 q3 q4 q5
 have HS : Hid (∀ W, Below WB.heap.size WB W → (W.cell? ⟨w.heap.size, 0, none⟩ = some (.slice A n c) ∧ W.cell? ⟨w.heap.size + 1, 0, none⟩ = some (.int .i64 kd) ∧ W.cell? ⟨w.heap.size + 1, 1, none⟩ = some (.string nm) ∧ W.cell? ⟨w.heap.size + 1, 2, none⟩ = some (.slice S m q) ∧ W.cell? ⟨w.heap.size + 1, 3, none⟩ = some (.string vl) ∧ W.cell? ⟨w.heap.size + 1, 4, none⟩ = some (.int .i64 nn))) := fun W hW => ⟨cell_later hW q5, cell_later hW q0, cell_later hW q1, cell_later hW q2, cell_later hW q3, cell_later hW q4⟩
 have hne0 : w.heap.size ≠ w.heap.size + 1 + 1 := by omega
 have hne1 : ¬ w.heap.size + 1 + 1 = w.heap.size := by omega
 have hne2 : ¬ w.heap.size = w.heap.size + 1 + 1 := by omega
 clear HEE HTT
 go_enter Tryz.func82, Tryz.ntmps82
 go_wp2_with fail
 rw [← hWB]
 clear hWB
 go_region_held3 (fun W => W.cell? ⟨w.heap.size, 0, none⟩ = some (.slice A n c) ∧ W.cell? ⟨w.heap.size + 1, 0, none⟩ = some (.int .i64 kd) ∧ W.cell? ⟨w.heap.size + 1, 1, none⟩ = some (.string nm) ∧ W.cell? ⟨w.heap.size + 1, 2, none⟩ = some (.slice S m q) ∧ W.cell? ⟨w.heap.size + 1, 3, none⟩ = some (.string vl) ∧ W.cell? ⟨w.heap.size + 1, 4, none⟩ = some (.int .i64 nn))
  (first | exact HS.out _ (Below.refl _ _).drew | exact HS.out _ HB1.out | exact HS.out _ HB2.out | (obtain ⟨z0, z1, z2, z3, z4, z5⟩ := HS.out _ HB2.out; exact ⟨cell_far2 (by simp; omega) z0, cell_far2 (by simp) z1, cell_far2 (by simp) z2, cell_far2 (by simp) z3, cell_far2 (by simp) z4, cell_far2 (by simp) z5⟩) | go_keep)
  (first
    | (go_at_call 156
       refine (HKC.out _ (by exact HB0.out.drew)).mono ?_
       rintro e w1 ⟨v1, rfl, ho1', hb1'⟩
       have HB1 := Lib.hid (undrew hb1')
       obtain ⟨A1, m1, q1x, rfl⟩ : ∃ A1 m1 q1x, v1 = .slice A1 m1 q1x := by obtain ⟨A, cap, e, _⟩ := Own.own_slice ho1'; exact ⟨A, _, cap, e⟩
       have HCR := Lib.hid (chgR_of ho1' trivial)
       clear hb1' ho1')
    | (go_at_call 66
       refine (HKD.out _ _ _ _ _ (HB0.out.later HB1.out) HCR.out).mono ?_
       rintro e w2 ⟨v2, rfl, hN2, hb2⟩
       have HB2 := Lib.hid (HB1.out.later hb2)
       obtain ⟨A2, cap2, rfl, _, _⟩ := hN2.reads
       have HN2 := Lib.hid (hN2.base (by have := HB1.out.size; omega : w.heap.size ≤ _))
       have HY2 := Lib.hid (HYY.out.later HB2.out HYY.out.lt)
       have y0 := HY2.out.cell 0
       have yf := HY2.out.frozen 0
       have yz := HY2.out.lt
       simp at y0
       clear hb2 hN2))
 go_wp2_with fail
 refine bodyPost_ret (v := .tuple #[.agg #[.slice A2 _ cap2], .int .i64 _]) (by simp [results, Tryz.results82, go_sem, y0]; try first | exact rfl | exact ⟨rfl, rfl⟩) rfl ?_
 exact ⟨_, rfl, HN2.out.setBlk HY2.out (by decide) (by decide), (HB0.out.later HB2.out).setCell (show w.heap.size ≤ w.heap.size + 1 + 1 by omega) _⟩
end Go.Proofs.YtgmaamnofhmecaaGreatDoor
namespace Go.Proofs.YtgmaamnofhmecaaGreatDoor
open Go.RowKit
set_option linter.unusedVariables false
noncomputable def replB (fs : List NodeD) (l : List EvD) : Int × Nat × List NodeD := if (treeB fs && notesB l) = true then repB fs l 0 else (1, 0, [])
end Go.Proofs.YtgmaamnofhmecaaGreatDoor
namespace Go.Proofs.YtgmaamnofhmecaaGreatDoor
open Go.RowKit
set_option linter.unusedVariables false
theorem reads_turns {e : EvD} (h : noteB e = true) : turnsB e = !readsB e := by
 have h2 := (note_parts h).2
 have hk : e.kind = 1 ∨ e.kind = 4 ∨ e.kind = 5 ∨ e.kind = 6 ∨ e.kind = 2 ∨ e.kind = 3 := by
  unfold resB at h2
  split at h2
  · next h => exact .inl h
  split at h2
  · next h => exact .inr (.inl h)
  split at h2
  · next h => exact .inr (.inr (.inl h))
  split at h2
  · next h => exact .inr (.inr (.inr (.inl h)))
  split at h2
  · next h => exact .inr (.inr (.inr (.inr (.inl h))))
  · simp only [Bool.and_eq_true, decide_eq_true_eq] at h2
    exact .inr (.inr (.inr (.inr (.inr h2.1))))
 unfold readsB turnsB
 rcases hk with h | h | h | h | h | h <;> rw [h] <;> rfl
theorem evR_of {w : World} {B : Nat} {A : Option Addr} {m c : Nat} {d : EvD} (h : Own.SubO w B (.slice A m c) d.subs) : EvR w w.heap.size (.int .i64 d.kind) (.string d.name) (.slice A m c) (.string d.val) (.int .i64 d.n) d := by
 obtain ⟨A1, cap1, e1, hc1, hs1⟩ := h.strs
 cases e1
 exact ⟨rfl, rfl, ⟨A, _, c, rfl, hs1, hc1⟩, rfl, rfl⟩
theorem again_subs (fs : List NodeD) (d : EvD) : (againB fs d).subs = d.subs := by
 unfold againB
 repeat' split
 all_goals rfl
theorem drop_consQ {α : Type} [Inhabited α] (cs : List α) (k : Nat) (h : k < cs.length) : cs.drop k = cs.getD k default :: cs.drop (k + 1) := by
 rw [List.drop_eq_getElem_cons h, List.getD_eq_getElem?_getD, List.getElem?_eq_getElem h]; rfl
end Go.Proofs.YtgmaamnofhmecaaGreatDoor
namespace Go.Proofs.YtgmaamnofhmecaaGreatDoor
open Go.RowKit
set_option linter.unusedVariables false
theorem sub_app {w5 : World} {bs n cap gg : Nat} {ss : List ByteArray} {t : ByteArray} (hrow : w5.ownsRow bs 9 1 (.slice (some ⟨gg, 0, none⟩) n cap) n (ss.map Value.string ++ [.string t])) (hn : n = ss.length + 1) : Own.SubO w5 bs (.slice (some ⟨gg, 0, none⟩) n cap) (ss ++ [t]) := by
 subst hn
 unfold Own.SubO
 rw [List.length_append, List.map_append]
 exact hrow
theorem sub_appv {w5 : World} {bs n : Nat} {v : Value} {ss : List ByteArray} {t : ByteArray} (hrow : w5.ownsRow bs 9 1 v (n + 1) (ss.map Value.string ++ [.string t])) (hn : n = ss.length) : Own.SubO w5 bs v (ss ++ [t]) := by
 subst hn
 unfold Own.SubO
 rw [List.length_append, List.map_append]
 exact hrow
end Go.Proofs.YtgmaamnofhmecaaGreatDoor
namespace Go.Proofs.YtgmaamnofhmecaaGreatDoor
open Go.RowKit
set_option linter.unusedVariables false
theorem NodesO.drawn {w w' : World} {p K K' base : Nat} {v : Value} {fs : List NodeD} (h : NodesO w base v fs) (hs : SrcR w p K) (hd : Drawn p K' w w') : NodesO w' base v fs := by
 obtain ⟨vs, h⟩ := h
 exact ⟨vs, OwnL.drawn h hs hd (by decide)⟩
theorem putNode_tree {fs : List NodeD} {nm : ByteArray} {ss : List ByteArray} {v : ByteArray} (h0 : (putNodeB fs nm ss v).1 = 0) : treeB (putNodeB fs nm ss v).2 = true := by
 unfold putNodeB at h0 ⊢
 split at h0
 · next hc =>
   rw [if_pos hc]
   simp only [Bool.and_eq_true, decide_eq_true_eq] at hc
   exact put_tree hc.1 hc.2.1 hc.2.2 h0
 · cases h0
structure TrS (p K : Nat) (w : World) (q r : Nat) (v : Value) (fs : List NodeD) (X : World) : Prop where
 own : NodesO X w.heap.size v fs
 tree : treeB fs = true
 box : Blk X q 26 #[v]
 res : Blk X r 26 #[.slice none 0 0]
 draw : Drawn p K w X
section
variable {p K K' q r : Nat} {w X Y : World} {v : Value} {fs : List NodeD}
theorem TrS.later (s : TrS p K w q r v fs X) (hb : Below X.heap.size X Y) : TrS p K w q r v fs Y := ⟨s.own.later hb, s.tree, s.box.later hb s.box.lt, s.res.later hb s.res.lt, s.draw.later hb⟩
theorem TrS.drawn (s : TrS p K w q r v fs X) (hd : Drawn p K' X Y) (hq : q ≠ p) (hr : r ≠ p) : TrS p K' w q r v fs Y := ⟨s.own.drawn s.draw.src hd, s.tree, Blk.drawn s.box hd hq, Blk.drawn s.res hd hr, s.draw.trans hd⟩
theorem TrS.mono (s : TrS p K w q r v fs X) (hK : K ≤ K') : TrS p K' w q r v fs X := ⟨s.own, s.tree, s.box, s.res, s.draw.mono hK⟩
theorem TrS.put (s : TrS p K w q r v fs X) {v2 : Value} {fs2 : List NodeD} (h : NodesO X w.heap.size v2 fs2) (ht : treeB fs2 = true) (hrq : r ≠ q) (hpw : p < w.heap.size) (hq : w.heap.size ≤ q) : TrS p K w q r v2 fs2 (X.setCell ⟨q, 0, none⟩ v2) :=
 ⟨h.setBlk s.box (by decide) (by decide), ht, by have h2 := s.box.set_ 0 v2; simpa using h2, s.res.far (p := ⟨q, 0, none⟩) hrq v2, s.draw.set hq hpw 0 v2⟩
theorem TrS.side (s : TrS p K w q r v fs X) {b : Nat} {u : Value} {cs : Array Value} (hb : Blk X b 26 cs) (hqb : q ≠ b) (hrb : r ≠ b) (hpw : p < w.heap.size) (hwb : w.heap.size ≤ b) : TrS p K w q r v fs (X.setCell ⟨b, 0, none⟩ u) :=
 ⟨s.own.setBlk hb (by decide) (by decide), s.tree, s.box.far (p := ⟨b, 0, none⟩) hqb u, s.res.far (p := ⟨b, 0, none⟩) hrb u, s.draw.set hwb hpw 0 u⟩
end
theorem strs_at {Z : World} {g n t : Nat} {ss : List ByteArray} {cs : Array Value} (h : cs = strArr ss) (hg : Z.heap.size = g) (hn : ss.length = n) : Strs (Z.alloc (.cells cs t)) (Z.alloc (.cells cs t)).heap.size (some ⟨g, 0, none⟩) n ss := by
 subst hg hn
 exact strs_lit Z t ss cs h
theorem strs_al {Z : World} {n : Nat} {A : Option Addr} {ss : List ByteArray} {o : Obj} (h : Strs Z Z.heap.size A n ss) : Strs (Z.alloc o) (Z.alloc o).heap.size A n ss := h.later (Below.new _ _)
theorem strs_drew {Z : World} {n : Nat} {A : Option Addr} {ss : List ByteArray} (h : Strs Z Z.heap.size A n ss) : Strs Z.drew Z.drew.heap.size A n ss := h.later (Below.refl _ _).drew
theorem blk_at {Z : World} {g t : Nat} {cs : Array Value} (hg : Z.heap.size = g) : Blk (Z.alloc (.cells cs t)) g t cs := heap_last hg
theorem blk_al {Z : World} {g t : Nat} {cs : Array Value} {o : Obj} (h : Blk Z g t cs) : Blk (Z.alloc o) g t cs := h.alloc o
theorem blk_drew {Z : World} {g t : Nat} {cs : Array Value} (h : Blk Z g t cs) : Blk Z.drew g t cs := h
theorem blk_src {Z Y : World} {p K K' g : Nat} {cs : Array Value} (hs : SrcR Z p K) (hd : Drawn p K' Z Y) (h : Blk Z g 26 cs) : Blk Y g 26 cs := Blk.drawn h hd (fun e => by
 subst e
 obtain ⟨A, n, c, a, s, hB, _⟩ := hs
 have h2 := hB.symm.trans h
 injection h2 with h2
 injection h2 with _ ht
 exact absurd ht (by decide))
theorem sub_dr {wo Z Y : World} {p K K' bs : Nat} {v : Value} {ss : List ByteArray} (h : Own.SubO Z bs v ss) (h0 : Drawn p K wo Z) (hd : Drawn p K' Z Y) : Own.SubO Y bs v ss := SubO.drawn h h0.src hd
theorem sub_drew {Z : World} {bs : Nat} {v : Value} {ss : List ByteArray} (h : Own.SubO Z bs v ss) : Own.SubO Z.drew bs v ss := sub_later h (Below.refl _ _).drew
theorem sub_al {Z : World} {bs : Nat} {v : Value} {ss : List ByteArray} {o : Obj} (h : Own.SubO Z bs v ss) : Own.SubO (Z.alloc o) bs v ss := sub_later h (Below.new _ _)
theorem strs_dr {wo Z Y : World} {p K K' n : Nat} {A : Option Addr} {ss : List ByteArray} (h0 : Drawn p K wo Z) (hd : Drawn p K' Z Y) (h : Strs Z Z.heap.size A n ss) : Strs Y Y.heap.size A n ss := h0.src.strs h hd
theorem blk_dr {wo Z Y : World} {p K K' g : Nat} {cs : Array Value} (h0 : Drawn p K wo Z) (hd : Drawn p K' Z Y) (h : Blk Z g 26 cs) : Blk Y g 26 cs := blk_src h0.src hd h
theorem dr_al {p K : Nat} {a b : World} {o : Obj} (h : Drawn p K a b) : Drawn p K a (b.alloc o) := h.later (Below.new _ _)
theorem dr_drew {p K : Nat} {a b : World} (h : Drawn p K a b) : Drawn p K a b.drew := h.later (Below.refl _ _).drew
def DrW (p : Nat) (wo W : World) : Prop := ∃ K, Drawn p K wo W
theorem dw_of {p K : Nat} {a b : World} (h : Drawn p K a b) : DrW p a b := ⟨K, h⟩
theorem dw_al {p : Nat} {a b : World} {o : Obj} (h : DrW p a b) : DrW p a (b.alloc o) := by
 obtain ⟨K, h⟩ := h
 exact ⟨K, dr_al h⟩
theorem dw_drew {p : Nat} {a b : World} (h : DrW p a b) : DrW p a b.drew := by
 obtain ⟨K, h⟩ := h
 exact ⟨K, dr_drew h⟩
theorem place_small {nm : ByteArray} {ss : List ByteArray} {v : ByteArray} (h1 : nm.size ≤ 16) (h2 : ss.length ≤ 16) (h3 : ∀ s ∈ ss, s.size ≤ 16) (h4 : v.size ≤ 16) : (⟨nm, ss, v⟩ : NodeD).small :=
 ⟨by show nm.size ≤ _; omega, ⟨by show ss.length ≤ _; omega, fun s hs => by have := h3 s hs; omega⟩, by show v.size ≤ _; omega⟩
end Go.Proofs.YtgmaamnofhmecaaGreatDoor
namespace Go.Proofs.YtgmaamnofhmecaaGreatDoor
open Go.RowKit
set_option linter.unusedVariables false
def fineS (s : ByteArray) : Prop := pureS s ∧ okV s ∧ 1 ≤ s.size ∧ s.size ≤ 24
def fineT (fs : List NodeD) : Prop := ∀ d ∈ fs, (∀ s ∈ d.subs, fineS s) ∧ okV d.val
theorem fine_clean {fs : List NodeD} (h : fineT fs) : cleanT fs := fun d hd => ⟨fun s hs => ((h d hd).1 s hs).1, (h d hd).2⟩
theorem fine_nil : fineT [] := fun d hd => by cases hd
theorem fine_put {fs : List NodeD} {nm : ByteArray} {ss : List ByteArray} {v : ByteArray} (h : fineT fs) (hs : ∀ s ∈ ss, fineS s) (hv : okV v) : fineT (putB fs nm ss v).2 := by
 unfold putB
 split
 · exact fun d hd => by cases hd
 · intro d hd
   have hd : d ∈ putN fs nm ss v := hd
   unfold putN at hd
   rcases List.mem_append.1 hd with h1 | h1
   · exact h d (List.mem_of_mem_take h1)
   · rcases List.mem_cons.1 h1 with h2 | h2
     · subst h2; exact ⟨hs, hv⟩
     · exact h d (List.mem_of_mem_drop h2)
theorem fine_kill {fs : List NodeD} {nm : ByteArray} {ss : List ByteArray} (h : fineT fs) : fineT (killB fs nm ss) := fun d hd => h d (List.mem_filter.1 hd).1
theorem fine_do {fs : List NodeD} {e : EvD} (h : fineT fs) (hs : ∀ s ∈ e.subs, fineS s) (hv : okV e.val) : fineT (doB fs (chgOf e)).2 := by
 unfold doB
 split
 · exact fine_put h hs hv
 · exact fine_kill h
theorem fine_doOne {fs : List NodeD} {e : EvD} (h : fineT fs) (hs : ∀ s ∈ e.subs, fineS s) (hv : okV e.val) : fineT (doOneB fs (chgOf e)).2 := by
 unfold doOneB
 split
 · exact fine_do h hs hv
 · exact fine_nil
theorem putNode_fine {fs : List NodeD} {nm : ByteArray} {ss : List ByteArray} {v : ByteArray} (h : fineT fs) (hs : ∀ s ∈ ss, fineS s) (hv : okV v) : fineT (putNodeB fs nm ss v).2 := by
 unfold putNodeB
 split
 · exact fine_put h hs hv
 · exact fine_nil
theorem okV_head {v : ByteArray} {c : UInt8} {r : List UInt8} (h : v.data.toList = c :: r) (h1 : c ≠ 1) (h2 : c ≠ 2) : okV v := .inr ⟨c, r, h, h1, h2⟩
instance (s : ByteArray) : Decidable (pureS s) := inferInstanceAs (Decidable ((0 : UInt8) ∉ s.data.toList))
theorem okV_list : ∀ s ∈ ([⟨#[]⟩, ⟨#[49]⟩, ⟨#[116, 119, 111]⟩, ⟨#[51, 46, 53]⟩] : List ByteArray), s.size ≤ 16 ∧ okV s := by
 intro s hs
 simp only [List.mem_cons, List.not_mem_nil, or_false] at hs
 rcases hs with rfl | rfl | rfl | rfl
 · exact ⟨by decide, okV_nil⟩
 · exact ⟨by decide, okV_head (c := 49) rfl (by decide) (by decide)⟩
 · exact ⟨by decide, okV_head (c := 116) rfl (by decide) (by decide)⟩
 · exact ⟨by decide, okV_head (c := 51) rfl (by decide) (by decide)⟩
theorem okV_set : ∀ s ∈ ([⟨#[]⟩, ⟨#[55]⟩, ⟨#[110, 101, 119]⟩, ⟨#[52]⟩] : List ByteArray), s.size ≤ 16 ∧ okV s := by
 intro s hs
 simp only [List.mem_cons, List.not_mem_nil, or_false] at hs
 rcases hs with rfl | rfl | rfl | rfl
 · exact ⟨by decide, okV_nil⟩
 · exact ⟨by decide, okV_head (c := 55) rfl (by decide) (by decide)⟩
 · exact ⟨by decide, okV_head (c := 110) rfl (by decide) (by decide)⟩
 · exact ⟨by decide, okV_head (c := 52) rfl (by decide) (by decide)⟩
theorem fine_list : ∀ s ∈ ([⟨#[49]⟩, ⟨#[50]⟩, ⟨#[49, 48]⟩, ⟨#[120]⟩, ⟨#[45, 51]⟩, ⟨#[98]⟩] : List ByteArray), fineS s := by
 intro s hs
 simp only [List.mem_cons, List.not_mem_nil, or_false] at hs
 rcases hs with rfl | rfl | rfl | rfl | rfl | rfl
 · exact ⟨by decide, okV_head (c := 49) rfl (by decide) (by decide), by decide, by decide⟩
 · exact ⟨by decide, okV_head (c := 50) rfl (by decide) (by decide), by decide, by decide⟩
 · exact ⟨by decide, okV_head (c := 49) rfl (by decide) (by decide), by decide, by decide⟩
 · exact ⟨by decide, okV_head (c := 120) rfl (by decide) (by decide), by decide, by decide⟩
 · exact ⟨by decide, okV_head (c := 45) rfl (by decide) (by decide), by decide, by decide⟩
 · exact ⟨by decide, okV_head (c := 98) rfl (by decide) (by decide), by decide, by decide⟩
theorem fine_app {ss : List ByteArray} {t : ByteArray} (h : ∀ s ∈ ss, fineS s) (ht : fineS t) : ∀ s ∈ ss ++ [t], fineS s := fun s hs => by
 rcases List.mem_append.1 hs with h1 | h1
 · exact h s h1
 · rw [List.mem_singleton] at h1; subst h1; exact ht
structure RawE (d : EvD) : Prop where
 nm : d.name.size ≤ 16
 nb : nameB d.name = true
 len : d.subs.length ≤ 3
 pure : ∀ s ∈ d.subs, pureS s ∧ s.size ≤ 24
theorem RawE.small {d : EvD} (h : RawE d) (hv : d.val.size ≤ 1048576) : d.small := ⟨by have := h.nm; omega, ⟨by have := h.len; omega, fun s hs => by have := (h.pure s hs).2; omega⟩, hv⟩
def goodE (d : EvD) : Prop := okE d ∧ cleanE d
theorem RawE.good {d : EvD} (h : RawE d) (hv : d.val.size ≤ 1048576) (ho : okV d.val) : goodE d := ⟨⟨h.small hv, ho⟩, fun s hs => (h.pure s hs).1, ho⟩
theorem subE_lenD (s : ByteArray) : (subE s).length ≤ s.size + 9 := by
 unfold subE
 split
 · rw [List.length_cons, be8_len]; omega
 · rw [List.length_cons, List.length_append]
   have : s.data.toList.length = s.size := rfl
   simp only [List.length_cons, List.length_nil]
   omega
theorem flat_bdD : ∀ (ss : List ByteArray) (m : Nat), (∀ s ∈ ss, s.size ≤ m) → (ss.flatMap subE).length ≤ ss.length * (m + 9)
 | [], m, _ => by simp
 | s :: r, m, h => by
   have h1 := flat_bdD r m (fun t ht => h t (List.mem_cons_of_mem _ ht))
   have h2 := subE_lenD s
   have h3 := h s (by simp)
   rw [List.flatMap_cons, List.length_append, List.length_cons, Nat.add_mul, Nat.one_mul]
   omega
theorem putE_small {ss : List ByteArray} (h : ss.length ≤ 4) (hs : ∀ s ∈ ss, s.size ≤ 24) : (putE ss).size ≤ 1048576 := by
 have h1 := flat_bdD ss 24 hs
 have h2 : (putE ss).size = (ss.flatMap subE).length := by
  have : (putE ss).size = (putE ss).data.toList.length := rfl
  rw [this, putE_list]
 rw [h2]
 have h3 : ss.length * (24 + 9) ≤ 4 * 33 := Nat.mul_le_mul_right _ h
 omega
def goodV (v : ByteArray) : Prop := okV v ∧ v.size ≤ 1048576
theorem goodV_nil : goodV ⟨#[]⟩ := ⟨okV_nil, by decide⟩
theorem getD_memN {fs : List NodeD} (k : Nat) : fs.getD k default ∈ fs ∨ fs.getD k default = default := by
 rw [List.getD_eq_getElem?_getD]
 by_cases h : k < fs.length
 · rw [List.getElem?_eq_getElem h]; exact .inl (List.getElem_mem h)
 · rw [List.getElem?_eq_none (by omega)]; exact .inr rfl
theorem node_good {fs : List NodeD} (ht : treeB fs = true) (hf : fineT fs) {d : NodeD} (h : d ∈ fs) : goodV d.val ∧ subsB d.subs = true ∧ ∀ s ∈ d.subs, fineS s := by
 have h1 := (tree_small ht).2 d h
 have h2 := (tree_iff.1 ht).2.1 d h
 unfold nodeB thingB at h2
 simp only [Bool.and_eq_true, decide_eq_true_eq] at h2
 exact ⟨⟨(hf d h).2, h1.2.2⟩, h2.1.2, (hf d h).1⟩
theorem get_good {fs : List NodeD} (ht : treeB fs = true) (hf : fineT fs) (nm : ByteArray) (ss : List ByteArray) : goodV (getF fs nm ss) := by
 unfold getF
 split
 · rcases getD_memN (fs := fs) (atN fs nm ss) with h | h
   · exact (node_good ht hf h).1
   · rw [h]; exact goodV_nil
 · exact goodV_nil
theorem sub_good {ss : List ByteArray} (h : ∀ s ∈ ss, fineS s) (k : Nat) : goodV (ss.getD k ByteArray.empty) := by
 rw [List.getD_eq_getElem?_getD]
 by_cases hk : k < ss.length
 · rw [List.getElem?_eq_getElem hk]
   have := h _ (List.getElem_mem hk)
   exact ⟨this.2.1, by have := this.2.2.2; show ss[k].size ≤ _; omega⟩
 · rw [List.getElem?_eq_none (by omega)]; exact goodV_nil
theorem ordN_good {nm : ByteArray} {ss : List ByteArray} {back : Bool} {d : NodeD} {best : ByteArray} (hd : ∀ s ∈ d.subs, fineS s) (hb : goodV best) : goodV (ordN nm ss back d best) := by
 unfold ordN
 split
 · generalize (if back = true then (decide (lastS ss = ⟨#[]⟩) || beforeB (d.subs.getD (ss.length - 1) ByteArray.empty) (lastS ss)) && (decide (best = ⟨#[]⟩) || beforeB best (d.subs.getD (ss.length - 1) ByteArray.empty)) else (decide (lastS ss = ⟨#[]⟩) || beforeB (lastS ss) (d.subs.getD (ss.length - 1) ByteArray.empty)) && (decide (best = ⟨#[]⟩) || beforeB (d.subs.getD (ss.length - 1) ByteArray.empty) best)) = c
   cases c
   · exact hb
   · exact sub_good hd _
 · exact hb
theorem ord_fold {nm : ByteArray} {ss : List ByteArray} {back : Bool} : ∀ (l : List NodeD) (best : ByteArray), (∀ d ∈ l, ∀ s ∈ d.subs, fineS s) → goodV best → goodV (l.foldl (fun best d => ordN nm ss back d best) best)
 | [], best, _, hb => hb
 | d :: r, best, h, hb => ord_fold r _ (fun x hx => h x (List.mem_cons_of_mem _ hx)) (ordN_good (h d (by simp)) hb)
theorem qry_good {fs : List NodeD} (ht : treeB fs = true) (hf : fineT fs) (nm : ByteArray) (ss : List ByteArray) : goodV (qryV nm ss fs) := by
 unfold qryV
 split
 · rcases getD_memN (fs := fs) (qryI nm ss fs).toNat with h | h
   · obtain ⟨_, h2, h3⟩ := node_good ht hf h
     have h4 := h2
     unfold subsB at h4
     rw [Bool.and_eq_true, decide_eq_true_eq] at h4
     exact ⟨.inl ⟨_, h2, fun s hs => (h3 s hs).1, rfl⟩, putE_small h4.1 (fun s hs => (h3 s hs).2.2.2)⟩
   · rw [h]; exact ⟨.inl ⟨[], by decide, (fun s hs => by cases hs), rfl⟩, by decide⟩
 · exact goodV_nil
theorem again_good {fs : List NodeD} (ht : treeB fs = true) (hf : fineT fs) {d : EvD} (h : RawE d) (hv : goodV d.val) : goodE (againB fs d) := by
 unfold againB
 split
 · have := get_good ht hf d.name d.subs
   exact RawE.good ⟨h.nm, h.nb, h.len, h.pure⟩ this.2 this.1
 · split
   · exact RawE.good ⟨h.nm, h.nb, h.len, h.pure⟩ hv.2 hv.1
   · split
     · have : goodV (ordF d.name d.subs (decide (d.n < 0)) fs) := ord_fold fs _ (fun x hx => (hf x hx).1) goodV_nil
       exact RawE.good ⟨h.nm, h.nb, h.len, h.pure⟩ this.2 this.1
     · have := qry_good ht hf d.name d.subs
       exact RawE.good ⟨h.nm, h.nb, h.len, h.pure⟩ this.2 this.1
theorem where_raw {d : EvD} (h : RawE d) (hs : ∀ s ∈ d.subs, 1 ≤ s.size) : d.kind ≠ 5 → whereB d = true := fun hk => by
 unfold whereB
 rw [if_neg hk, h.nb, Bool.true_and]
 unfold subsB
 rw [Bool.and_eq_true, decide_eq_true_eq, List.all_eq_true]
 refine ⟨by have := h.len; omega, fun s hs' => ?_⟩
 unfold subB
 rw [Bool.and_eq_true, decide_eq_true_eq, decide_eq_true_eq]
 exact ⟨hs s hs', (h.pure s hs').2⟩
theorem subs_fine {ss : List ByteArray} (h : ∀ s ∈ ss, fineS s) (hl : ss.length ≤ 4) : subsB ss = true := by
 unfold subsB
 rw [Bool.and_eq_true, decide_eq_true_eq, List.all_eq_true]
 refine ⟨hl, fun s hs => ?_⟩
 unfold subB
 rw [Bool.and_eq_true, decide_eq_true_eq, decide_eq_true_eq]
 exact ⟨(h s hs).2.2.1, (h s hs).2.2.2⟩
theorem level_fine {ss : List ByteArray} (h : ∀ s ∈ ss, fineS s) (h0 : 0 < ss.length) (hl : ss.length ≤ 3) : levelB ss = true := by
 unfold levelB
 rw [decide_eq_true h0, decide_eq_true (show ss.length ≤ 4 by omega), subs_fine (fun s hs => h s (List.mem_of_mem_take hs)) (by rw [List.length_take]; omega)]
 have : subB (lastS ss) = true := by
  unfold lastS
  rw [List.getD_eq_getElem?_getD, List.getElem?_eq_getElem (by omega), Option.getD_some]
  have h1 := h _ (List.getElem_mem (show ss.length - 1 < ss.length by omega))
  unfold subB
  rw [decide_eq_true h1.2.2.1, decide_eq_true h1.2.2.2]
  rfl
 rw [this, Bool.or_true]
 rfl
theorem level_open {ss : List ByteArray} (h : ∀ s ∈ ss, fineS s) (hl : ss.length ≤ 2) : levelB (ss ++ [⟨#[]⟩]) = true := by
 unfold levelB
 have e1 : (ss ++ [(⟨#[]⟩ : ByteArray)]).length = ss.length + 1 := by simp
 have e2 : lastS (ss ++ [⟨#[]⟩]) = ⟨#[]⟩ := by
  unfold lastS
  rw [e1, Nat.add_sub_cancel, List.getD_eq_getElem?_getD, List.getElem?_append_right (Nat.le_refl _), Nat.sub_self]
  rfl
 rw [e2, e1, Nat.add_sub_cancel, List.take_left, subs_fine h (by omega), decide_eq_true (show 0 < ss.length + 1 by omega), decide_eq_true (show ss.length + 1 ≤ 4 by omega)]
 simp
theorem raw_of {k n : Int} {nm : ByteArray} {ss : List ByteArray} {v : ByteArray} (hn : nm.size ≤ 16) (hb : nameB nm = true) (hl : ss.length ≤ 3) (h : ∀ s ∈ ss, fineS s) : RawE ⟨k, nm, ss, v, n⟩ := ⟨hn, hb, hl, fun s hs => ⟨(h s hs).1, (h s hs).2.2.2⟩⟩
theorem raw_open {k n : Int} {nm : ByteArray} {ss : List ByteArray} {v : ByteArray} (hn : nm.size ≤ 16) (hb : nameB nm = true) (hl : ss.length ≤ 2) (h : ∀ s ∈ ss, fineS s) : RawE ⟨k, nm, ss ++ [⟨#[]⟩], v, n⟩ := ⟨hn, hb, by simp; omega, fun s hs => by
 rcases List.mem_append.1 hs with h1 | h1
 · exact ⟨(h s h1).1, (h s h1).2.2.2⟩
 · rw [List.mem_singleton] at h1; subst h1; exact ⟨by decide, by decide⟩⟩
end Go.Proofs.YtgmaamnofhmecaaGreatDoor
