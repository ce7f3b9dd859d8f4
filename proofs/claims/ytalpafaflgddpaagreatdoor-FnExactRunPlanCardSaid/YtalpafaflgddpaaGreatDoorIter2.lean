/-
  slices.Sorted(slices.Values(names)) and slices.Compact at strings; distinct of the program.
-/
import Derived.Test.YtalpafaflgddpaaGreatDoorIter
import Derived.Shelf.SlIter.Collect
namespace Go.Proofs.YtalpafaflgddpaaGreatDoor
open Go.RowKit Go.Shelf Go.Proofs.YtalpafaflgddpaaGreatDoor.Own

attribute [local go_sem] Oper.semAt_some

set_option maxRecDepth 100000 in
set_option maxHeartbeats 4000000 in
theorem AppendSeq_in (F : Fence) (n : Nat) (h0 : F.fn 200) (h7 : F.fn 178) (hro : F.round = none) (hn : 3 ≤ n) (Bv len cap : Nat) (A : Option Addr) (ss : List ByteArray) (hreach : len ≤ 1048576) (w : World) (hBv : Bv < w.heap.size)
    (hc : w.cell? ⟨Bv, 0, none⟩ = some (.slice A len cap)) (hI : Strs w w.heap.size A len ss) :
    CallsIn F n Tryz.prog 200 #[.slice none 0 0, .func (.func 178) #[] #[.pointer (some ⟨Bv, 0, none⟩)]] w fun e w' => ∃ v, e = .returned v ∧ w'.ownsRow w.heap.size 9 1 v ss.length (ss.map Value.string) ∧ Below w.heap.size w w' := by
  have h1 : 1 ≤ n := by omega
  have hlen : ss.length = len := hI.1
  obtain ⟨i0, hi, hz0, hz1, hz2⟩ := info_parts infoS
  have hB0 : Below w.heap.size w (w.alloc (.cells #[.slice none 0 0] 25)) := (Below.refl _ w).alloc (Nat.le_refl _) _
  have hst := values_stops F (n - 1) h7 hro (by omega) Bv w.heap.size len cap A ss hreach (w.alloc (.cells #[.slice none 0 0] 25)) (by simp; omega) (by simp) ((hB0.cell (p := ⟨Bv, 0, none⟩) hBv).trans hc) (hI.below hB0)
  refine callsIn_of_wp_marks Tryz.func200 rfl h0 ?_ hro
  simp only [Tryz.ntmps200, List.size_toArray, List.length_cons, List.length_nil, Nat.reduceAdd, Nat.reduceSub, Array.replicate_succ, Array.replicate_zero, List.push_toArray, List.append_toArray, List.nil_append, List.cons_append]
  have HST := Lib.hid hst
  have HI := Lib.hid hI
  clear hst hI hc
  gi_wp2
  refine wpIn_rangeFunc_ownG hro h1 (gf := 178) (lb := #[.pointer (some ⟨Bv, 0, none⟩)]) rfl h7 (enters_of Tryz.func178 (by kernel_rfl) rfl)
    HST.out belowK_t (belowK_b (by simp)) (Below.refl _ _) (fun _ => rfl)
    (fun pre W => ApI w w.heap.size pre W ∧ Below w.heap.size w W)
    (fun _ _ _ => False)
    (OwnFrom.and (ApI.own w w.heap.size _) (ownFrom_below (Nat.le_refl _) (by simp)))
    (fun _ _ _ _ _ hs _ _ => hs)
    ⟨⟨.slice none 0 0, World.alloc_heap_new w _, ⟨rfl, .inl ⟨rfl, rfl⟩⟩⟩, hB0⟩
    (fun x => { tmps := #[.slice none 0 0, .func (.func 178) #[] #[.pointer (some ⟨Bv, 0, none⟩)], .pointer (some ⟨w.heap.size, 0, none⟩), undef, .slice none 0 0, .string x, .func (.func 178) #[] #[.pointer (some ⟨Bv, 0, none⟩)], .string x, undef, undef, undef, undef, undef], defers := [] }) ?assign ?body ?done ?stop
  case assign =>
    intro l x W K hK
    gi_wp2
    exact hK
  case body =>
    rintro l pre x W ⟨⟨v, hv, hrow⟩, hB⟩ hpl
    have hne : (25 : Nat) ≠ 9 := by decide
    obtain ⟨hc2, hf2⟩ := cell_of_box_a hv
    have hBlt : w.heap.size < W.heap.size := (Array.getElem?_eq_some_iff.1 hv).1
    have ne_of : ∀ {j : Nat} {o : Obj}, W.heap[j]? = some o → (∀ cur, o ≠ .cells cur 9 (0, 0)) → some j ≠ v.ownBlock := fun hj hno => by
      rcases ownsRow_ne_a hrow hj hno with e | e
      · rw [e]; simp
      · exact fun e' => e e'.symm
    gi_wp2_with (first
      | (gi_at_builtin; refine wpListIn_append_own _ rfl _ _ 25 rfl w.heap.size 9 i0 (.string .empty) 1 16 Tryz.underlying25 hi hz0 hz1 hz2 rfl (by decide) _ _ _ rfl (hrow.alloc _) ⟨W.heap.size, 0, none⟩ 1 1 [.string x] rfl rfl (cell_one_new _ _ _) (by simp [Value.oneCell']) (by unfold maxLen; omega) (by omega) (by have := hB.size; simp; omega) ?_; intro v' w3 hown' hg3 hnil3
         have hv3 : w3.heap[w.heap.size]? = some (.cells #[v] 25 (0, 0)) := (hg3.block w.heap.size (by simp; omega) (ne_of hv (fun cur e => by first | cases e | exact hne (Obj.cells.inj e).2.1))).trans ((Below.heap_alloc _ _ w.heap.size hBlt).trans hv)
         obtain ⟨hc3, hf3⟩ := cell_of_box_a hv3
         obtain ⟨g', cap', cur', rfl, hbase', hgb', hr1, hr2, hr3, hr4⟩ : ∃ g' cap' cur', v' = .slice (some ⟨g', 0, none⟩) (pre.length + 1) cap' ∧ w.heap.size ≤ g' ∧ w3.heap[g']? = some (.cells cur' 9 (0, 0)) ∧ pre.length + 1 ≤ cap' ∧ cap' ≤ maxLen ∧ cur'.size = cap' * 1 ∧ cur'.toList.take ((pre.length + 1) * 1) = pre.map Value.string ++ [.string x] := by
           rcases hown'.2 with ⟨_, h0⟩ | h'
           · exact absurd h0 (by omega)
           · exact h'
         go_frame)
      | gi_in)
    have hg3' : (W.alloc (.cells #[.string x] 9)).grownBy w3 v.ownBlock := hg3
    have hb3 : Below w.heap.size W w3 := ((Below.refl _ W).alloc (by omega) _).grown hg3' (by simp; omega) (fun k e => (hrow.lt k e).1)
    have hrow4 := hown'.kept (grownBy_setCell0_a w3 w.heap.size (.slice (some ⟨g', 0, none⟩) (pre.length + 1) cap')) (ownsRow_ne_a hown' hv3 (fun cur e => by first | cases e | exact hne (Obj.cells.inj e).2.1))
    have hks : KeepsOthers W w3 := (KeepsOthers.alloc _ _).trans (KeepsOthers.of_grownBy hg3' (fun j o hj ho => by
      rcases (hrow.alloc (.cells #[.string x] 9)).2 with ⟨rfl, _⟩ | ⟨g, cap, cur, rfl, _, hgb, _⟩
      · simp [Value.ownBlock] at hj
      · have : g = j := by simpa [Value.ownBlock] using hj
        subst this; rw [hgb] at ho; cases ho; rfl))
    refine ⟨(hks.trans (KeepsOthers.setCell _ _ _)).from _, hb3.setCell (p := ⟨w.heap.size, 0, none⟩) (Nat.le_refl _) _, ⟨_, heap_setCell_box_a _ hv3, ?_⟩, (hB.trans hb3).setCell (p := ⟨w.heap.size, 0, none⟩) (Nat.le_refl _) _⟩
    simpa using hrow4
  case done =>
    rintro D ys W hD rfl ⟨⟨v, hv, hrow⟩, hB⟩ hK
    obtain ⟨hc2, hf2⟩ := cell_of_box_a hv
    gi_wp2
    refine ⟨by simp, .inl ⟨_, _, rfl, run_takeDeferred hK, ?_⟩⟩
    exact ⟨_, results_tmp rfl _ _ _, v, rfl, hrow.kept (grownBy_putObj_a _ _ _) (ownsRow_ne_a hrow hK (fun cur e => by cases e)), hB.trans (belowK_b (w := w) (Nat.le_refl _) W D _ _ (by simp at hD; omega) hK rfl rfl)⟩
  case stop =>
    rintro D c pre W _ _ h _
    exact h.elim

set_option maxHeartbeats 1000000 in
theorem Collect_in (F : Fence) (n : Nat) (hF : F = Fence.wide) (hro : F.round = none) (hn : 4 ≤ n) (Bv len cap : Nat) (A : Option Addr) (ss : List ByteArray) (hreach : len ≤ 1048576) (w : World) (hBv : Bv < w.heap.size)
    (hc : w.cell? ⟨Bv, 0, none⟩ = some (.slice A len cap)) (hI : Strs w w.heap.size A len ss) :
    CallsIn F n Tryz.prog 176 #[.func (.func 178) #[] #[.pointer (some ⟨Bv, 0, none⟩)]] w fun e w' => ∃ v, e = .returned v ∧ w'.ownsRow w.heap.size 9 1 v ss.length (ss.map Value.string) ∧ Below w.heap.size w w' := by
  subst hF
  have hA := AppendSeq_in Fence.wide (n - 1) trivial trivial hro (by omega) Bv len cap A ss hreach w hBv hc hI
  have hfA : Fence.wide.fn 200 := trivial
  have h1 : 1 ≤ n := by omega
  clear hI hc
  refine callsIn_of_wp Tryz.func176 rfl trivial ?_ hro
  simp only [Tryz.ntmps176, List.size_toArray, List.length_cons, List.length_nil, Nat.reduceAdd, Nat.reduceSub, Array.replicate_succ, Array.replicate_zero, List.push_toArray, List.append_toArray, List.nil_append, List.cons_append]
  gi_wp2_with (gi_at_call 200; refine hA.mono ?_; rintro e w' ⟨v, rfl, hrow, hb⟩)
  go_ret
  exact ⟨v, rfl, hrow, hb⟩
end Go.Proofs.YtalpafaflgddpaaGreatDoor
