import Derived.Test.YtlicffeicmoifaaGreatDoorZ35
import Derived.Test.YtlicffeicmoifaaGreatDoorZ19
import Derived.Laws.CopyOwn
import Derived.Laws.Externs
import Derived.Lib.AppendZerosOnto
import Derived.Lib.JoinLaws
import Derived.Lib.Overlaps
set_option linter.unusedSimpArgs false
namespace Go.Proofs.YtlicffeicmoifaaGreatDoor
open Go.RowKit
set_option linter.unusedVariables false
theorem run_copy_rowI {P : Program} (w : World) (dT sT ty elem : TypeId) (size g o dLen dCap : Nat) (a : Addr) (sLen sCap : Nat) (cur : Array Value) (t : TypeId) (cs : List Value)
 (hu : P.underlying dT = some (.slice elem)) (hs : (P.info? elem).map (·.size) = some size)
 (hg : w.heap[g]? = some (.cells cur t (0, 0))) (k : Nat) (hk : Nat.min sLen dLen = k) (hn : cs.length = k * size)
 (hsrc : ∀ j v, cs[j]? = some v → w.cell? (a.add j) = some v) (hfit : o + cs.length ≤ cur.size) (h1 : ∀ v ∈ cs, v.oneCell' = true) :
 (Builtin.copy_ #[dT, sT] ty #[.slice (some ⟨g, o, none⟩) dLen dCap, .slice (some a) sLen sCap]).run P w =
   .ok (goInt k) (w.setRow g (cur.toList.take o ++ cs ++ cur.toList.drop (o + cs.length)).toArray) := by
 have hl := run_loadCells_list (P := P) w a cs hsrc
 have hst := run_storeCells_at P g o t cs 0 cur w hg (by simpa using hfit) h1
 cases hq : P.info? elem with
 | none => simp [hq] at hs
 | some i =>
   have hi : i.size = size := by simpa [hq] using hs
   simp [Builtin.copy_, run_underlying hu, Builtin.lenOf, Builtin.firstCells, sizeOf, typeInfo, hq, hi, hk, ← hn, hl, hst]
theorem szNodeI : (Tryz.prog.info? 89).map (·.size) = some 3 := by kernel_rfl
theorem sizeNodeI (w : World) : (Go.sizeOf 89).run Tryz.prog w = .ok 3 w := by kernel_rfl
def InsNPost (base i : Nat) (n : Nat) (v : Value) (xs ys : List Value) (w : World) (e : Ending) (w' : World) : Prop :=
 ∃ v', e = .returned v' ∧ w'.ownsRow base 89 3 v' (n + 1) (xs.take (i * 3) ++ ys ++ xs.drop (i * 3)) ∧ w.grownBy w' v.ownBlock
set_option maxRecDepth 100000 in
set_option maxHeartbeats 1000000 in
theorem InsertN_end (base : Nat) (v : Value) (n : Nat) (xs : List Value) (vb : Nat) (y0 y1 y2 : Value) (w : World) (h : w.ownsRow base 89 3 v n xs) (hn : n ≤ 1048576) (hb : base ≤ w.heap.size)
 (hv : Blk w vb 89 #[y0, y1, y2]) (h1 : ∀ u ∈ [y0, y1, y2], u.oneCell' = true) :
 Calls Tryz.prog 229 #[v, .int .i64 n, .slice (some ⟨vb, 0, none⟩) 1 1] w (InsNPost base n n v xs [y0, y1, y2] w) := by
 obtain ⟨i0, hi, hz0, hz1, hz2⟩ := info_parts infoNodeD
 have HO := Lib.hid h
 have HV := Lib.hid hv
 have H1 := Lib.hid h1
 have HL : Hid (xs.length = n * 3) := h.1
 have HC : Hid (∀ j u, [y0, y1, y2][j]? = some u → w.cell? ((⟨vb, 0, none⟩ : Addr).add j) = some u) := fun j u hu => by
  have h2 := HV.out.cell j
  have h3 : (#[y0, y1, y2] : Array Value)[j]? = some u := by rw [← Array.getElem?_toList]; exact hu
  unfold Addr.add
  split
  · rename_i h0; subst h0; rw [h2, h3]
  · rw [show (⟨vb, 0 + j, none⟩ : Addr) = ⟨vb, j, none⟩ from by simp, h2, h3]
 have HX : Hid (xs.take (n * 3) ++ [y0, y1, y2] ++ xs.drop (n * 3) = xs ++ [y0, y1, y2]) := by
  unfold Hid
  rw [List.take_of_length_le (by rw [HL.out]; omega), List.drop_of_length_le (by rw [HL.out]; omega), List.append_nil]
 have hcases := h.2
 clear h hv h1
 rcases hcases with ⟨rfl, rfl⟩ | ⟨g, cap, cur, rfl, hx1, hx2, hcap, hcm, hx3⟩
 · go_enter Tryz.func229, Tryz.ntmps229
   go_wp2_with (at_builtin; refine wpList_append_own _ rfl (.tmp 23) (.tmp 24) 24 rfl base 89 i0 _ 3 56 Tryz.underlying24 hi hz0 hz1 hz2 rfl (by decide) _ 0 _ rfl HO.out ⟨vb, 0, none⟩ 1 1 [y0, y1, y2] rfl rfl HC.out H1.out (by unfold maxLen; omega) (by omega) hb ?_)
   intro v1 w1 hown hg _
   have HO1 := Lib.hid hown
   have HG := Lib.hid hg
   clear hown hg
   go_wp2_with fail
   go_ret
   exact ⟨_, rfl, by rw [HX.out]; exact HO1.out, HG.out⟩
 · unfold maxLen at hcm
   clear hx1 hx2 hx3
   by_cases hcn : cap = n
   · subst hcn
     go_enter Tryz.func229, Tryz.ntmps229
     go_wp2_with (at_builtin; refine wpList_append_own _ rfl (.tmp 23) (.tmp 24) 24 rfl base 89 i0 _ 3 56 Tryz.underlying24 hi hz0 hz1 hz2 rfl (by decide) _ _ _ rfl HO.out ⟨vb, 0, none⟩ 1 1 [y0, y1, y2] rfl rfl HC.out H1.out (by unfold maxLen; omega) (by omega) hb ?_)
     intro v1 w1 hown hg _
     have HO1 := Lib.hid hown
     have HG := Lib.hid hg
     clear hown hg
     go_wp2_with fail
     go_ret
     exact ⟨_, rfl, by rw [HX.out]; exact HO1.out, HG.out⟩
   · go_enter Tryz.func229, Tryz.ntmps229
     go_wp2_with (at_builtin; refine wpList_append_own _ rfl (.tmp 23) (.tmp 24) 24 rfl base 89 i0 _ 3 56 Tryz.underlying24 hi hz0 hz1 hz2 rfl (by decide) _ n _ rfl HO.out ⟨vb, 0, none⟩ 1 1 [y0, y1, y2] rfl rfl HC.out H1.out (by unfold maxLen; omega) (by omega) hb ?_)
     intro v1 w1 hown hg _
     have HO1 := Lib.hid hown
     have HG := Lib.hid hg
     clear hown hg
     go_wp2_with fail
     go_ret
     exact ⟨_, rfl, by rw [HX.out]; exact HO1.out, HG.out⟩
theorem add_offI (g o j : Nat) : (⟨g, o, none⟩ : Addr).add j = ⟨g, o + j, none⟩ := by
 unfold Addr.add
 split
 · rename_i h0; subst h0; rfl
 · rfl
theorem Blk.shapeI {w : World} {g : Nat} {t : TypeId} {cs : Array Value} (h : Blk w g t cs) : w.shape? g = some (t, cs.size) := by
 unfold Blk at h
 simp [World.shape?, h]
theorem shiftedN (cur xs ys : List Value) (n i m : Nat) (hx : cur.take (n * 3) = xs) (hl : xs.length = n * 3) (hin : i ≤ n) (hy : ys.length = 3) (hc : cur.length = m * 3) (hm : n + 1 ≤ m) :
 ((((cur.take ((i + 1) * 3) ++ xs.drop (i * 3) ++ cur.drop ((i + 1) * 3 + (xs.drop (i * 3)).length)).take (i * 3)) ++ ys ++
   (cur.take ((i + 1) * 3) ++ xs.drop (i * 3) ++ cur.drop ((i + 1) * 3 + (xs.drop (i * 3)).length)).drop (i * 3 + ys.length))).take ((n + 1) * 3) = xs.take (i * 3) ++ ys ++ xs.drop (i * 3) := by
 have hdl : (xs.drop (i * 3)).length = n * 3 - i * 3 := by rw [List.length_drop, hl]
 have h1 : (cur.take ((i + 1) * 3)).length = (i + 1) * 3 := by rw [List.length_take, hc]; omega
 have hA : (cur.take ((i + 1) * 3) ++ xs.drop (i * 3) ++ cur.drop ((i + 1) * 3 + (xs.drop (i * 3)).length)).take (i * 3) = xs.take (i * 3) := by
  rw [List.append_assoc, List.take_append_of_le_length (by rw [h1]; omega), List.take_take, ← hx, List.take_take]
  congr 1
  omega
 have hB : (cur.take ((i + 1) * 3) ++ xs.drop (i * 3) ++ cur.drop ((i + 1) * 3 + (xs.drop (i * 3)).length)).drop (i * 3 + ys.length) = xs.drop (i * 3) ++ cur.drop ((i + 1) * 3 + (xs.drop (i * 3)).length) := by
  rw [List.append_assoc, List.drop_left' (by rw [h1, hy]; omega)]
 rw [hA, hB, ← List.append_assoc, List.take_left' (by simp only [List.length_append, List.length_take, hdl, hl, hy]; omega)]
set_option maxRecDepth 100000 in
set_option maxHeartbeats 2000000 in
theorem InsertN_shift (base : Nat) (g cap : Nat) (n i : Nat) (xs : List Value) (vb : Nat) (y0 y1 y2 : Value) (w : World) (h : w.ownsRow base 89 3 (.slice (some ⟨g, 0, none⟩) n cap) n xs) (hn : n ≤ 1048576) (hin : i < n) (hroom : n + 1 ≤ cap)
 (hx1 : ∀ u ∈ xs, u.oneCell' = true) (hv : Blk w vb 89 #[y0, y1, y2]) (hvb : vb ≠ g) (h1 : ∀ u ∈ [y0, y1, y2], u.oneCell' = true) :
 Calls Tryz.prog 229 #[.slice (some ⟨g, 0, none⟩) n cap, .int .i64 i, .slice (some ⟨vb, 0, none⟩) 1 1] w (InsNPost base i n (.slice (some ⟨g, 0, none⟩) n cap) xs [y0, y1, y2] w) := by
 obtain ⟨hlen, hor⟩ := h
 rcases hor with ⟨h0, _⟩ | ⟨g', cap', cur, he, hbase, hg, _, hcm, hcs, htk⟩
 · cases h0
 obtain ⟨rfl, rfl⟩ : g = g' ∧ cap = cap' := by simpa using he
 unfold maxLen at hcm
 have hdl : (xs.drop (i * 3)).length = (n - i) * 3 := by rw [List.length_drop, hlen]; omega
 have hgB : Blk w g 89 cur := hg
 have hov : ∀ lb cb, (callFunc 291 #[.slice (some ⟨vb, 0, none⟩) 1 1, .slice (some ⟨g, (i + 1) * 3, none⟩) lb cb]).run Tryz.prog w = .ok (.value (.bool false)) w := fun lb cb => by
  rw [run_callFunc_extern Tryz.func291 (by kernel_rfl) (by kernel_rfl) (by kernel_rfl) (e := Extern.SlicesOverlaps.overlaps #[24, 24] #[4]) (by kernel_rfl),
   Lib.run_overlaps_apart w 24 4 89 Tryz.underlying24 3 sizeNodeI ⟨vb, 0, none⟩ ⟨g, (i + 1) * 3, none⟩ 1 1 lb cb hvb _ _ _ _ hv.shapeI hgB.shapeI (by rw [hcs]; omega) (hv.frozen _) (hv.frozen _)]
  rfl
 have HROW : Hid (((((cur.toList.take ((i + 1) * 3) ++ xs.drop (i * 3) ++ cur.toList.drop ((i + 1) * 3 + (xs.drop (i * 3)).length)).take (i * 3)) ++ [y0, y1, y2] ++
  (cur.toList.take ((i + 1) * 3) ++ xs.drop (i * 3) ++ cur.toList.drop ((i + 1) * 3 + (xs.drop (i * 3)).length)).drop (i * 3 + [y0, y1, y2].length))).take ((n + 1) * 3) = xs.take (i * 3) ++ [y0, y1, y2] ++ xs.drop (i * 3)) :=
  shiftedN cur.toList xs [y0, y1, y2] n i cap htk hlen (by omega) rfl (by simpa using hcs) hroom
 obtain ⟨R1, hR1⟩ : ∃ R1 : List Value, R1 = cur.toList.take ((i + 1) * 3) ++ xs.drop (i * 3) ++ cur.toList.drop ((i + 1) * 3 + (xs.drop (i * 3)).length) := ⟨_, rfl⟩
 have hR1l : R1.length = cap * 3 := by
  rw [hR1]; simp only [List.length_append, List.length_take, List.length_drop, Array.length_toList, hcs, hlen]; omega
 rw [← hR1] at HROW
 obtain ⟨W1, hW1⟩ : ∃ W1, W1 = w.drew.setRow g R1.toArray := ⟨_, rfl⟩
 have hcp1 : ∀ ty dl dc sl sc, Nat.min sl dl = n - i → (Builtin.copy_ #[24, 24] ty #[.slice (some ⟨g, (i + 1) * 3, none⟩) dl dc, .slice (some ⟨g, i * 3, none⟩) sl sc]).run Tryz.prog w.drew = .ok (goInt (n - i : Nat)) W1 := fun ty dl dc sl sc hk => by
  have h2 := run_copy_rowI (P := Tryz.prog) w.drew 24 24 ty 89 3 g ((i + 1) * 3) dl dc ⟨g, i * 3, none⟩ sl sc cur 89 (xs.drop (i * 3)) Tryz.underlying24 szNodeI hg (n - i) hk hdl
   (fun j v hj => by
     rw [add_offI]
     refine (hgB.cell _).trans ?_
     rw [List.getElem?_drop, ← htk, List.getElem?_take] at hj
     split at hj
     · simpa using hj
     · cases hj)
   (by rw [hdl, hcs]; omega) (fun v hv => hx1 v (List.mem_of_mem_drop hv))
  rw [h2, hW1, hR1]
 have hcp2 : ∀ (W : World), W.heap = W1.heap → ∀ ty dl dc, Nat.min 1 dl = 1 → (Builtin.copy_ #[24, 24] ty #[.slice (some ⟨g, i * 3, none⟩) dl dc, .slice (some ⟨vb, 0, none⟩) 1 1]).run Tryz.prog W = .ok (goInt (1 : Nat)) (W.setRow g (R1.take (i * 3) ++ [y0, y1, y2] ++ R1.drop (i * 3 + [y0, y1, y2].length)).toArray) := fun W hW ty dl dc hk => by
  have hWg : W.heap[g]? = some (.cells R1.toArray 89 (0, 0)) := by rw [hW, hW1]; exact setRow_heap _ _ _ _ _ _ hg
  have h2 := run_copy_rowI (P := Tryz.prog) W 24 24 ty 89 3 g (i * 3) dl dc ⟨vb, 0, none⟩ 1 1 R1.toArray 89 [y0, y1, y2] Tryz.underlying24 szNodeI hWg 1 hk rfl
   (fun j v hj => by
     have hWv : Blk W vb 89 #[y0, y1, y2] := by
      unfold Blk
      rw [hW, hW1, setRow_other _ _ _ _ hvb]
      exact hv
     rw [add_offI, hWv.cell, ← Array.getElem?_toList]
     simpa using hj)
   (by simp only [List.size_toArray, hR1l, List.length_cons, List.length_nil]; omega) h1
  exact h2
 have HE : Hid (W1.grownBy W1 none ∧ w.grownBy W1 (some g)) := ⟨⟨rfl, rfl, rfl, Nat.le_refl _, fun _ _ _ => rfl⟩, by
  rw [hW1]
  exact ⟨rfl, rfl, rfl, by simp, fun k _ hk => (setRow_other _ _ _ _ (fun e => hk (by rw [e])))⟩⟩
 have HG1 : Hid (W1.heap[g]? = some (.cells R1.toArray 89 (0, 0))) := by unfold Hid; rw [hW1]; exact setRow_heap _ _ _ _ _ _ hg
 have HL : Hid (base ≤ g ∧ n + 1 ≤ cap ∧ cap ≤ 2 ^ 63 - 1 ∧ R1.length = cap * 3 ∧ xs.length = n * 3) := ⟨hbase, hroom, hcm, hR1l, hlen⟩
 have HC1 := Lib.hid hcp1
 have HC2 := Lib.hid hcp2
 have HOV := Lib.hid hov
 clear hx1 hv h1 hW1 hR1 hR1l hcp1 hcp2 hov hgB hg htk hcs hbase hlen hdl he
 have hz1 : ¬ ((i : Int) = (n : Int)) := by omega
 have hz1b : ((i : Int) == (n : Int)) = false := by rw [beq_eq_false_iff_ne]; omega
 have hz1c : (i == n) = false := by rw [beq_eq_false_iff_ne]; omega
 go_enter Tryz.func229, Tryz.ntmps229
 have hw1 : IntKind.i64.wrap ((i : Int) + 1) = (i : Int) + 1 := by rw [IntKind.wrap_i64]; omega
 have hb1 : (0 : Int) ≤ (i : Int) + 1 := by omega
 have htn : ((i : Int) + 1).toNat = i + 1 := by omega
 have hb2 : ¬ (cap = i + 1) := by omega
 have hb3 : (i : Int) ≤ (n : Int) + 1 := by omega
 have hb4 : ¬ (cap = i) := by omega
 have hile : i ≤ n := by omega
 go_wp2_with (simp only [HOV.out])
 have hcq := HC1.out 3 (n - i) (cap - (i + 1)) (n + 1 - i) (cap - i) (by simp only [Nat.min_def]; split <;> omega)
 go_region
 clear hcq
 have hcq2 := HC2.out W1 rfl 3 (n + 1 - i) (cap - i) (by simp only [Nat.min_def]; split <;> omega)
 go_wp2_with (simp only [hcq2])
 go_ret
 obtain ⟨hl1, hl2, hl3, hl4, hl5⟩ := HL.out
 refine ⟨_, rfl, ⟨?_, .inr ⟨g, cap, _, rfl, hl1, setRow_heap _ _ _ _ _ _ HG1.out, by omega, by unfold maxLen; exact hl3, ?_, by simpa using HROW.out⟩⟩, ?_⟩
 · simp only [List.length_append, List.length_take, List.length_drop, List.length_cons, List.length_nil, hl5]; omega
 · simp only [List.size_toArray, List.length_append, List.length_take, List.length_drop, List.length_cons, hl4]; omega
 · exact HE.out.2.trans ⟨rfl, rfl, rfl, by simp, fun k _ hk => (setRow_other _ _ _ _ (fun e => hk (by rw [e])))⟩
theorem grownRowN (xs ys Z : List Value) (n i : Nat) (hl : xs.length = n * 3) (hin : i ≤ n) (hy : ys.length = 3) :
 (((((xs.take (i * 3) ++ Z).take (i * 3) ++ ys ++ (xs.take (i * 3) ++ Z).drop (i * 3 + ys.length)).take ((i + 1) * 3)) ++ xs.drop (i * 3) ++
   ((xs.take (i * 3) ++ Z).take (i * 3) ++ ys ++ (xs.take (i * 3) ++ Z).drop (i * 3 + ys.length)).drop ((i + 1) * 3 + (xs.drop (i * 3)).length))).take ((n + 1) * 3) = xs.take (i * 3) ++ ys ++ xs.drop (i * 3) := by
 have hdl : (xs.drop (i * 3)).length = n * 3 - i * 3 := by rw [List.length_drop, hl]
 have htl : (xs.take (i * 3)).length = i * 3 := by rw [List.length_take, hl]; omega
 have hA : (xs.take (i * 3) ++ Z).take (i * 3) = xs.take (i * 3) := List.take_left' htl
 rw [hA]
 have hB : (xs.take (i * 3) ++ ys ++ (xs.take (i * 3) ++ Z).drop (i * 3 + ys.length)).take ((i + 1) * 3) = xs.take (i * 3) ++ ys := List.take_left' (by rw [List.length_append, htl, hy]; omega)
 rw [hB, List.take_left' (by simp only [List.length_append, htl, hdl, hy]; omega)]
set_option maxRecDepth 100000 in
set_option maxHeartbeats 2000000 in
theorem InsertN_grow (base : Nat) (g cap : Nat) (n i : Nat) (xs : List Value) (vb : Nat) (y0 y1 y2 : Value) (w : World) (h : w.ownsRow base 89 3 (.slice (some ⟨g, 0, none⟩) n cap) n xs) (hn : n ≤ 1048576) (hin : i < n) (hroom : ¬ n + 1 ≤ cap) (hbw : base ≤ w.heap.size)
 (hx1 : ∀ u ∈ xs, u.oneCell' = true) (hv : Blk w vb 89 #[y0, y1, y2]) (h1 : ∀ u ∈ [y0, y1, y2], u.oneCell' = true) :
 Calls Tryz.prog 229 #[.slice (some ⟨g, 0, none⟩) n cap, .int .i64 i, .slice (some ⟨vb, 0, none⟩) 1 1] w (InsNPost base i n (.slice (some ⟨g, 0, none⟩) n cap) xs [y0, y1, y2] w) := by
 obtain ⟨hlen, hor⟩ := h
 rcases hor with ⟨h0, _⟩ | ⟨g', cap', cur, he, hbase, hg, hle, hcm, hcs, htk⟩
 · cases h0
 obtain ⟨rfl, rfl⟩ : g = g' ∧ cap = cap' := by simpa using he
 have hcn : n = cap := by omega
 subst hcn
 obtain ⟨i0, hi0, hz0, hzs, hzb⟩ := info_parts infoNodeD
 have hdl : (xs.drop (i * 3)).length = (n - i) * 3 := by rw [List.length_drop, hlen]; omega
 have hgB : Blk w g 89 cur := hg
 have hgc : ∀ j u, xs[j]? = some u → w.cell? ⟨g, j, none⟩ = some u := fun j u hu => by
  rw [hgB.cell]
  rw [← htk, List.getElem?_take] at hu
  split at hu
  · simpa using hu
  · cases hu
 have hold : (Builtin.firstCells i0.size i (.slice (some ⟨g, 0, none⟩) i n)).run Tryz.prog w.drew = .ok (xs.take (i * 3)).toArray w.drew := by
  rw [hzs]
  exact run_firstCells_some w.drew 3 i ⟨g, 0, none⟩ i n (xs.take (i * 3)) (by rw [List.length_take]; omega) (fun j v hj => by
   rw [add_offI]
   rw [List.getElem?_take] at hj
   split at hj
   · simpa using hgc j v hj
   · cases hj)
 have hik : i + (n + 1 - i) = n + 1 := by omega
 obtain ⟨G, hG⟩ : ∃ G, G = grownCap w (n + 1) n 89 := ⟨_, rfl⟩
 have hGn : n + 1 ≤ G := by rw [hG]; exact grownCap_ge w _ _ _
 have hG63 : G ≤ maxLen := by rw [hG]; exact grownCap_le_maxLen w (n + 1) n _ (by unfold maxLen; omega)
 obtain ⟨Z, hZ⟩ : ∃ Z : List Value, Z = (Builtin.zeroCells (Value.agg #[.string ByteArray.empty, .slice none 0 0, .string ByteArray.empty]).cells (n + 1 - i) ++ Builtin.zeroCells (Value.agg #[.string ByteArray.empty, .slice none 0 0, .string ByteArray.empty]).cells (G - (n + 1))).toList := ⟨_, rfl⟩
 have hrz : ∀ ty, (Builtin.append_ #[24, 3] ty #[.slice (some ⟨g, 0, none⟩) i n, .int .i64 ((n : Int) + 1 - (i : Int))]).run Tryz.prog w =
  .ok (.slice (some ⟨w.heap.size, 0, none⟩) (n + 1) G) (w.drew.alloc (.cells (xs.take (i * 3) ++ Z).toArray 89)) := fun ty => by
  have h := Lib.run_append_grow_zeros w 24 3 ty 89 i0 _ .i64 .i64 Tryz.underlying24 Tryz.underlying3 hi0 hz0 (some ⟨g, 0, none⟩) i n (xs.take (i * 3)) hold (n + 1 - i) (by omega) (by omega) (by omega) (by omega) (by rw [hzb]; omega) (by rw [hzb, hik]; exact growslice_fits (by omega) (by omega))
  rw [hik, ← hG] at h
  rw [show (n : Int) + 1 - (i : Int) = ((n + 1 - i : Nat) : Int) by omega, h, hZ]
  congr 4
  simp
 have hZl : Z.length = (n + 1 - i) * 3 + (G - (n + 1)) * 3 := by rw [hZ]; simp [Builtin.zeroCells, Value.cells]
 have HROW := Lib.hid (grownRowN xs [y0, y1, y2] Z n i hlen (by omega) rfl)
 obtain ⟨R0, hR0⟩ : ∃ R0 : List Value, R0 = xs.take (i * 3) ++ Z := ⟨_, rfl⟩
 have hR0l : R0.length = G * 3 := by rw [hR0]; simp only [List.length_append, List.length_take, hlen, hZl]; omega
 rw [← hR0] at HROW hrz
 obtain ⟨R1, hR1⟩ : ∃ R1 : List Value, R1 = R0.take (i * 3) ++ [y0, y1, y2] ++ R0.drop (i * 3 + [y0, y1, y2].length) := ⟨_, rfl⟩
 have hR1l : R1.length = G * 3 := by rw [hR1]; simp only [List.length_append, List.length_take, List.length_drop, hR0l, List.length_cons, List.length_nil]; omega
 rw [← hR1] at HROW
 obtain ⟨W0, hW0⟩ : ∃ W0, W0 = w.drew.alloc (.cells R0.toArray 89) := ⟨_, rfl⟩
 have hb0 : Blk W0 w.heap.size 89 R0.toArray := by rw [hW0]; exact heap_alloc_new _ _
 have hg0 : w.grownBy W0 none := by rw [hW0]; exact ⟨rfl, rfl, rfl, by simp, fun k hk _ => Below.heap_alloc w.drew _ k hk⟩
 rw [← hW0] at hrz
 have hcp1 : ∀ (W : World), W.heap = W0.heap → ∀ ty dl dc, Nat.min 1 dl = 1 → (Builtin.copy_ #[24, 24] ty #[.slice (some ⟨w.heap.size, i * 3, none⟩) dl dc, .slice (some ⟨vb, 0, none⟩) 1 1]).run Tryz.prog W = .ok (goInt (1 : Nat)) (W.setRow w.heap.size R1.toArray) := fun W hW ty dl dc hk => by
  have h2 := run_copy_rowI (P := Tryz.prog) W 24 24 ty 89 3 w.heap.size (i * 3) dl dc ⟨vb, 0, none⟩ 1 1 R0.toArray 89 [y0, y1, y2] Tryz.underlying24 szNodeI (by rw [hW]; exact hb0) 1 hk rfl
   (fun j v hj => by
     have hWv : Blk W vb 89 #[y0, y1, y2] := by
      unfold Blk
      rw [hW]
      exact hv.grown hg0 (by simp)
     rw [add_offI, hWv.cell, ← Array.getElem?_toList]
     simpa using hj)
   (by simp only [List.size_toArray, hR0l, List.length_cons, List.length_nil]; omega) h1
  rw [h2, hR1]
 have hcp2 : ∀ (W : World), Blk W w.heap.size 89 R1.toArray → W.heap[g]? = w.heap[g]? → ∀ ty dl dc sl sc, Nat.min sl dl = n - i → (Builtin.copy_ #[24, 24] ty #[.slice (some ⟨w.heap.size, (i + 1) * 3, none⟩) dl dc, .slice (some ⟨g, i * 3, none⟩) sl sc]).run Tryz.prog W = .ok (goInt (n - i : Nat)) (W.setRow w.heap.size (R1.take ((i + 1) * 3) ++ xs.drop (i * 3) ++ R1.drop ((i + 1) * 3 + (xs.drop (i * 3)).length)).toArray) := fun W hW hWg ty dl dc sl sc hk => by
  have h2 := run_copy_rowI (P := Tryz.prog) W 24 24 ty 89 3 w.heap.size ((i + 1) * 3) dl dc ⟨g, i * 3, none⟩ sl sc R1.toArray 89 (xs.drop (i * 3)) Tryz.underlying24 szNodeI hW (n - i) hk hdl
   (fun j v hj => by
     rw [add_offI, World.cell?_of_block (w := w) (by exact hWg)]
     rw [List.getElem?_drop] at hj
     exact hgc _ _ hj)
   (by rw [hdl, List.size_toArray, hR1l]; omega) (fun v hv => hx1 v (List.mem_of_mem_drop hv))
  exact h2
 have HG0 := Lib.hid hg0
 have HB0 := Lib.hid hb0
 have HL : Hid (base ≤ w.heap.size ∧ R1.length = G * 3 ∧ xs.length = n * 3 ∧ G ≤ maxLen ∧ g < w.heap.size) := ⟨hbw, hR1l, hlen, hG63, hgB.lt⟩
 have HC1 := Lib.hid hcp1
 have HC2 := Lib.hid hcp2
 unfold maxLen at hG63
 clear hx1 hv h1 hR1 hR1l hcp1 hcp2 hgB hg htk hcs hbase hlen hdl he hR0 hR0l hZ hZl hold hgc hG hg0 hb0 hW0 hik
 have hz1 : ¬ ((i : Int) = (n : Int)) := by omega
 have hz1b : ((i : Int) == (n : Int)) = false := by rw [beq_eq_false_iff_ne]; omega
 have hz1c : (i == n) = false := by rw [beq_eq_false_iff_ne]; omega
 have hw1 : IntKind.i64.wrap ((i : Int) + 1) = (i : Int) + 1 := by rw [IntKind.wrap_i64]; omega
 have hb1 : (0 : Int) ≤ (i : Int) + 1 := by omega
 have htn : ((i : Int) + 1).toNat = i + 1 := by omega
 have hb2 : ¬ (G = i + 1) := by omega
 have hb3 : (i : Int) ≤ (n : Int) + 1 := by omega
 have hb4 : ¬ (G = i) := by omega
 have hb5 : ¬ (n = i) := by omega
 have hile : i ≤ n := by omega
 go_enter Tryz.func229, Tryz.ntmps229
 go_wp2_with (at_builtin; refine Lib.wpList_append_run _ rfl _ _ _ _ rfl _ _ rfl rfl _ _ (hrz _) ?_)
 have hcq := HC1.out W0 rfl 3 (n + 1 - i) (G - i) (by simp only [Nat.min_def]; split <;> omega)
 go_wp2_with (simp only [hcq])
 clear hcq
 have HB1 : Hid (Blk (W0.setRow w.heap.size R1.toArray) w.heap.size 89 R1.toArray) := setRow_heap _ _ _ _ _ _ HB0.out
 have hgl := HL.out.2.2.2.2
 have hcq2 := HC2.out (W0.setRow w.heap.size R1.toArray).drew HB1.out ((setRow_other _ _ _ _ (by omega)).trans (HG0.out.block g hgl (by simp))) 3 (n - i) (G - (i + 1)) (n - i) (n - i) (by simp only [Nat.min_def]; split <;> omega)
 go_region
 clear hcq2
 go_wp2_with fail
 go_ret
 obtain ⟨hl1, hl2, hl3, hl4, _⟩ := HL.out
 refine ⟨_, rfl, ⟨?_, .inr ⟨w.heap.size, G, _, rfl, hl1, setRow_heap _ _ _ _ _ _ HB1.out, by omega, hl4, ?_, by simpa using HROW.out⟩⟩, ?_⟩
 · simp only [List.length_append, List.length_take, List.length_drop, List.length_cons, List.length_nil, hl3]; omega
 · simp only [List.size_toArray, List.length_append, List.length_take, List.length_drop, hl2, hl3]; omega
 · exact ⟨HG0.out.os, HG0.out.tape, HG0.out.output, by simpa using HG0.out.size, fun k hk _ => ((setRow_other _ _ _ _ (by omega)).trans (setRow_other _ _ _ _ (by omega))).trans (HG0.out.block k hk (by simp))⟩
theorem InsertN_any (base : Nat) (v : Value) (n i : Nat) (xs : List Value) (vb : Nat) (y0 y1 y2 : Value) (w : World) (h : w.ownsRow base 89 3 v n xs) (hn : n ≤ 1048576) (hin : i ≤ n) (hbw : base ≤ w.heap.size)
 (hx1 : ∀ u ∈ xs, u.oneCell' = true) (hv : Blk w vb 89 #[y0, y1, y2]) (hvb : v.ownBlock ≠ some vb) (h1 : ∀ u ∈ [y0, y1, y2], u.oneCell' = true) :
 Calls Tryz.prog 229 #[v, .int .i64 i, .slice (some ⟨vb, 0, none⟩) 1 1] w (InsNPost base i n v xs [y0, y1, y2] w) := by
 by_cases hi : i = n
 · subst hi
   exact InsertN_end base v i xs vb y0 y1 y2 w h hn hbw hv h1
 · obtain ⟨g, cap, rfl⟩ : ∃ g cap, v = .slice (some ⟨g, 0, none⟩) n cap := by
    rcases h.2 with ⟨_, h0⟩ | ⟨g, cap, cur, he, _⟩
    · omega
    · exact ⟨g, cap, he⟩
   by_cases hr : n + 1 ≤ cap
   · exact InsertN_shift base g cap n i xs vb y0 y1 y2 w h hn (by omega) hr hx1 hv (fun e => hvb (by rw [e]; rfl)) h1
   · exact InsertN_grow base g cap n i xs vb y0 y1 y2 w h hn (by omega) hr hbw hx1 hv h1
end Go.Proofs.YtlicffeicmoifaaGreatDoor
namespace Go.Proofs.YtlicffeicmoifaaGreatDoor
open Go.RowKit
set_option linter.unusedVariables false
theorem cells_set3 {R : List Value → NodeD → Prop} : ∀ {fs : List NodeD} {cs : List Value} (i : Nat) (u : Value) (d' : NodeD), CellsG 3 R fs cs → i < fs.length → (∀ c, R c (fs.getD i default) → R (c.set 2 u) d') → CellsG 3 R (fs.set i d') (cs.set (i * 3 + 2) u)
 | [], cs, i, u, d', h, hi, _ => by simp at hi
 | d :: r, cs, 0, u, d', h, hi, hR => by
   obtain ⟨c, cs', rfl, hl, hd, hr⟩ := h
   exact ⟨c.set 2 u, cs', by rw [List.set_append_left _ _ (by omega)], by simp [hl], hR c (by simpa using hd), hr⟩
 | d :: r, cs, i + 1, u, d', h, hi, hR => by
   obtain ⟨c, cs', rfl, hl, hd, hr⟩ := h
   refine ⟨c, cs'.set (i * 3 + 2) u, ?_, hl, hd, cells_set3 i u d' hr (by simpa using hi) (fun c hc => hR c (by simpa using hc))⟩
   rw [List.set_append_right _ _ (by omega), hl]
   congr 2
   omega
theorem NodesW.setVal {w : World} {base g cap : Nat} {fs : List NodeD} {i : Nat} (u : ByteArray) (h : NodesW w base (.slice (some ⟨g, 0, none⟩) fs.length cap) fs) (hi : i < fs.length) :
 NodesW (w.setCell ⟨g, i * 3 + 2, none⟩ (.string u)) base (.slice (some ⟨g, 0, none⟩) fs.length cap) (fs.set i ⟨(fs.getD i default).name, (fs.getD i default).subs, u⟩) := by
 obtain ⟨cs, h1, h2⟩ := h
 obtain ⟨h3, h4⟩ := h1.stored (i * 3 + 2) (.string u)
 refine ⟨cs.set (i * 3 + 2) (.string u), by rw [List.length_set]; exact h3, ?_⟩
 refine cells_set3 i _ _ (h2.mono fun c d hd => hd.kept h1 (by decide) h4) hi ?_
 rintro c ⟨v, rfl, hs⟩
 exact ⟨v, rfl, hs⟩
theorem putN_set {fs : List NodeD} {nm : ByteArray} {ss : List ByteArray} {v : ByteArray} (h : hasN fs nm ss = true) : atN fs nm ss < fs.length ∧ putN fs nm ss v = fs.set (atN fs nm ss) ⟨(fs.getD (atN fs nm ss) default).name, (fs.getD (atN fs nm ss) default).subs, v⟩ := by
 have h0 := h
 unfold hasN hereN at h
 simp only [Bool.and_eq_true, decide_eq_true_eq] at h
 obtain ⟨h1, h2, h3⟩ := h
 refine ⟨h1, ?_⟩
 unfold putN
 rw [if_pos h0, h2, h3, List.set_eq_take_append_cons_drop, if_pos h1]
theorem putN_ins {fs : List NodeD} {nm : ByteArray} {ss : List ByteArray} {v : ByteArray} (h : hasN fs nm ss = false) : putN fs nm ss v = fs.take (atN fs nm ss) ++ [⟨nm, ss, v⟩] ++ fs.drop (atN fs nm ss) := by
 unfold putN
 rw [if_neg (by rw [h]; decide)]
 simp
theorem NodesW.inserted {w w' : World} {base i : Nat} {v v' : Value} {fs : List NodeD} {xs : List Value} {s : Value} {d : NodeD} (hi : i ≤ fs.length) (h1 : w.ownsRow base 89 3 v fs.length xs) (h2 : CellsG 3 (nodeO w base) fs xs) (hs : Own.SubO w base s d.subs)
 (h3 : w'.ownsRow base 89 3 v' (fs.length + 1) (xs.take (i * 3) ++ [.string d.name, s, .string d.val] ++ xs.drop (i * 3))) (h4 : w.grownBy w' v.ownBlock) : NodesW w' base v' (fs.take i ++ [d] ++ fs.drop i) := by
 have hk : ∀ c e, nodeO w base c e → nodeO w' base c e := fun c e he => he.kept h1 (by decide) h4
 have hlen : (fs.take i ++ [d] ++ fs.drop i).length = fs.length + 1 := by simp; omega
 refine ⟨_, by rw [hlen]; exact h3, ?_⟩
 refine CellsG.append (CellsG.append ((h2.mono hk).take i) ?_) ((h2.mono hk).drop i)
 exact ⟨[.string d.name, s, .string d.val], [], by simp, rfl, hk _ _ ⟨s, rfl, hs⟩, rfl⟩
end Go.Proofs.YtlicffeicmoifaaGreatDoor
