/-
  Rows of items as cells; rows of the call's own cut short and cleared; what slices.DeleteFunc keeps (the general part of Pi8, for the seat of locks). slices.IndexFunc and slices.DeleteFunc at locks and asks of the call's own, with a function value that may change a state. (Printed by gen_del.py.) slices.Delete of one lock or ask in a row of the call's own. (Printed by gen_dlt.py.)
-/
import Derived.Test.YtiebcdajoddkpaaGreatDoorLwR
import Derived.Test.YtiebcdajoddkpaaGreatDoorLkI1
import Derived.Lib.SliceRun
import Derived.Laws.CopyRow
import Derived.Laws.CopyOwn
namespace Go.Proofs.YtiebcdajoddkpaaGreatDoor
open Go.RowKit

theorem filter_snoc {α : Type} [Inhabited α] (p : α → Bool) (l : List α) (k : Nat) (h : k < l.length) : (l.take (k + 1)).filter p = if p (l.getD k default) = true then (l.take k).filter p ++ [l.getD k default] else (l.take k).filter p := by
  rw [List.take_succ_eq_append_getElem h, List.filter_append, List.getD_eq_getElem?_getD, List.getElem?_eq_getElem h]
  simp only [Option.getD_some, List.filter_cons, List.filter_nil]
  split <;> simp
theorem add_offN (g o j : Nat) : (⟨g, o, none⟩ : Addr).add j = ⟨g, o + j, none⟩ := by
  unfold Addr.add
  split
  · rename_i h0; subst h0; rfl
  · rfl
/-- Cells that read as items, sz cells each. -/
def CellsG {α : Type} (sz : Nat) (R : List Value → α → Prop) : List α → List Value → Prop
  | [], cs => cs = []
  | d :: r, cs => ∃ c cs', cs = c ++ cs' ∧ c.length = sz ∧ R c d ∧ CellsG sz R r cs'
section
variable {α : Type} {sz : Nat} {R R' : List Value → α → Prop}
theorem CellsG.len : ∀ {fs : List α} {cs : List Value}, CellsG sz R fs cs → cs.length = fs.length * sz
  | [], cs, h => by
    have h : cs = [] := h
    subst h; simp
  | d :: r, cs, h => by
    obtain ⟨c, cs', rfl, hl, _, hr⟩ := h
    have := hr.len
    simp only [List.length_append, List.length_cons, this, hl, Nat.add_mul]
    omega
theorem CellsG.mono (hR : ∀ c d, R c d → R' c d) : ∀ {fs : List α} {cs : List Value}, CellsG sz R fs cs → CellsG sz R' fs cs
  | [], _, h => h
  | _ :: _, _, h => by
    obtain ⟨c, cs', rfl, hl, hd, hr⟩ := h
    exact ⟨c, cs', rfl, hl, hR _ _ hd, CellsG.mono hR hr⟩
theorem CellsG.all {Q : Value → Prop} (hR : ∀ c d, R c d → ∀ u ∈ c, Q u) : ∀ {fs : List α} {cs : List Value}, CellsG sz R fs cs → ∀ u ∈ cs, Q u
  | [], cs, h, u, hu => by
    have h : cs = [] := h
    subst h; simp at hu
  | _ :: _, _, h, u, hu => by
    obtain ⟨c, cs', rfl, hl, hd, hr⟩ := h
    rw [List.mem_append] at hu
    rcases hu with hu | hu
    · exact hR _ _ hd u hu
    · exact CellsG.all hR hr u hu
theorem CellsG.take : ∀ {fs : List α} {cs : List Value} (k : Nat), CellsG sz R fs cs → CellsG sz R (fs.take k) (cs.take (k * sz))
  | [], cs, k, h => by
    have h : cs = [] := h
    subst h
    simp [CellsG]
  | d :: r, cs, 0, h => by simp [CellsG]
  | d :: r, cs, k + 1, h => by
    obtain ⟨c, cs', rfl, hl, hd, hr⟩ := h
    refine ⟨c, cs'.take (k * sz), ?_, hl, hd, CellsG.take k hr⟩
    rw [show (k + 1) * sz = c.length + k * sz by rw [hl, Nat.add_mul]; omega, List.take_length_add_append]
theorem CellsG.snoc {d : α} {c : List Value} (hd : R c d) (hl : c.length = sz) : ∀ {fs : List α} {cs : List Value}, CellsG sz R fs cs → CellsG sz R (fs ++ [d]) (cs ++ c)
  | [], cs, h => by
    have h : cs = [] := h
    subst h
    exact ⟨c, [], by simp, hl, hd, rfl⟩
  | f :: r, cs, h => by
    obtain ⟨c', cs', rfl, hl', hd', hr⟩ := h
    exact ⟨c', cs' ++ c, by simp, hl', hd', CellsG.snoc hd hl hr⟩
theorem CellsG.at [Inhabited α] : ∀ {fs : List α} {cs : List Value} (j : Nat), CellsG sz R fs cs → j < fs.length → ∃ c, c.length = sz ∧ R c (fs.getD j default) ∧ ∀ t, t < sz → cs[j * sz + t]? = c[t]?
  | [], _, j, _, hj => by simp at hj
  | f :: r, cs, 0, h, _ => by
    obtain ⟨c, cs', rfl, hl, hd, hr⟩ := h
    refine ⟨c, hl, by simpa using hd, fun t ht => ?_⟩
    rw [Nat.zero_mul, Nat.zero_add, List.getElem?_append_left (by omega)]
  | f :: r, cs, j + 1, h, hj => by
    obtain ⟨c, cs', rfl, hl, hd, hr⟩ := h
    obtain ⟨c2, h1, h2, h3⟩ := CellsG.at j hr (by simpa using hj)
    refine ⟨c2, h1, by simpa using h2, fun t ht => ?_⟩
    rw [← h3 t ht, show (j + 1) * sz + t = c.length + (j * sz + t) by rw [hl, Nat.add_mul]; omega, List.getElem?_append_right (by omega), Nat.add_sub_cancel_left]
end
/-- Cells laid in memory, gathered. -/
theorem cells_gather {α : Type} [Inhabited α] {sz : Nat} {R : List Value → α → Prop} {w : World} (b : Nat) : ∀ (fs : List α) (o : Nat), (∀ j, j < fs.length → ∃ c, c.length = sz ∧ R c (fs.getD j default) ∧ ∀ t, t < sz → w.cell? ⟨b, o + j * sz + t, none⟩ = c[t]?) → ∃ cs, CellsG sz R fs cs ∧ ∀ j u, cs[j]? = some u → w.cell? ⟨b, o + j, none⟩ = some u
  | [], o, _ => ⟨[], rfl, fun j u hu => by simp at hu⟩
  | d :: r, o, h => by
    obtain ⟨c, hl, hr, hx⟩ := h 0 (by simp)
    obtain ⟨cs, hc, hy⟩ := cells_gather b r (o + sz) (fun j hj => by
      obtain ⟨c, hl, hr, hx⟩ := h (j + 1) (by simpa using hj)
      refine ⟨c, hl, by simpa using hr, fun t ht => ?_⟩
      rw [← hx t ht, Nat.add_mul, Nat.one_mul]
      congr 2
      omega)
    refine ⟨c ++ cs, ⟨c, cs, rfl, hl, by simpa using hr, hc⟩, fun j u hu => ?_⟩
    by_cases hj : j < sz
    · rw [List.getElem?_append_left (by omega)] at hu
      have := hx j hj
      rw [Nat.zero_mul, Nat.add_zero] at this
      rw [this, hu]
    · rw [List.getElem?_append_right (by omega), hl] at hu
      have := hy (j - sz) u hu
      rw [show o + sz + (j - sz) = o + j by omega] at this
      exact this

/-- A row of the call's own, cut short and its rest cleared. -/
theorem run_clear_own {P : Program} {w : World} {base e size n g cap i : Nat} {xs : List Value} (h : w.ownsRow base e size (.slice (some ⟨g, 0, none⟩) n cap) n xs) (t : TypeId) (ht : P.underlying t = some (.slice e)) (z : Value) (hz : ∀ w, (zeroValue e).run P w = .ok z w) (hzs : z.cells.size = size) (hz1 : ∀ u ∈ (Builtin.zeroCells z.cells (n - i)).toList, u.oneCell' = true) (hin : i < n) (c : Nat) :
    ∃ w', (∀ ty, (Builtin.clear_ #[t] ty #[.slice (some ⟨g, i * size, none⟩) (n - i) c]).run P w = .ok (.tuple #[]) w') ∧ w'.ownsRow base e size (.slice (some ⟨g, 0, none⟩) i cap) i (xs.take (i * size)) ∧ w.grownBy w' (some g) := by
  obtain ⟨hlen, hor⟩ := h
  rcases hor with ⟨h0, _⟩ | ⟨g', cap', cur, he, hbase, hg, hnc, hcm, hcs, htk⟩
  · cases h0
  obtain ⟨rfl, rfl⟩ : g = g' ∧ cap = cap' := by simpa using he
  have hzl : (Builtin.zeroCells z.cells (n - i)).toList.length = (n - i) * size := by
    simp [Builtin.zeroCells, hzs]
  have hmul : i * size + (n - i) * size = n * size := by rw [← Nat.add_mul]; congr 1; omega
  have hmc : n * size ≤ cap * size := Nat.mul_le_mul_right _ hnc
  have hst := run_storeCells_at P g (i * size) e (Builtin.zeroCells z.cells (n - i)).toList 0 cur w hg (by rw [hzl, Nat.add_zero]; omega) hz1
  rw [Nat.add_zero, hzl] at hst
  obtain ⟨m, hm⟩ : ∃ m, n - i = m + 1 := ⟨n - i - 1, by omega⟩
  refine ⟨w.setRow g (cur.toList.take (i * size) ++ (Builtin.zeroCells z.cells (n - i)).toList ++ cur.toList.drop (i * size + (n - i) * size)).toArray, fun ty => ?_, ⟨?_, .inr ⟨g, cap, _, rfl, hbase, setRow_heap _ _ _ _ _ _ hg, by omega, hcm, ?_, ?_⟩⟩, ?_⟩
  · rw [hm] at hst ⊢
    simp [Builtin.clear_, run_underlying ht, hz]
    simp at hst
    rw [hst]
    rfl
  · rw [List.length_take, hlen]
    have : i * size ≤ n * size := Nat.mul_le_mul_right _ (by omega)
    omega
  · simp only [List.size_toArray, List.length_append, List.length_take, List.length_drop, Array.length_toList, hzl, hcs]
    omega
  · rw [List.append_assoc, List.take_left' (by rw [List.length_take, Array.length_toList, hcs]; omega), ← htk, List.take_take]
    congr 1
    omega
  · exact ⟨rfl, rfl, rfl, by simp, fun k _ hk => setRow_other _ _ _ _ (fun e => hk (by rw [e]))⟩


theorem idxF_cases {α : Type} (p : α → Bool) : ∀ (l : List α) (k : Nat), (idxF p l k = -1 ∧ (l.filter fun d => !p d) = l) ∨ ∃ m, m < l.length ∧ idxF p l k = ((k + m : Nat) : Int) ∧ ((l.take (m + 1)).filter fun d => !p d) = l.take m
  | [], k => .inl ⟨rfl, rfl⟩
  | d :: r, k => by
    by_cases h : p d = true
    · exact .inr ⟨0, by simp, by simp [idxF, h], by simp [h]⟩
    · rcases idxF_cases p r (k + 1) with ⟨e1, e2⟩ | ⟨m, hm, e1, e2⟩
      · exact .inl ⟨by simp [idxF, h, e1], by simp [h, e2]⟩
      · refine .inr ⟨m + 1, by simpa using hm, ?_, ?_⟩
        · simp only [idxF, h, if_false, Bool.false_eq_true, e1]
          congr 1
          omega
        · simp [List.take_succ_cons, h, e2]
/-- The state of slices.DeleteFunc: i kept ahead of place j, what lies from j on as it was. -/
structure KeptG {α : Type} (sz : Nat) (R : List Value → α → Prop) (p : α → Bool) (fs : List α) (cs : List Value) (i j : Nat) (ys : List Value) : Prop where
  len : ys.length = cs.length
  lt : i < j
  le : j ≤ fs.length
  cnt : ((fs.take j).filter fun d => !p d).length = i
  kept : CellsG sz R ((fs.take j).filter fun d => !p d) (ys.take (i * sz))
  rest : ys.drop (j * sz) = cs.drop (j * sz)
section
variable {α : Type} {sz : Nat} {R : List Value → α → Prop} {p : α → Bool} {fs : List α} {cs ys : List Value} {i j : Nat}
theorem KeptG.start {k : Nat} (hc : CellsG sz R fs cs) (hk : k < fs.length) (hf : ((fs.take (k + 1)).filter fun d => !p d) = fs.take k) : KeptG sz R p fs cs k (k + 1) cs :=
  ⟨rfl, by omega, by omega, by rw [hf, List.length_take]; omega, by rw [hf]; exact hc.take k, rfl⟩
theorem KeptG.cell (h : KeptG sz R p fs cs i j ys) (t : Nat) : ys[j * sz + t]? = cs[j * sz + t]? := by
  have := congrArg (fun l : List Value => l[t]?) h.rest
  simpa [List.getElem?_drop] using this
theorem KeptG.skip [Inhabited α] (h : KeptG sz R p fs cs i j ys) (hj : j < fs.length) (hp : p (fs.getD j default) = true) : KeptG sz R p fs cs i (j + 1) ys := by
  have hf : ((fs.take (j + 1)).filter fun d => !p d) = (fs.take j).filter fun d => !p d := by
    rw [filter_snoc (fun d => !p d) fs j hj, if_neg (by rw [hp]; simp)]
  have hlt := h.lt
  refine ⟨h.len, by omega, by omega, by rw [hf]; exact h.cnt, by rw [hf]; exact h.kept, ?_⟩
  have := congrArg (fun l : List Value => l.drop sz) h.rest
  rw [Nat.add_mul, Nat.one_mul]
  simpa [List.drop_drop] using this
theorem KeptG.keep [Inhabited α] (h : KeptG sz R p fs cs i j ys) (hl : cs.length = fs.length * sz) (hj : j < fs.length) (hp : p (fs.getD j default) = false) {c : List Value} (hd : R c (fs.getD j default)) (hcl : c.length = sz) :
    KeptG sz R p fs cs (i + 1) (j + 1) (ys.take (i * sz) ++ c ++ ys.drop ((i + 1) * sz)) := by
  have hf : ((fs.take (j + 1)).filter fun d => !p d) = ((fs.take j).filter fun d => !p d) ++ [fs.getD j default] := by
    rw [filter_snoc (fun d => !p d) fs j hj, if_pos (by rw [hp]; rfl)]
  have hlt := h.lt
  have hlen := h.len
  have e1 : (i + 1) * sz = i * sz + sz := by rw [Nat.add_mul, Nat.one_mul]
  have e2 : (i + 1) * sz ≤ fs.length * sz := Nat.mul_le_mul_right _ (by omega)
  have e3 : (i + 1) * sz ≤ j * sz := Nat.mul_le_mul_right _ (by omega)
  have hA : (ys.take (i * sz) ++ c).length = (i + 1) * sz := by
    rw [List.length_append, List.length_take, hcl]
    omega
  refine ⟨?_, by omega, by omega, by rw [hf, List.length_append, h.cnt]; rfl, ?_, ?_⟩
  · rw [List.length_append, hA, List.length_drop]; omega
  · rw [hf, List.take_left' hA]
    exact CellsG.snoc hd hcl h.kept
  · have h3 : ys.drop ((j + 1) * sz) = cs.drop ((j + 1) * sz) := by
      have := congrArg (fun l : List Value => l.drop sz) h.rest
      rw [Nat.add_mul, Nat.one_mul]
      simpa [List.drop_drop] using this
    have e4 : (j + 1) * sz = j * sz + sz := by rw [Nat.add_mul, Nat.one_mul]
    rw [← h3, List.drop_append, hA, List.drop_of_length_le (by rw [hA]; omega), List.nil_append, List.drop_drop]
    congr 1
    omega
theorem KeptG.done (h : KeptG sz R p fs cs i fs.length ys) : (fs.filter fun d => !p d).length = i ∧ CellsG sz R (fs.filter fun d => !p d) (ys.take (i * sz)) := by
  have h1 := h.cnt
  have h2 := h.kept
  rw [List.take_of_length_le (Nat.le_refl _)] at h1 h2
  exact ⟨h1, h2⟩
end

/-- Items of the call's own, as pairs of what an item is and where its texts lie. -/
def pairR (c : List Value) (x : ItD × Value) : Prop := c = cellsIt x.1 x.2
instance : Inhabited (ItD × Value) := ⟨(default, .slice none 0 0)⟩
theorem flat_pairs : ∀ (fs : List ItD) (vs : List Value), vs.length = fs.length → CellsG 4 pairR (fs.zip vs) (flat fs vs)
  | [], [], _ => rfl
  | d :: fs, v :: vs, h => ⟨cellsIt d v, flat fs vs, rfl, rfl, rfl, flat_pairs fs vs (by simpa using h)⟩
  | [], _ :: _, h => by simp at h
  | _ :: _, [], h => by simp at h
theorem pairs_flat : ∀ (xs : List (ItD × Value)) (cs : List Value), CellsG 4 pairR xs cs → cs = flat (xs.map (·.1)) (xs.map (·.2))
  | [], cs, h => h
  | x :: xs, cs, ⟨c, cs', e, _, hc, h⟩ => by
    rw [e, hc, pairs_flat xs cs' h]
    rfl
theorem zip_fst : ∀ (fs : List ItD) (vs : List Value), vs.length = fs.length → (fs.zip vs).map (·.1) = fs := fun fs vs h => List.map_fst_zip (by omega)
theorem zip_snd : ∀ (fs : List ItD) (vs : List Value), vs.length = fs.length → (fs.zip vs).map (·.2) = vs := fun fs vs h => List.map_snd_zip (by omega)
theorem zip_filter (q : ItD → Bool) : ∀ (fs : List ItD) (vs : List Value), vs.length = fs.length → ((fs.zip vs).filter fun x => q x.1).map (·.1) = fs.filter q
  | [], [], _ => rfl
  | d :: fs, v :: vs, h => by
    have ih := zip_filter q fs vs (by simpa using h)
    rw [List.zip_cons_cons, List.filter_cons, List.filter_cons]
    cases hq : q d
    · simpa [hq] using ih
    · simpa [hq] using ih
  | [], _ :: _, h => by simp at h
  | _ :: _, [], h => by simp at h
theorem OwnIts.pair {w : World} {base t : Nat} {v : Value} {fs : List ItD} {vs : List Value} (h : OwnIts w base t v fs vs) : ∀ x ∈ fs.zip vs, SubO w base x.2 x.1.subs := by
  intro x hx
  obtain ⟨j, hj, rfl⟩ := List.getElem_of_mem hx
  have hl := h.len
  rw [List.length_zip, hl, Nat.min_self] at hj
  rw [List.getElem_zip]
  have hs := h.subs j hj
  rw [List.getD_eq_getElem?_getD, List.getElem?_eq_getElem (by omega), List.getD_eq_getElem?_getD, List.getElem?_eq_getElem hj] at hs
  exact hs
theorem OwnIts.of_pairs {w : World} {base t : Nat} {v : Value} (xs : List (ItD × Value)) (hrow : w.ownsRow base t 4 v xs.length (flat (xs.map (·.1)) (xs.map (·.2)))) (hs : ∀ x ∈ xs, SubO w base x.2 x.1.subs) (ha : (xs.map (·.2)).Pairwise apart) : OwnIts w base t v (xs.map (·.1)) (xs.map (·.2)) := by
  refine ⟨by simp, by rw [List.length_map]; exact hrow, fun j hj => ?_, ha⟩
  rw [List.length_map] at hj
  have := hs xs[j] (List.getElem_mem hj)
  rw [List.getD_eq_getElem?_getD, List.getElem?_eq_getElem (by simpa using hj), List.getD_eq_getElem?_getD, List.getElem?_eq_getElem (by simpa using hj)]
  simpa using this
theorem OwnIts.sub_pairs {w w' : World} {base t : Nat} {v v' : Value} {fs : List ItD} {vs : List Value} (h : OwnIts w base t v fs vs) {xs : List (ItD × Value)} (hx : xs.Sublist (fs.zip vs)) (hrow : w'.ownsRow base t 4 v' xs.length (flat (xs.map (·.1)) (xs.map (·.2)))) (hk : ∀ x ∈ fs.zip vs, SubO w base x.2 x.1.subs → SubO w' base x.2 x.1.subs) : OwnIts w' base t v' (xs.map (·.1)) (xs.map (·.2)) := by
  refine OwnIts.of_pairs xs hrow (fun x hxm => hk x (hx.subset hxm) (h.pair x (hx.subset hxm))) ?_
  have hz := zip_snd fs vs h.len
  have := h.aprt
  rw [← hz] at this
  exact this.sublist (hx.map (fun x => x.2))
end Go.Proofs.YtiebcdajoddkpaaGreatDoor

namespace Go.Proofs.YtiebcdajoddkpaaGreatDoor
open Go.RowKit
set_option linter.unusedVariables false

/-- What is asked of a function value that is handed the items of a row in turn: J j holds ahead of item j. -/
structure PredJ (T : TypeId) (g : Nat) (lb : Array Value) (p : ItD → Bool) (base : Nat) (v : Value) (fs : List ItD) (vs : List Value) (J : Nat → World → Prop) : Prop where
  step : ∀ j, j < fs.length → ∀ W ys, J j W → W.ownsRow base T 4 v fs.length ys → Calls Tryz.prog g (#[.agg #[.int .i64 (fs.getD j default).a, .int .i64 (fs.getD j default).b, .string (fs.getD j default).name, vs.getD j (.slice none 0 0)]] ++ lb) W fun e W' => e = .returned (.bool (p (fs.getD j default))) ∧ J (j + 1) W' ∧ W'.ownsRow base T 4 v fs.length ys ∧ (∀ h0 cs t, Blk W h0 t cs → t = T → v.ownBlock ≠ some h0 → Blk W' h0 t cs)
  alloc : ∀ j W o, J j W → J j (W.alloc o)
  store : ∀ j W W' ys, J j W → W.ownsRow base T 4 v fs.length ys → W.grownBy W' v.ownBlock → J j W'
theorem set4_put (ys : List Value) (i : Nat) (c0 c1 c2 c3 : Value) (h : i * 4 + 3 < ys.length) :
    (((ys.set (i * 4) c0).set (i * 4 + 1) c1).set (i * 4 + 2) c2).set (i * 4 + 3) c3 = ys.take (i * 4) ++ [c0, c1, c2, c3] ++ ys.drop ((i + 1) * 4) := by
  apply List.ext_getElem?
  intro j
  rw [List.append_assoc, List.getElem?_append]
  have hl : (ys.take (i * 4)).length = i * 4 := by rw [List.length_take]; omega
  rw [hl]
  by_cases h1 : j < i * 4
  · rw [if_pos h1, List.getElem?_take, if_pos h1, List.getElem?_set_ne (by omega), List.getElem?_set_ne (by omega), List.getElem?_set_ne (by omega), List.getElem?_set_ne (by omega)]
  · rw [if_neg h1]
    by_cases h2 : j < i * 4 + 4
    · have : j = i * 4 ∨ j = i * 4 + 1 ∨ j = i * 4 + 2 ∨ j = i * 4 + 3 := by omega
      rcases this with rfl | rfl | rfl | rfl
      · rw [List.getElem?_set_ne (by omega), List.getElem?_set_ne (by omega), List.getElem?_set_ne (by omega), List.getElem?_set_self (by omega), Nat.sub_self]; rfl
      · rw [List.getElem?_set_ne (by omega), List.getElem?_set_ne (by omega), List.getElem?_set_self (by simp; omega), show i * 4 + 1 - i * 4 = 1 from by omega]; rfl
      · rw [List.getElem?_set_ne (by omega), List.getElem?_set_self (by simp; omega), show i * 4 + 2 - i * 4 = 2 from by omega]; rfl
      · rw [List.getElem?_set_self (by simp; omega), show i * 4 + 3 - i * 4 = 3 from by omega]; rfl
    · rw [List.getElem?_set_ne (by omega), List.getElem?_set_ne (by omega), List.getElem?_set_ne (by omega), List.getElem?_set_ne (by omega), List.getElem?_append_right (by simp; omega), List.getElem?_drop]
      congr 1
      simp
      omega
theorem zero_cells_mem {zero : Array Value} {m : Nat} {u : Value} (h : u ∈ (Builtin.zeroCells zero m).toList) : u ∈ zero.toList := by
  unfold Builtin.zeroCells at h
  simp only [Array.toList_map, List.mem_map] at h
  obtain ⟨i, hi, rfl⟩ := h
  have hi' : i < m * zero.size := by simpa using hi
  have hz : 0 < zero.size := by
    rcases Nat.eq_zero_or_pos zero.size with e | e
    · rw [e] at hi'; omega
    · exact e
  rw [getElem!_pos zero _ (Nat.mod_lt _ hz)]
  simp
theorem zip_getD (fs : List ItD) (vs : List Value) (h : vs.length = fs.length) (j : Nat) (hj : j < fs.length) : (fs.zip vs).getD j default = (fs.getD j default, vs.getD j (.slice none 0 0)) := by
  rw [List.getD_eq_getElem?_getD, List.getElem?_eq_getElem (by rw [List.length_zip]; omega), List.getElem_zip, List.getD_eq_getElem?_getD, List.getElem?_eq_getElem hj, List.getD_eq_getElem?_getD, List.getElem?_eq_getElem (by omega)]
  rfl
theorem idxF_zip (p : ItD → Bool) : ∀ (fs : List ItD) (vs : List Value) (k : Nat), vs.length = fs.length → idxF (fun x : ItD × Value => p x.1) (fs.zip vs) k = idxF p fs k
  | [], [], _, _ => rfl
  | d :: fs, v :: vs, k, h => by
    have ih := idxF_zip p fs vs (k + 1) (by simpa using h)
    rw [List.zip_cons_cons]
    unfold idxF
    rw [ih]
  | [], _ :: _, _, h => by simp at h
  | _ :: _, [], _, h => by simp at h
def seenI (i : Int) (n : Nat) : Nat := if i < 0 then n else i.toNat + 1
/-- What DeleteFunc leaves. -/
def DelPost (T : TypeId) (p : ItD → Bool) (base : Nat) (fs : List ItD) (vs : List Value) (J : Nat → World → Prop) (e : Ending) (w' : World) : Prop :=
  ∃ v', e = .returned v' ∧ w'.ownsRow base T 4 v' ((fs.zip vs).filter fun x => !p x.1).length (flat (((fs.zip vs).filter fun x => !p x.1).map (·.1)) (((fs.zip vs).filter fun x => !p x.1).map (·.2))) ∧ J fs.length w'

set_option maxHeartbeats 1000000 in
theorem IndexFuncSLock_any (g : Nat) (lb : Array Value) (p : ItD → Bool) (base : Nat) (v : Value) (fs : List ItD) (vs : List Value) (J : Nat → World → Prop) (w : World) (h : w.ownsRow base 37 4 v fs.length (flat fs vs)) (hvl : vs.length = fs.length) (hn : fs.length ≤ 1048576)
    (eg : ∀ args w, (callFunc g args).run Tryz.prog w = .ok (.enter g args) w) (hJ : J 0 w) (hP : PredJ 37 g lb p base v fs vs J) :
    Calls Tryz.prog 122 #[v, .func (.func g) #[] lb] w fun e w' => e = .returned (.int .i64 (idxF p fs 0)) ∧ J (seenI (idxF p fs 0) fs.length) w' ∧ w'.ownsRow base 37 4 v fs.length (flat fs vs) := by
  obtain ⟨A, cap, rfl, hcap, hcm, hA⟩ := own_slice h
  have HO := Lib.hid h
  have HJ := Lib.hid hJ
  have HP := Lib.hid hP
  have HVL := Lib.hid hvl
  clear h hJ hP hvl
  generalize hnn : fs.length = n at *
  have Hlen := Lib.hid hnn
  clear hnn
  go_enter Tryz.func122, Tryz.ntmps122
  go_wp2_with fail
  go_loopw [8] (fun i wr => ∃ k : Nat, k ≤ n ∧ i = .int .i64 k ∧ Hid (J k wr) ∧ Hid (wr.ownsRow base 37 4 (.slice A n cap) n (flat fs vs)) ∧ Hid (idxF p fs 0 = idxF p (fs.drop k) k)) (fun i _ => n - (intOf i).toNat)
  case atStart => exact ⟨0, Nat.zero_le _, rfl, HJ.out, HO.out, rfl⟩
  case round =>
    obtain ⟨k, hk, rfl, HJk, HOk, hS⟩ := hrel
    by_cases hlt : k < n
    · obtain ⟨g0, rfl, hgl, hgb⟩ := hA (by omega)
      have hl : k < fs.length := by rw [Hlen.out]; exact hlt
      have hvl : vs.length = fs.length := by rw [HVL.out, Hlen.out]
      have x0 := own_cell HOk.out (k * 4) _ (by omega) ((flat_at fs vs k 0 hvl hl (by decide)).trans rfl)
      have x1 := own_cell HOk.out (k * 4 + 1) _ (by omega) ((flat_at fs vs k 1 hvl hl (by decide)).trans rfl)
      have x2 := own_cell HOk.out (k * 4 + 2) _ (by omega) ((flat_at fs vs k 2 hvl hl (by decide)).trans rfl)
      have x3 := own_cell HOk.out (k * 4 + 3) _ (by omega) ((flat_at fs vs k 3 hvl hl (by decide)).trans rfl)
      have HS := Lib.hid (idxF_step p fs k hl)
      have HK := Lib.hid (HP.out.step k hl wr _ HJk.out (by rw [Hlen.out]; exact HOk.out))
      clear hl hvl
      generalize fs.getD k default = s at *
      generalize vs.getD k (.slice none 0 0) = sv at *
      generalize hx : p s = x at *
      have HX := Lib.hid hx
      clear hx
      go_wp2_with fail
      refine HK.out.mono ?_
      rintro e w' ⟨rfl, hj1, ho1, _⟩
      have HJ1 := Lib.hid hj1
      have HO1 := Lib.hid ho1
      clear hj1 ho1
      cases x
      · go_wp2_with fail
        go_roundw
        case rel => exact ⟨k + 1, by omega, by go_num, HJ1.out, by have h := HO1.out; rw [Hlen.out] at h; exact h, by unfold Hid; rw [hS.out, HS.out]; rfl⟩
        case measure => simp [intOf]; omega
      · have HE : Hid (idxF p fs 0 = (k : Int)) := by unfold Hid; rw [hS.out, HS.out]; rfl
        go_wp2_with fail
        go_ret
        refine ⟨ret_int HE.out.symm, ?_, by have h := HO1.out; rw [Hlen.out] at h; exact h⟩
        rw [HE.out, seenI, if_neg (by omega), Int.toNat_natCast]
        exact HJ1.out
    · obtain rfl : k = n := by omega
      have HE : Hid (idxF p fs 0 = -1) := by unfold Hid; rw [hS.out, List.drop_of_length_le (by rw [Hlen.out]; omega)]; rfl
      go_wp2_with fail
      go_ret
      refine ⟨ret_int HE.out.symm, ?_, HOk.out⟩
      rw [HE.out, seenI, if_pos (by decide)]
      exact HJk.out

theorem zeroLock (w : World) : (zeroValue 37).run Tryz.prog w = .ok (.agg #[.int .i64 0, .int .i64 0, .string .empty, .slice none 0 0]) w := by kernel_rfl
set_option maxRecDepth 100000 in
set_option maxHeartbeats 4000000 in
theorem DeleteFuncSLock_any (g : Nat) (lb : Array Value) (p : ItD → Bool) (base : Nat) (v : Value) (fs : List ItD) (vs : List Value) (J : Nat → World → Prop) (w : World) (h : w.ownsRow base 37 4 v fs.length (flat fs vs)) (hvl : vs.length = fs.length) (hvs : ∀ j, j < fs.length → ∃ A1 n1 p1, vs.getD j (.slice none 0 0) = .slice A1 n1 p1) (hn : fs.length ≤ 1048576) (hbw : base ≤ w.heap.size)
    (eg : ∀ args w, (callFunc g args).run Tryz.prog w = .ok (.enter g args) w) (hJ : J 0 w) (hP : PredJ 37 g lb p base v fs vs J) :
    Calls Tryz.prog 82 #[v, .func (.func g) #[] lb] w (DelPost 37 p base fs vs J) := by
  have hpr := flat_pairs fs vs hvl
  have HK := Lib.hid (IndexFuncSLock_any g lb p base v fs vs J w h hvl hn eg hJ hP)
  have HX0 := idxF_cases (fun x : ItD × Value => p x.1) (fs.zip vs) 0
  rw [idxF_zip p fs vs 0 hvl] at HX0
  have HX := Lib.hid HX0
  obtain ⟨A, cap, rfl, hcap, hcm, hA⟩ := own_slice h
  have hzl : (fs.zip vs).length = fs.length := by rw [List.length_zip]; omega
  have HZL := Lib.hid hzl
  have HC := Lib.hid hpr
  have HJ := Lib.hid hJ
  have HP := Lib.hid hP
  have HVL := Lib.hid hvl
  have HVS := Lib.hid hvs
  clear h hJ hP hvl HX0 hpr hzl hvs
  rcases HX.out with ⟨e1, e2⟩ | ⟨k0, hk0, e1, e2⟩
  · rw [e1, seenI, if_pos (by decide)] at HK
    unfold DelPost
    rw [e2, zip_fst fs vs HVL.out, zip_snd fs vs HVL.out]
    clear e1 e2 HX
    go_enter Tryz.func82, Tryz.ntmps82
    go_wp2_with fail
    refine HK.out.mono ?_
    rintro e w1 ⟨rfl, hj1, ho1⟩
    have HJ1 := Lib.hid hj1
    have HO1 := Lib.hid ho1
    clear hj1 ho1
    go_wp2_with fail
    go_ret
    exact ⟨_, rfl, by rw [HZL.out]; exact HO1.out, HJ1.out⟩
  · rw [e1, Nat.zero_add, seenI, if_neg (by omega), Int.toNat_natCast] at HK
    rw [HZL.out] at hk0
    obtain ⟨g0, rfl, hgl, hgb⟩ := hA (by omega)
    have HS := Lib.hid (KeptG.start (p := fun x : ItD × Value => p x.1) HC.out (by rw [HZL.out]; exact hk0) e2)
    have HL : Hid ((flat fs vs).length = fs.length * 4) := flat_len fs vs HVL.out
    clear e1 e2 HX hA
    unfold DelPost
    generalize hnn : fs.length = n at *
    have Hlen := Lib.hid hnn
    clear hnn
    have hne1 : ((k0 : Int) == -1) = false := beq_eq_false_iff_ne.2 (by omega)
    go_enter Tryz.func82, Tryz.ntmps82
    go_wp2_with fail
    refine HK.out.mono ?_
    rintro e w1 ⟨rfl, hj1, ho1⟩
    have HJ1 := Lib.hid hj1
    have HO1 := Lib.hid ho1
    clear hj1 ho1
    go_wp2_with fail
    go_loopw [5, 6] (fun i j wr => ∃ (ii jj : Nat) (ys : List Value), i = .int .i64 ii ∧ j = .int .i64 jj ∧ jj ≤ n ∧ wr.ownsRow base 37 4 (.slice (some ⟨g0, 0, none⟩) n cap) n ys ∧ Hid (KeptG 4 pairR (fun x : ItD × Value => p x.1) (fs.zip vs) (flat fs vs) ii jj ys) ∧ Hid (J jj wr)) (fun _ j _ => n - (intOf j).toNat)
    case atStart => exact ⟨k0, k0 + 1, flat fs vs, rfl, by go_num, by omega, HO1.out, HS.out, HJ1.out⟩
    case round =>
      obtain ⟨i, j, ys, rfl, rfl, hjn, ho, hK, HJj⟩ := hrel
      have HO := Lib.hid ho
      have hij := hK.out.lt
      have hyl : ys.length = n * 4 := ho.1
      clear ho
      by_cases hlt : j < n
      · have hl : j < fs.length := by rw [Hlen.out]; exact hlt
        have hvl : vs.length = fs.length := by rw [HVL.out, Hlen.out]
        have hlz : j < (fs.zip vs).length := by rw [HZL.out]; exact hlt
        have q0 : (flat fs vs)[j * 4]? = _ := (flat_at fs vs j 0 hvl hl (by decide)).trans rfl
        have q1 : (flat fs vs)[j * 4 + 1]? = _ := (flat_at fs vs j 1 hvl hl (by decide)).trans rfl
        have q2 : (flat fs vs)[j * 4 + 2]? = _ := (flat_at fs vs j 2 hvl hl (by decide)).trans rfl
        have q3 : (flat fs vs)[j * 4 + 3]? = _ := (flat_at fs vs j 3 hvl hl (by decide)).trans rfl
        have x0 := own_cell HO.out (j * 4) _ (by omega) ((hK.out.cell 0).trans q0)
        have x1 := own_cell HO.out (j * 4 + 1) _ (by omega) ((hK.out.cell 1).trans q1)
        have x2 := own_cell HO.out (j * 4 + 2) _ (by omega) ((hK.out.cell 2).trans q2)
        obtain ⟨A1, n1, p1, hdv⟩ := HVS.out j (by first | exact hl | exact hlt)
        have x3 : wr.cell? ⟨g0, j * 4 + 3, none⟩ = some (.slice A1 n1 p1) := by rw [← hdv]; exact own_cell HO.out (j * 4 + 3) _ (by omega) ((hK.out.cell 3).trans q3)
        have HPP := Lib.hid (fun o => HP.out.step j hl (wr.alloc o) ys (HP.out.alloc j wr o HJj.out) (by rw [Hlen.out]; exact own_later HO.out (Below.new _ _)))
        have HKeep := Lib.hid (fun (hp : p (fs.getD j default) = false) => hK.out.keep (by rw [HZL.out]; exact HL.out) hlz (by rw [zip_getD fs vs hvl j hl]; exact hp) (c := cellsIt (fs.getD j default) (vs.getD j (.slice none 0 0))) (by rw [zip_getD fs vs hvl j hl]; rfl) rfl)
        have HSkip := Lib.hid (fun (hp : p (fs.getD j default) = true) => hK.out.skip hlz (by rw [zip_getD fs vs hvl j hl]; exact hp))
        rw [hdv] at HPP HKeep
        clear q0 q1 q2 q3 hl hvl hlz
        generalize fs.getD j default = d at *
        clear hdv
        generalize hx : p d = x at *
        clear hx
        obtain ⟨da, db, nm, dss⟩ := d
        go_wp2_with fail
        refine (HPP.out _).mono ?_
        rintro e w2 ⟨rfl, hj2, ho2, hbk⟩
        rw [Hlen.out] at ho2
        have hbq := hbk wr.heap.size #[.int .i64 da, .int .i64 db, .string nm, .slice A1 n1 p1] 37 (heap_last rfl) rfl (fun e => by have := (HO.out.lt _ e).2; omega)
        have b0 := hbq.cell 0
        have b1 := hbq.cell 1
        have b2 := hbq.cell 2
        have b3 := hbq.cell 3
        simp at b0 b1 b2 b3
        have HJ2 := Lib.hid hj2
        have HO2 := Lib.hid ho2
        clear x0 x1 x2 x3 hbk hbq hj2
        cases x
        · obtain ⟨cur, hblk⟩ := own_blk ho2
          have t0 := own_cell ho2 (i * 4) _ (by omega) (List.getElem?_eq_getElem (show i * 4 < ys.length by omega))
          have t1 := own_cell ho2 (i * 4 + 1) _ (by omega) (List.getElem?_eq_getElem (show i * 4 + 1 < ys.length by omega))
          have t2 := own_cell ho2 (i * 4 + 2) _ (by omega) (List.getElem?_eq_getElem (show i * 4 + 2 < ys.length by omega))
          have t3 := own_cell ho2 (i * 4 + 3) _ (by omega) (List.getElem?_eq_getElem (show i * 4 + 3 < ys.length by omega))
          have f0 := hblk.frozen (i * 4)
          have f1 := hblk.frozen (i * 4 + 1)
          have f2 := hblk.frozen (i * 4 + 2)
          have f3 := hblk.frozen (i * 4 + 3)
          have s1 := ho2.stored (i * 4) (.int .i64 da)
          have s2 := s1.1.stored (i * 4 + 1) (.int .i64 db)
          have s3 := s2.1.stored (i * 4 + 2) (.string nm)
          have s4 := s3.1.stored (i * 4 + 3) (.slice A1 n1 p1)
          have hJ3 := HP.out.store (j + 1) _ _ _ HJ2.out (by rw [Hlen.out]; exact ho2) s1.2
          have hJ4 := HP.out.store (j + 1) _ _ _ hJ3 (by rw [Hlen.out]; exact s1.1) s2.2
          have hJ5 := HP.out.store (j + 1) _ _ _ hJ4 (by rw [Hlen.out]; exact s2.1) s3.2
          have HJ3 := Lib.hid (HP.out.store (j + 1) _ _ _ hJ5 (by rw [Hlen.out]; exact s3.1) s4.2)
          have HO3 := Lib.hid s4.1
          rw [set4_put ys i _ _ _ _ (by omega)] at HO3
          have HK3 := Lib.hid (HKeep.out rfl)
          clear hblk s1 s2 s3 s4 ho2 hJ3 hJ4 hJ5
          generalize ys[i * 4] = o0 at *
          generalize ys[i * 4 + 1] = o1 at *
          generalize ys[i * 4 + 2] = o2 at *
          generalize ys[i * 4 + 3] = o3 at *
          have hin : i < n := by omega
          go_wp2_with fail
          go_roundw
          case rel => exact ⟨i + 1, j + 1, _, by go_num, by go_num, by omega, HO3.out, HK3.out, HJ3.out⟩
          case measure => simp [intOf]; omega
        · have HK3 := Lib.hid (HSkip.out rfl)
          clear ho2
          go_wp2_with fail
          go_roundw
          case rel => exact ⟨i, j + 1, ys, rfl, by go_num, by omega, HO2.out, HK3.out, HJ2.out⟩
          case measure => simp [intOf]; omega
      · obtain rfl : j = n := by omega
        have hin : i < j := hij
        obtain ⟨w2, hcl, ho2, hg2⟩ := run_clear_own (P := Tryz.prog) (i := i) HO.out 24 Tryz.underlying24 _ zeroLock rfl (fun u hu => by have := zero_cells_mem hu; simp [Value.cells] at this; rcases this with rfl | rfl | rfl | rfl <;> rfl) hin (cap - i)
        have HO2 := Lib.hid ho2
        have HJ2 := Lib.hid (HP.out.store j _ _ _ HJj.out (by rw [Hlen.out]; exact HO.out) hg2)
        have HE0 : ((fs.zip vs).filter fun x => !p x.1).length = i ∧ CellsG 4 pairR ((fs.zip vs).filter fun x => !p x.1) (ys.take (i * 4)) := by
          have hk := hK.out
          have hl := HZL.out
          rw [← hl] at hk
          exact hk.done
        have HE := Lib.hid HE0
        have HEF := Lib.hid (pairs_flat _ _ HE0.2)
        have hcn : ¬ cap = i := by omega
        clear ho2 hg2 HE0
        go_wp2_with (simp only [hcl])
        go_ret
        refine ⟨_, rfl, ?_, HJ2.out⟩
        rw [HE.out.1, ← HEF.out]
        exact HO2.out

set_option maxHeartbeats 1000000 in
theorem IndexFuncSAsk_any (g : Nat) (lb : Array Value) (p : ItD → Bool) (base : Nat) (v : Value) (fs : List ItD) (vs : List Value) (J : Nat → World → Prop) (w : World) (h : w.ownsRow base 42 4 v fs.length (flat fs vs)) (hvl : vs.length = fs.length) (hn : fs.length ≤ 1048576)
    (eg : ∀ args w, (callFunc g args).run Tryz.prog w = .ok (.enter g args) w) (hJ : J 0 w) (hP : PredJ 42 g lb p base v fs vs J) :
    Calls Tryz.prog 86 #[v, .func (.func g) #[] lb] w fun e w' => e = .returned (.int .i64 (idxF p fs 0)) ∧ J (seenI (idxF p fs 0) fs.length) w' ∧ w'.ownsRow base 42 4 v fs.length (flat fs vs) := by
  obtain ⟨A, cap, rfl, hcap, hcm, hA⟩ := own_slice h
  have HO := Lib.hid h
  have HJ := Lib.hid hJ
  have HP := Lib.hid hP
  have HVL := Lib.hid hvl
  clear h hJ hP hvl
  generalize hnn : fs.length = n at *
  have Hlen := Lib.hid hnn
  clear hnn
  go_enter Tryz.func86, Tryz.ntmps86
  go_wp2_with fail
  go_loopw [8] (fun i wr => ∃ k : Nat, k ≤ n ∧ i = .int .i64 k ∧ Hid (J k wr) ∧ Hid (wr.ownsRow base 42 4 (.slice A n cap) n (flat fs vs)) ∧ Hid (idxF p fs 0 = idxF p (fs.drop k) k)) (fun i _ => n - (intOf i).toNat)
  case atStart => exact ⟨0, Nat.zero_le _, rfl, HJ.out, HO.out, rfl⟩
  case round =>
    obtain ⟨k, hk, rfl, HJk, HOk, hS⟩ := hrel
    by_cases hlt : k < n
    · obtain ⟨g0, rfl, hgl, hgb⟩ := hA (by omega)
      have hl : k < fs.length := by rw [Hlen.out]; exact hlt
      have hvl : vs.length = fs.length := by rw [HVL.out, Hlen.out]
      have x0 := own_cell HOk.out (k * 4) _ (by omega) ((flat_at fs vs k 0 hvl hl (by decide)).trans rfl)
      have x1 := own_cell HOk.out (k * 4 + 1) _ (by omega) ((flat_at fs vs k 1 hvl hl (by decide)).trans rfl)
      have x2 := own_cell HOk.out (k * 4 + 2) _ (by omega) ((flat_at fs vs k 2 hvl hl (by decide)).trans rfl)
      have x3 := own_cell HOk.out (k * 4 + 3) _ (by omega) ((flat_at fs vs k 3 hvl hl (by decide)).trans rfl)
      have HS := Lib.hid (idxF_step p fs k hl)
      have HK := Lib.hid (HP.out.step k hl wr _ HJk.out (by rw [Hlen.out]; exact HOk.out))
      clear hl hvl
      generalize fs.getD k default = s at *
      generalize vs.getD k (.slice none 0 0) = sv at *
      generalize hx : p s = x at *
      have HX := Lib.hid hx
      clear hx
      go_wp2_with fail
      refine HK.out.mono ?_
      rintro e w' ⟨rfl, hj1, ho1, _⟩
      have HJ1 := Lib.hid hj1
      have HO1 := Lib.hid ho1
      clear hj1 ho1
      cases x
      · go_wp2_with fail
        go_roundw
        case rel => exact ⟨k + 1, by omega, by go_num, HJ1.out, by have h := HO1.out; rw [Hlen.out] at h; exact h, by unfold Hid; rw [hS.out, HS.out]; rfl⟩
        case measure => simp [intOf]; omega
      · have HE : Hid (idxF p fs 0 = (k : Int)) := by unfold Hid; rw [hS.out, HS.out]; rfl
        go_wp2_with fail
        go_ret
        refine ⟨ret_int HE.out.symm, ?_, by have h := HO1.out; rw [Hlen.out] at h; exact h⟩
        rw [HE.out, seenI, if_neg (by omega), Int.toNat_natCast]
        exact HJ1.out
    · obtain rfl : k = n := by omega
      have HE : Hid (idxF p fs 0 = -1) := by unfold Hid; rw [hS.out, List.drop_of_length_le (by rw [Hlen.out]; omega)]; rfl
      go_wp2_with fail
      go_ret
      refine ⟨ret_int HE.out.symm, ?_, HOk.out⟩
      rw [HE.out, seenI, if_pos (by decide)]
      exact HJk.out

theorem zeroAsk (w : World) : (zeroValue 42).run Tryz.prog w = .ok (.agg #[.int .i64 0, .int .i64 0, .string .empty, .slice none 0 0]) w := by kernel_rfl
set_option maxRecDepth 100000 in
set_option maxHeartbeats 4000000 in
theorem DeleteFuncSAsk_any (g : Nat) (lb : Array Value) (p : ItD → Bool) (base : Nat) (v : Value) (fs : List ItD) (vs : List Value) (J : Nat → World → Prop) (w : World) (h : w.ownsRow base 42 4 v fs.length (flat fs vs)) (hvl : vs.length = fs.length) (hvs : ∀ j, j < fs.length → ∃ A1 n1 p1, vs.getD j (.slice none 0 0) = .slice A1 n1 p1) (hn : fs.length ≤ 1048576) (hbw : base ≤ w.heap.size)
    (eg : ∀ args w, (callFunc g args).run Tryz.prog w = .ok (.enter g args) w) (hJ : J 0 w) (hP : PredJ 42 g lb p base v fs vs J) :
    Calls Tryz.prog 84 #[v, .func (.func g) #[] lb] w (DelPost 42 p base fs vs J) := by
  have hpr := flat_pairs fs vs hvl
  have HK := Lib.hid (IndexFuncSAsk_any g lb p base v fs vs J w h hvl hn eg hJ hP)
  have HX0 := idxF_cases (fun x : ItD × Value => p x.1) (fs.zip vs) 0
  rw [idxF_zip p fs vs 0 hvl] at HX0
  have HX := Lib.hid HX0
  obtain ⟨A, cap, rfl, hcap, hcm, hA⟩ := own_slice h
  have hzl : (fs.zip vs).length = fs.length := by rw [List.length_zip]; omega
  have HZL := Lib.hid hzl
  have HC := Lib.hid hpr
  have HJ := Lib.hid hJ
  have HP := Lib.hid hP
  have HVL := Lib.hid hvl
  have HVS := Lib.hid hvs
  clear h hJ hP hvl HX0 hpr hzl hvs
  rcases HX.out with ⟨e1, e2⟩ | ⟨k0, hk0, e1, e2⟩
  · rw [e1, seenI, if_pos (by decide)] at HK
    unfold DelPost
    rw [e2, zip_fst fs vs HVL.out, zip_snd fs vs HVL.out]
    clear e1 e2 HX
    go_enter Tryz.func84, Tryz.ntmps84
    go_wp2_with fail
    refine HK.out.mono ?_
    rintro e w1 ⟨rfl, hj1, ho1⟩
    have HJ1 := Lib.hid hj1
    have HO1 := Lib.hid ho1
    clear hj1 ho1
    go_wp2_with fail
    go_ret
    exact ⟨_, rfl, by rw [HZL.out]; exact HO1.out, HJ1.out⟩
  · rw [e1, Nat.zero_add, seenI, if_neg (by omega), Int.toNat_natCast] at HK
    rw [HZL.out] at hk0
    obtain ⟨g0, rfl, hgl, hgb⟩ := hA (by omega)
    have HS := Lib.hid (KeptG.start (p := fun x : ItD × Value => p x.1) HC.out (by rw [HZL.out]; exact hk0) e2)
    have HL : Hid ((flat fs vs).length = fs.length * 4) := flat_len fs vs HVL.out
    clear e1 e2 HX hA
    unfold DelPost
    generalize hnn : fs.length = n at *
    have Hlen := Lib.hid hnn
    clear hnn
    have hne1 : ((k0 : Int) == -1) = false := beq_eq_false_iff_ne.2 (by omega)
    go_enter Tryz.func84, Tryz.ntmps84
    go_wp2_with fail
    refine HK.out.mono ?_
    rintro e w1 ⟨rfl, hj1, ho1⟩
    have HJ1 := Lib.hid hj1
    have HO1 := Lib.hid ho1
    clear hj1 ho1
    go_wp2_with fail
    go_loopw [5, 6] (fun i j wr => ∃ (ii jj : Nat) (ys : List Value), i = .int .i64 ii ∧ j = .int .i64 jj ∧ jj ≤ n ∧ wr.ownsRow base 42 4 (.slice (some ⟨g0, 0, none⟩) n cap) n ys ∧ Hid (KeptG 4 pairR (fun x : ItD × Value => p x.1) (fs.zip vs) (flat fs vs) ii jj ys) ∧ Hid (J jj wr)) (fun _ j _ => n - (intOf j).toNat)
    case atStart => exact ⟨k0, k0 + 1, flat fs vs, rfl, by go_num, by omega, HO1.out, HS.out, HJ1.out⟩
    case round =>
      obtain ⟨i, j, ys, rfl, rfl, hjn, ho, hK, HJj⟩ := hrel
      have HO := Lib.hid ho
      have hij := hK.out.lt
      have hyl : ys.length = n * 4 := ho.1
      clear ho
      by_cases hlt : j < n
      · have hl : j < fs.length := by rw [Hlen.out]; exact hlt
        have hvl : vs.length = fs.length := by rw [HVL.out, Hlen.out]
        have hlz : j < (fs.zip vs).length := by rw [HZL.out]; exact hlt
        have q0 : (flat fs vs)[j * 4]? = _ := (flat_at fs vs j 0 hvl hl (by decide)).trans rfl
        have q1 : (flat fs vs)[j * 4 + 1]? = _ := (flat_at fs vs j 1 hvl hl (by decide)).trans rfl
        have q2 : (flat fs vs)[j * 4 + 2]? = _ := (flat_at fs vs j 2 hvl hl (by decide)).trans rfl
        have q3 : (flat fs vs)[j * 4 + 3]? = _ := (flat_at fs vs j 3 hvl hl (by decide)).trans rfl
        have x0 := own_cell HO.out (j * 4) _ (by omega) ((hK.out.cell 0).trans q0)
        have x1 := own_cell HO.out (j * 4 + 1) _ (by omega) ((hK.out.cell 1).trans q1)
        have x2 := own_cell HO.out (j * 4 + 2) _ (by omega) ((hK.out.cell 2).trans q2)
        obtain ⟨A1, n1, p1, hdv⟩ := HVS.out j (by first | exact hl | exact hlt)
        have x3 : wr.cell? ⟨g0, j * 4 + 3, none⟩ = some (.slice A1 n1 p1) := by rw [← hdv]; exact own_cell HO.out (j * 4 + 3) _ (by omega) ((hK.out.cell 3).trans q3)
        have HPP := Lib.hid (fun o => HP.out.step j hl (wr.alloc o) ys (HP.out.alloc j wr o HJj.out) (by rw [Hlen.out]; exact own_later HO.out (Below.new _ _)))
        have HKeep := Lib.hid (fun (hp : p (fs.getD j default) = false) => hK.out.keep (by rw [HZL.out]; exact HL.out) hlz (by rw [zip_getD fs vs hvl j hl]; exact hp) (c := cellsIt (fs.getD j default) (vs.getD j (.slice none 0 0))) (by rw [zip_getD fs vs hvl j hl]; rfl) rfl)
        have HSkip := Lib.hid (fun (hp : p (fs.getD j default) = true) => hK.out.skip hlz (by rw [zip_getD fs vs hvl j hl]; exact hp))
        rw [hdv] at HPP HKeep
        clear q0 q1 q2 q3 hl hvl hlz
        generalize fs.getD j default = d at *
        clear hdv
        generalize hx : p d = x at *
        clear hx
        obtain ⟨da, db, nm, dss⟩ := d
        go_wp2_with fail
        refine (HPP.out _).mono ?_
        rintro e w2 ⟨rfl, hj2, ho2, hbk⟩
        rw [Hlen.out] at ho2
        have hbq := hbk wr.heap.size #[.int .i64 da, .int .i64 db, .string nm, .slice A1 n1 p1] 42 (heap_last rfl) rfl (fun e => by have := (HO.out.lt _ e).2; omega)
        have b0 := hbq.cell 0
        have b1 := hbq.cell 1
        have b2 := hbq.cell 2
        have b3 := hbq.cell 3
        simp at b0 b1 b2 b3
        have HJ2 := Lib.hid hj2
        have HO2 := Lib.hid ho2
        clear x0 x1 x2 x3 hbk hbq hj2
        cases x
        · obtain ⟨cur, hblk⟩ := own_blk ho2
          have t0 := own_cell ho2 (i * 4) _ (by omega) (List.getElem?_eq_getElem (show i * 4 < ys.length by omega))
          have t1 := own_cell ho2 (i * 4 + 1) _ (by omega) (List.getElem?_eq_getElem (show i * 4 + 1 < ys.length by omega))
          have t2 := own_cell ho2 (i * 4 + 2) _ (by omega) (List.getElem?_eq_getElem (show i * 4 + 2 < ys.length by omega))
          have t3 := own_cell ho2 (i * 4 + 3) _ (by omega) (List.getElem?_eq_getElem (show i * 4 + 3 < ys.length by omega))
          have f0 := hblk.frozen (i * 4)
          have f1 := hblk.frozen (i * 4 + 1)
          have f2 := hblk.frozen (i * 4 + 2)
          have f3 := hblk.frozen (i * 4 + 3)
          have s1 := ho2.stored (i * 4) (.int .i64 da)
          have s2 := s1.1.stored (i * 4 + 1) (.int .i64 db)
          have s3 := s2.1.stored (i * 4 + 2) (.string nm)
          have s4 := s3.1.stored (i * 4 + 3) (.slice A1 n1 p1)
          have hJ3 := HP.out.store (j + 1) _ _ _ HJ2.out (by rw [Hlen.out]; exact ho2) s1.2
          have hJ4 := HP.out.store (j + 1) _ _ _ hJ3 (by rw [Hlen.out]; exact s1.1) s2.2
          have hJ5 := HP.out.store (j + 1) _ _ _ hJ4 (by rw [Hlen.out]; exact s2.1) s3.2
          have HJ3 := Lib.hid (HP.out.store (j + 1) _ _ _ hJ5 (by rw [Hlen.out]; exact s3.1) s4.2)
          have HO3 := Lib.hid s4.1
          rw [set4_put ys i _ _ _ _ (by omega)] at HO3
          have HK3 := Lib.hid (HKeep.out rfl)
          clear hblk s1 s2 s3 s4 ho2 hJ3 hJ4 hJ5
          generalize ys[i * 4] = o0 at *
          generalize ys[i * 4 + 1] = o1 at *
          generalize ys[i * 4 + 2] = o2 at *
          generalize ys[i * 4 + 3] = o3 at *
          have hin : i < n := by omega
          go_wp2_with fail
          go_roundw
          case rel => exact ⟨i + 1, j + 1, _, by go_num, by go_num, by omega, HO3.out, HK3.out, HJ3.out⟩
          case measure => simp [intOf]; omega
        · have HK3 := Lib.hid (HSkip.out rfl)
          clear ho2
          go_wp2_with fail
          go_roundw
          case rel => exact ⟨i, j + 1, ys, rfl, by go_num, by omega, HO2.out, HK3.out, HJ2.out⟩
          case measure => simp [intOf]; omega
      · obtain rfl : j = n := by omega
        have hin : i < j := hij
        obtain ⟨w2, hcl, ho2, hg2⟩ := run_clear_own (P := Tryz.prog) (i := i) HO.out 25 Tryz.underlying25 _ zeroAsk rfl (fun u hu => by have := zero_cells_mem hu; simp [Value.cells] at this; rcases this with rfl | rfl | rfl | rfl <;> rfl) hin (cap - i)
        have HO2 := Lib.hid ho2
        have HJ2 := Lib.hid (HP.out.store j _ _ _ HJj.out (by rw [Hlen.out]; exact HO.out) hg2)
        have HE0 : ((fs.zip vs).filter fun x => !p x.1).length = i ∧ CellsG 4 pairR ((fs.zip vs).filter fun x => !p x.1) (ys.take (i * 4)) := by
          have hk := hK.out
          have hl := HZL.out
          rw [← hl] at hk
          exact hk.done
        have HE := Lib.hid HE0
        have HEF := Lib.hid (pairs_flat _ _ HE0.2)
        have hcn : ¬ cap = i := by omega
        clear ho2 hg2 HE0
        go_wp2_with (simp only [hcl])
        go_ret
        refine ⟨_, rfl, ?_, HJ2.out⟩
        rw [HE.out.1, ← HEF.out]
        exact HO2.out
end Go.Proofs.YtiebcdajoddkpaaGreatDoor

namespace Go.Proofs.YtiebcdajoddkpaaGreatDoor
open Go.RowKit
set_option linter.unusedVariables false

def DltPost (T : TypeId) (base i n : Nat) (v : Value) (xs : List Value) (w : World) (e : Ending) (w' : World) : Prop :=
  ∃ v', e = .returned v' ∧ w'.ownsRow base T 4 v' (n - 1) (xs.take (i * 4) ++ xs.drop ((i + 1) * 4)) ∧ w.grownBy w' v.ownBlock
theorem step_append_run {P : Program} {ops : Array Oper} {o : Oper} {a : Act} {w : World} {K : Act → World → Prop} {Q : Exit → Act → World → Prop} {E : Prop}
    (hg : o.guard = none) (d x : Operand) (t : TypeId) (hop : o.op = Op.call { callee := Callee.builtin Builtin.append, args := #[d, x], argTypes := #[t, t] })
    (v u : Value) (hd : a.eval d = v) (hx : a.eval x = u) {v' : Value} {w' : World} (hr : (Builtin.append_ #[t, t] o.type #[v, u]).run P w = .ok v' w') (hK : K (a.put o.dst v') w') :
    if Region.wanted o (yielded ops a.tmps) = true then Oper.wp P o a w K Q else E := by
  have hw : Region.wanted o (yielded ops a.tmps) = true := by simp [Region.wanted, hg]
  rw [if_pos hw]
  unfold Oper.wp
  simp [execOp, hop, resolve, invoke, builtin, hd, hx, hr, Result.andThen]
  exact hK
theorem dlt_row (cur xs : List Value) (n i m : Nat) (hx : cur.take (n * 4) = xs) (hl : xs.length = n * 4) (hi : i < n) (hc : cur.length = m * 4) (hm : n ≤ m) :
    ((cur.take (i * 4) ++ xs.drop ((i + 1) * 4) ++ cur.drop (i * 4 + (xs.drop ((i + 1) * 4)).length)).take (n * 4)).take ((n - 1) * 4) = xs.take (i * 4) ++ xs.drop ((i + 1) * 4) := by
  have h1 : cur.take (i * 4) = xs.take (i * 4) := by rw [← hx, List.take_take]; congr 1; omega
  rw [h1, List.take_take, List.take_append_of_le_length (by simp only [List.length_append, List.length_take, List.length_drop, hl]; omega), List.take_of_length_le (by simp only [List.length_append, List.length_take, List.length_drop, hl]; omega)]

set_option maxRecDepth 100000 in
set_option maxHeartbeats 2000000 in
theorem DeleteLock_any (base : Nat) (v : Value) (n i : Nat) (xs : List Value) (w : World) (h : w.ownsRow base 37 4 v n xs) (hn : n ≤ 1048576) (hin : i < n) (hx1 : ∀ u ∈ xs, u.oneCell' = true) :
    Calls Tryz.prog 107 #[v, .int .i64 i, .int .i64 (i + 1 : Nat)] w (DltPost 37 base i n v xs w) := by
  obtain ⟨i0, hi, hz0, hz1, hz2⟩ := info_parts infoLock
  obtain ⟨hlen, hor⟩ := h
  rcases hor with ⟨h0, h00⟩ | ⟨g, cap, cur, rfl, hbase, hg, hcap, hcm, hcs, htk⟩
  · omega
  unfold maxLen at hcm
  have hdl : (xs.drop ((i + 1) * 4)).length = (n - (i + 1)) * 4 := by rw [List.length_drop, hlen]; omega
  have hgB : Blk w g 37 cur := hg
  obtain ⟨R1, hR1⟩ : ∃ R1 : List Value, R1 = cur.toList.take (i * 4) ++ xs.drop ((i + 1) * 4) ++ cur.toList.drop (i * 4 + (xs.drop ((i + 1) * 4)).length) := ⟨_, rfl⟩
  have hR1l : R1.length = cap * 4 := by
    rw [hR1]; simp only [List.length_append, List.length_take, List.length_drop, Array.length_toList, hcs, hlen]; omega
  have HROW : Hid ((R1.take (n * 4)).take ((n - 1) * 4) = xs.take (i * 4) ++ xs.drop ((i + 1) * 4)) := by rw [hR1]; exact dlt_row cur.toList xs n i cap htk hlen hin (by simpa using hcs) hcap
  obtain ⟨W1, hW1⟩ : ∃ W1, W1 = w.drew.setRow g R1.toArray := ⟨_, rfl⟩
  have hsrc : ∀ j u, (xs.drop ((i + 1) * 4))[j]? = some u → w.drew.cell? ((⟨g, (i + 1) * 4, none⟩ : Addr).add j) = some u := fun j u hj => by
    rw [add_offN]
    refine (hgB.cell _).trans ?_
    rw [List.getElem?_drop, ← htk, List.getElem?_take] at hj
    split at hj
    · simpa using hj
    · cases hj
  have hld0 := run_loadCells_list (P := Tryz.prog) w.drew ⟨g, (i + 1) * 4, none⟩ (xs.drop ((i + 1) * 4)) hsrc
  have hst0 := run_storeCells_at Tryz.prog g (i * 4) 37 (xs.drop ((i + 1) * 4)) 0 cur w.drew hg (by rw [hdl, Nat.add_zero, hcs]; omega) (fun v hv => hx1 v (List.mem_of_mem_drop hv))
  simp only [Nat.add_zero] at hst0
  rw [← hR1, ← hW1] at hst0
  rw [hdl] at hld0
  have hld1 : (loadCellsFrom ⟨g, (i + 1) * 4, none⟩ 0 ((n - (i + 1)) * 4) #[]).run Tryz.prog w.drew = .ok (xs.drop ((i + 1) * 4)).toArray w.drew := hld0
  have hO0 : w.drew.ownsRow base 37 4 (.slice (some ⟨g, 0, none⟩) n cap) n xs := ⟨hlen, .inr ⟨g, cap, cur, rfl, hbase, hg, hcap, by unfold maxLen; exact hcm, hcs, htk⟩⟩
  have HG1 : W1.heap[g]? = some (.cells R1.toArray 37 (0, 0)) := by rw [hW1]; exact setRow_heap _ _ _ _ _ _ hg
  have hO1 : W1.ownsRow base 37 4 (.slice (some ⟨g, 0, none⟩) n cap) n (R1.take (n * 4)) :=
    ⟨by rw [List.length_take, hR1l]; omega, .inr ⟨g, cap, R1.toArray, rfl, hbase, HG1, hcap, by unfold maxLen; exact hcm, by simpa using hR1l, by simp⟩⟩
  have hGR : w.grownBy W1 (some g) := by
    rw [hW1]
    exact ⟨rfl, rfl, rfl, by simp, fun k _ hk => (setRow_other _ _ _ _ (fun e => hk (by rw [e])))⟩
  obtain ⟨w2, hcl, ho2, hg2⟩ := run_clear_own (P := Tryz.prog) (i := n - 1) hO1 24 Tryz.underlying24 _ zeroLock rfl (fun u hu => by have := zero_cells_mem hu; simp [Value.cells] at this; rcases this with rfl | rfl | rfl | rfl <;> rfl) (by omega) (cap - (n - 1))
  rw [HROW.out] at ho2
  obtain ⟨w3, hcl3, ho3, hg3⟩ := run_clear_own (P := Tryz.prog) (i := n - 1) hO0 24 Tryz.underlying24 _ zeroLock rfl (fun u hu => by have := zero_cells_mem hu; simp [Value.cells] at this; rcases this with rfl | rfl | rfl | rfl <;> rfl) (by omega) (cap - (n - 1))
  have HO3 := Lib.hid ho3
  have HG3 : Hid (w.grownBy w3 (some g)) := (⟨rfl, rfl, rfl, Nat.le_refl _, fun _ _ _ => rfl⟩ : w.grownBy w.drew (some g)).trans hg3
  have HCL3 := Lib.hid hcl3
  have HXL : Hid (n = i + 1 → xs.take ((n - 1) * 4) = xs.take (i * 4) ++ xs.drop ((i + 1) * 4)) := fun e => by
    rw [List.drop_of_length_le (by rw [hlen, e]; omega), List.append_nil, e]; rfl
  have HO2 := Lib.hid ho2
  have HG2 := Lib.hid (hGR.trans hg2)
  have HLD := Lib.hid hld1
  have HST := Lib.hid hst0
  have HCL := Lib.hid hcl
  clear hx1 hld0 hld1 hst0 hsrc hcl hcl3 ho3 hg3 hO0 ho2 hg2 hGR hO1 HG1 hW1 hR1 hR1l HROW hgB hg htk hcs hlen hdl hi hz0 hz1 hz2
  have hi1 : ((i + 1 : Nat) : Int) = (i : Int) + 1 := by omega
  have htn : ((i : Int) + 1).toNat = i + 1 := by omega
  have hne : ((i : Int) == (i : Int) + 1) = false := by rw [beq_eq_false_iff_ne]; omega
  have hnn : n - (n - 1) = 1 := by omega
  rw [hi1]
  go_enter Tryz.func107, Tryz.ntmps107
  have hiw : IntKind.i64.wrap ((i : Int) + 1) = (i : Int) + 1 := by rw [IntKind.wrap_i64]; omega
  have hic : i ≤ cap := by omega
  have hf1 : (i : Int) ≤ (i : Int) + 1 := by omega
  have hf2 : (0 : Int) ≤ (i : Int) + 1 := by omega
  have hf3 : (i : Int) + 1 ≤ (n : Int) := by omega
  have hf4 : (i : Int) ≤ (cap : Int) := by omega
  by_cases hni : n = i + 1
  · subst hni
    have hcl : ∀ ty, (Builtin.clear_ #[24] ty #[.slice (some ⟨g, i * 4, none⟩) 1 (cap - i)]).run Tryz.prog w.drew = .ok (.tuple #[]) w3 := fun ty => by
      have h := HCL3.out ty
      rw [show i + 1 - 1 = i from by omega, show i + 1 - i = 1 from by omega] at h
      exact h
    have HRES : Hid (w3.ownsRow base 37 4 (.slice (some ⟨g, 0, none⟩) i cap) i (xs.take (i * 4) ++ xs.drop ((i + 1) * 4))) := by
      have h := HO3.out
      rw [HXL.out rfl] at h
      exact h
    clear HLD HST HCL HCL3 HO2 HG2 HXL
    by_cases hcn : cap = i + 1
    · subst hcn
      rw [show i + 1 - i = 1 from by omega] at hcl
      go_wp2_with fail
      go_region
      go_wp2_with (simp only [hcl])
      go_ret
      exact ⟨_, rfl, HRES.out, HG3.out⟩
    · go_wp2_with fail
      go_region
      go_wp2_with (simp only [hcl])
      go_ret
      exact ⟨_, rfl, HRES.out, HG3.out⟩
  · have hcl : ∀ ty, (Builtin.clear_ #[24] ty #[.slice (some ⟨g, (n - 1) * 4, none⟩) 1 (cap - (n - 1))]).run Tryz.prog W1 = .ok (.tuple #[]) w2 := fun ty => by
      have h := HCL.out ty
      rw [show n - (n - 1) = 1 from by omega] at h
      exact h
    have hld := HLD.out
    have hst := HST.out
    have hq2 : i + (n - (i + 1)) ≤ cap := by omega
    have hq3 : i + (n - (i + 1)) = n - 1 := by omega
    have hcn : ¬ cap = i + 1 := by omega
    clear HLD HST HCL HCL3 HO3 HG3 HXL
    go_wp2_with fail
    go_region
    go_wp2_with (simp only [hcl])
    go_ret
    exact ⟨_, rfl, HO2.out, HG2.out⟩

set_option maxRecDepth 100000 in
set_option maxHeartbeats 2000000 in
theorem DeleteAsk_any (base : Nat) (v : Value) (n i : Nat) (xs : List Value) (w : World) (h : w.ownsRow base 42 4 v n xs) (hn : n ≤ 1048576) (hin : i < n) (hx1 : ∀ u ∈ xs, u.oneCell' = true) :
    Calls Tryz.prog 89 #[v, .int .i64 i, .int .i64 (i + 1 : Nat)] w (DltPost 42 base i n v xs w) := by
  obtain ⟨i0, hi, hz0, hz1, hz2⟩ := info_parts infoAsk
  obtain ⟨hlen, hor⟩ := h
  rcases hor with ⟨h0, h00⟩ | ⟨g, cap, cur, rfl, hbase, hg, hcap, hcm, hcs, htk⟩
  · omega
  unfold maxLen at hcm
  have hdl : (xs.drop ((i + 1) * 4)).length = (n - (i + 1)) * 4 := by rw [List.length_drop, hlen]; omega
  have hgB : Blk w g 42 cur := hg
  obtain ⟨R1, hR1⟩ : ∃ R1 : List Value, R1 = cur.toList.take (i * 4) ++ xs.drop ((i + 1) * 4) ++ cur.toList.drop (i * 4 + (xs.drop ((i + 1) * 4)).length) := ⟨_, rfl⟩
  have hR1l : R1.length = cap * 4 := by
    rw [hR1]; simp only [List.length_append, List.length_take, List.length_drop, Array.length_toList, hcs, hlen]; omega
  have HROW : Hid ((R1.take (n * 4)).take ((n - 1) * 4) = xs.take (i * 4) ++ xs.drop ((i + 1) * 4)) := by rw [hR1]; exact dlt_row cur.toList xs n i cap htk hlen hin (by simpa using hcs) hcap
  obtain ⟨W1, hW1⟩ : ∃ W1, W1 = w.drew.setRow g R1.toArray := ⟨_, rfl⟩
  have hsrc : ∀ j u, (xs.drop ((i + 1) * 4))[j]? = some u → w.drew.cell? ((⟨g, (i + 1) * 4, none⟩ : Addr).add j) = some u := fun j u hj => by
    rw [add_offN]
    refine (hgB.cell _).trans ?_
    rw [List.getElem?_drop, ← htk, List.getElem?_take] at hj
    split at hj
    · simpa using hj
    · cases hj
  have hld0 := run_loadCells_list (P := Tryz.prog) w.drew ⟨g, (i + 1) * 4, none⟩ (xs.drop ((i + 1) * 4)) hsrc
  have hst0 := run_storeCells_at Tryz.prog g (i * 4) 42 (xs.drop ((i + 1) * 4)) 0 cur w.drew hg (by rw [hdl, Nat.add_zero, hcs]; omega) (fun v hv => hx1 v (List.mem_of_mem_drop hv))
  simp only [Nat.add_zero] at hst0
  rw [← hR1, ← hW1] at hst0
  rw [hdl] at hld0
  have hld1 : (loadCellsFrom ⟨g, (i + 1) * 4, none⟩ 0 ((n - (i + 1)) * 4) #[]).run Tryz.prog w.drew = .ok (xs.drop ((i + 1) * 4)).toArray w.drew := hld0
  have hO0 : w.drew.ownsRow base 42 4 (.slice (some ⟨g, 0, none⟩) n cap) n xs := ⟨hlen, .inr ⟨g, cap, cur, rfl, hbase, hg, hcap, by unfold maxLen; exact hcm, hcs, htk⟩⟩
  have HG1 : W1.heap[g]? = some (.cells R1.toArray 42 (0, 0)) := by rw [hW1]; exact setRow_heap _ _ _ _ _ _ hg
  have hO1 : W1.ownsRow base 42 4 (.slice (some ⟨g, 0, none⟩) n cap) n (R1.take (n * 4)) :=
    ⟨by rw [List.length_take, hR1l]; omega, .inr ⟨g, cap, R1.toArray, rfl, hbase, HG1, hcap, by unfold maxLen; exact hcm, by simpa using hR1l, by simp⟩⟩
  have hGR : w.grownBy W1 (some g) := by
    rw [hW1]
    exact ⟨rfl, rfl, rfl, by simp, fun k _ hk => (setRow_other _ _ _ _ (fun e => hk (by rw [e])))⟩
  obtain ⟨w2, hcl, ho2, hg2⟩ := run_clear_own (P := Tryz.prog) (i := n - 1) hO1 25 Tryz.underlying25 _ zeroAsk rfl (fun u hu => by have := zero_cells_mem hu; simp [Value.cells] at this; rcases this with rfl | rfl | rfl | rfl <;> rfl) (by omega) (cap - (n - 1))
  rw [HROW.out] at ho2
  obtain ⟨w3, hcl3, ho3, hg3⟩ := run_clear_own (P := Tryz.prog) (i := n - 1) hO0 25 Tryz.underlying25 _ zeroAsk rfl (fun u hu => by have := zero_cells_mem hu; simp [Value.cells] at this; rcases this with rfl | rfl | rfl | rfl <;> rfl) (by omega) (cap - (n - 1))
  have HO3 := Lib.hid ho3
  have HG3 : Hid (w.grownBy w3 (some g)) := (⟨rfl, rfl, rfl, Nat.le_refl _, fun _ _ _ => rfl⟩ : w.grownBy w.drew (some g)).trans hg3
  have HCL3 := Lib.hid hcl3
  have HXL : Hid (n = i + 1 → xs.take ((n - 1) * 4) = xs.take (i * 4) ++ xs.drop ((i + 1) * 4)) := fun e => by
    rw [List.drop_of_length_le (by rw [hlen, e]; omega), List.append_nil, e]; rfl
  have HO2 := Lib.hid ho2
  have HG2 := Lib.hid (hGR.trans hg2)
  have HLD := Lib.hid hld1
  have HST := Lib.hid hst0
  have HCL := Lib.hid hcl
  clear hx1 hld0 hld1 hst0 hsrc hcl hcl3 ho3 hg3 hO0 ho2 hg2 hGR hO1 HG1 hW1 hR1 hR1l HROW hgB hg htk hcs hlen hdl hi hz0 hz1 hz2
  have hi1 : ((i + 1 : Nat) : Int) = (i : Int) + 1 := by omega
  have htn : ((i : Int) + 1).toNat = i + 1 := by omega
  have hne : ((i : Int) == (i : Int) + 1) = false := by rw [beq_eq_false_iff_ne]; omega
  have hnn : n - (n - 1) = 1 := by omega
  rw [hi1]
  go_enter Tryz.func89, Tryz.ntmps89
  have hiw : IntKind.i64.wrap ((i : Int) + 1) = (i : Int) + 1 := by rw [IntKind.wrap_i64]; omega
  have hic : i ≤ cap := by omega
  have hf1 : (i : Int) ≤ (i : Int) + 1 := by omega
  have hf2 : (0 : Int) ≤ (i : Int) + 1 := by omega
  have hf3 : (i : Int) + 1 ≤ (n : Int) := by omega
  have hf4 : (i : Int) ≤ (cap : Int) := by omega
  by_cases hni : n = i + 1
  · subst hni
    have hcl : ∀ ty, (Builtin.clear_ #[25] ty #[.slice (some ⟨g, i * 4, none⟩) 1 (cap - i)]).run Tryz.prog w.drew = .ok (.tuple #[]) w3 := fun ty => by
      have h := HCL3.out ty
      rw [show i + 1 - 1 = i from by omega, show i + 1 - i = 1 from by omega] at h
      exact h
    have HRES : Hid (w3.ownsRow base 42 4 (.slice (some ⟨g, 0, none⟩) i cap) i (xs.take (i * 4) ++ xs.drop ((i + 1) * 4))) := by
      have h := HO3.out
      rw [HXL.out rfl] at h
      exact h
    clear HLD HST HCL HCL3 HO2 HG2 HXL
    by_cases hcn : cap = i + 1
    · subst hcn
      rw [show i + 1 - i = 1 from by omega] at hcl
      go_wp2_with fail
      go_region
      go_wp2_with (simp only [hcl])
      go_ret
      exact ⟨_, rfl, HRES.out, HG3.out⟩
    · go_wp2_with fail
      go_region
      go_wp2_with (simp only [hcl])
      go_ret
      exact ⟨_, rfl, HRES.out, HG3.out⟩
  · have hcl : ∀ ty, (Builtin.clear_ #[25] ty #[.slice (some ⟨g, (n - 1) * 4, none⟩) 1 (cap - (n - 1))]).run Tryz.prog W1 = .ok (.tuple #[]) w2 := fun ty => by
      have h := HCL.out ty
      rw [show n - (n - 1) = 1 from by omega] at h
      exact h
    have hld := HLD.out
    have hst := HST.out
    have hq2 : i + (n - (i + 1)) ≤ cap := by omega
    have hq3 : i + (n - (i + 1)) = n - 1 := by omega
    have hcn : ¬ cap = i + 1 := by omega
    clear HLD HST HCL HCL3 HO3 HG3 HXL
    go_wp2_with fail
    go_region
    go_wp2_with (simp only [hcl])
    go_ret
    exact ⟨_, rfl, HO2.out, HG2.out⟩
end Go.Proofs.YtiebcdajoddkpaaGreatDoor

