import Derived.Test.YtlicffeicmoifaaGreatDoorZ09
import Derived.Test.YtlicffeicmoifaaGreatDoorZ11
import Derived.Test.YtlicffeicmoifaaGreatDoorZ12
import Derived.Laws.CopyOwn
import Derived.Laws.CopyRow
import Derived.Lib.SliceRun
set_option linter.unusedSimpArgs false
namespace Go.Proofs.YtlicffeicmoifaaGreatDoor
open Go.RowKit
theorem add_offN (g o j : Nat) : (⟨g, o, none⟩ : Addr).add j = ⟨g, o + j, none⟩ := by
 unfold Addr.add
 split
 · rename_i h0; subst h0; rfl
 · rfl
def CellsG {α : Type} (sz : Nat) (R : List Value → α → Prop) : List α → List Value → Prop
 | [], cs => cs = []
 | d :: r, cs => ∃ c cs', cs = c ++ cs' ∧ c.length = sz ∧ R c d ∧ CellsG sz R r cs'
section
variable {α : Type} {sz : Nat} {R R' : List Value → α → Prop}
theorem CellsG.len : ∀ {fs : List α} {cs : List Value}, CellsG sz R fs cs → cs.length = fs.length * sz
 | [], cs, h => by
   have h : cs = [] := h
   subst h; simp
 | d :: r, cs, h => by
   obtain ⟨c, cs', rfl, hl, _, hr⟩ := h
   have := hr.len
   simp only [List.length_append, List.length_cons, this, hl, Nat.add_mul]
   omega
theorem CellsG.mono (hR : ∀ c d, R c d → R' c d) : ∀ {fs : List α} {cs : List Value}, CellsG sz R fs cs → CellsG sz R' fs cs
 | [], _, h => h
 | _ :: _, _, h => by
   obtain ⟨c, cs', rfl, hl, hd, hr⟩ := h
   exact ⟨c, cs', rfl, hl, hR _ _ hd, CellsG.mono hR hr⟩
theorem CellsG.all {Q : Value → Prop} (hR : ∀ c d, R c d → ∀ u ∈ c, Q u) : ∀ {fs : List α} {cs : List Value}, CellsG sz R fs cs → ∀ u ∈ cs, Q u
 | [], cs, h, u, hu => by
   have h : cs = [] := h
   subst h; simp at hu
 | _ :: _, _, h, u, hu => by
   obtain ⟨c, cs', rfl, hl, hd, hr⟩ := h
   rw [List.mem_append] at hu
   rcases hu with hu | hu
   · exact hR _ _ hd u hu
   · exact CellsG.all hR hr u hu
theorem CellsG.take : ∀ {fs : List α} {cs : List Value} (k : Nat), CellsG sz R fs cs → CellsG sz R (fs.take k) (cs.take (k * sz))
 | [], cs, k, h => by
   have h : cs = [] := h
   subst h
   simp [CellsG]
 | d :: r, cs, 0, h => by simp [CellsG]
 | d :: r, cs, k + 1, h => by
   obtain ⟨c, cs', rfl, hl, hd, hr⟩ := h
   refine ⟨c, cs'.take (k * sz), ?_, hl, hd, CellsG.take k hr⟩
   rw [show (k + 1) * sz = c.length + k * sz by rw [hl, Nat.add_mul]; omega, List.take_length_add_append]
theorem CellsG.snoc {d : α} {c : List Value} (hd : R c d) (hl : c.length = sz) : ∀ {fs : List α} {cs : List Value}, CellsG sz R fs cs → CellsG sz R (fs ++ [d]) (cs ++ c)
 | [], cs, h => by
   have h : cs = [] := h
   subst h
   exact ⟨c, [], by simp, hl, hd, rfl⟩
 | f :: r, cs, h => by
   obtain ⟨c', cs', rfl, hl', hd', hr⟩ := h
   exact ⟨c', cs' ++ c, by simp, hl', hd', CellsG.snoc hd hl hr⟩
theorem CellsG.at [Inhabited α] : ∀ {fs : List α} {cs : List Value} (j : Nat), CellsG sz R fs cs → j < fs.length → ∃ c, c.length = sz ∧ R c (fs.getD j default) ∧ ∀ t, t < sz → cs[j * sz + t]? = c[t]?
 | [], _, j, _, hj => by simp at hj
 | f :: r, cs, 0, h, _ => by
   obtain ⟨c, cs', rfl, hl, hd, hr⟩ := h
   refine ⟨c, hl, by simpa using hd, fun t ht => ?_⟩
   rw [Nat.zero_mul, Nat.zero_add, List.getElem?_append_left (by omega)]
 | f :: r, cs, j + 1, h, hj => by
   obtain ⟨c, cs', rfl, hl, hd, hr⟩ := h
   obtain ⟨c2, h1, h2, h3⟩ := CellsG.at j hr (by simpa using hj)
   refine ⟨c2, h1, by simpa using h2, fun t ht => ?_⟩
   rw [← h3 t ht, show (j + 1) * sz + t = c.length + (j * sz + t) by rw [hl, Nat.add_mul]; omega, List.getElem?_append_right (by omega), Nat.add_sub_cancel_left]
end
theorem cells_gather {α : Type} [Inhabited α] {sz : Nat} {R : List Value → α → Prop} {w : World} (b : Nat) : ∀ (fs : List α) (o : Nat), (∀ j, j < fs.length → ∃ c, c.length = sz ∧ R c (fs.getD j default) ∧ ∀ t, t < sz → w.cell? ⟨b, o + j * sz + t, none⟩ = c[t]?) → ∃ cs, CellsG sz R fs cs ∧ ∀ j u, cs[j]? = some u → w.cell? ⟨b, o + j, none⟩ = some u
 | [], o, _ => ⟨[], rfl, fun j u hu => by simp at hu⟩
 | d :: r, o, h => by
   obtain ⟨c, hl, hr, hx⟩ := h 0 (by simp)
   obtain ⟨cs, hc, hy⟩ := cells_gather b r (o + sz) (fun j hj => by
    obtain ⟨c, hl, hr, hx⟩ := h (j + 1) (by simpa using hj)
    refine ⟨c, hl, by simpa using hr, fun t ht => ?_⟩
    rw [← hx t ht, Nat.add_mul, Nat.one_mul]
    congr 2
    omega)
   refine ⟨c ++ cs, ⟨c, cs, rfl, hl, by simpa using hr, hc⟩, fun j u hu => ?_⟩
   by_cases hj : j < sz
   · rw [List.getElem?_append_left (by omega)] at hu
     have := hx j hj
     rw [Nat.zero_mul, Nat.add_zero] at this
     rw [this, hu]
   · rw [List.getElem?_append_right (by omega), hl] at hu
     have := hy (j - sz) u hu
     rw [show o + sz + (j - sz) = o + j by omega] at this
     exact this
theorem run_clear_own {P : Program} {w : World} {base e size n g cap i : Nat} {xs : List Value} (h : w.ownsRow base e size (.slice (some ⟨g, 0, none⟩) n cap) n xs) (t : TypeId) (ht : P.underlying t = some (.slice e)) (z : Value) (hz : ∀ w, (zeroValue e).run P w = .ok z w) (hzs : z.cells.size = size) (hz1 : ∀ u ∈ (Builtin.zeroCells z.cells (n - i)).toList, u.oneCell' = true) (hin : i < n) (c : Nat) :
 ∃ w', (∀ ty, (Builtin.clear_ #[t] ty #[.slice (some ⟨g, i * size, none⟩) (n - i) c]).run P w = .ok (.tuple #[]) w') ∧ w'.ownsRow base e size (.slice (some ⟨g, 0, none⟩) i cap) i (xs.take (i * size)) ∧ w.grownBy w' (some g) := by
 obtain ⟨hlen, hor⟩ := h
 rcases hor with ⟨h0, _⟩ | ⟨g', cap', cur, he, hbase, hg, hnc, hcm, hcs, htk⟩
 · cases h0
 obtain ⟨rfl, rfl⟩ : g = g' ∧ cap = cap' := by simpa using he
 have hzl : (Builtin.zeroCells z.cells (n - i)).toList.length = (n - i) * size := by
  simp [Builtin.zeroCells, hzs]
 have hmul : i * size + (n - i) * size = n * size := by rw [← Nat.add_mul]; congr 1; omega
 have hmc : n * size ≤ cap * size := Nat.mul_le_mul_right _ hnc
 have hst := run_storeCells_at P g (i * size) e (Builtin.zeroCells z.cells (n - i)).toList 0 cur w hg (by rw [hzl, Nat.add_zero]; omega) hz1
 rw [Nat.add_zero, hzl] at hst
 obtain ⟨m, hm⟩ : ∃ m, n - i = m + 1 := ⟨n - i - 1, by omega⟩
 refine ⟨w.setRow g (cur.toList.take (i * size) ++ (Builtin.zeroCells z.cells (n - i)).toList ++ cur.toList.drop (i * size + (n - i) * size)).toArray, fun ty => ?_, ⟨?_, .inr ⟨g, cap, _, rfl, hbase, setRow_heap _ _ _ _ _ _ hg, by omega, hcm, ?_, ?_⟩⟩, ?_⟩
 · rw [hm] at hst ⊢
   simp [Builtin.clear_, run_underlying ht, hz]
   simp at hst
   rw [hst]
   rfl
 · rw [List.length_take, hlen]
   have : i * size ≤ n * size := Nat.mul_le_mul_right _ (by omega)
   omega
 · simp only [List.size_toArray, List.length_append, List.length_take, List.length_drop, Array.length_toList, hzl, hcs]
   omega
 · rw [List.append_assoc, List.take_left' (by rw [List.length_take, Array.length_toList, hcs]; omega), ← htk, List.take_take]
   congr 1
   omega
 · exact ⟨rfl, rfl, rfl, by simp, fun k _ hk => setRow_other _ _ _ _ (fun e => hk (by rw [e]))⟩
theorem idxF_cases {α : Type} (p : α → Bool) : ∀ (l : List α) (k : Nat), (idxF p l k = -1 ∧ (l.filter fun d => !p d) = l) ∨ ∃ m, m < l.length ∧ idxF p l k = ((k + m : Nat) : Int) ∧ ((l.take (m + 1)).filter fun d => !p d) = l.take m
 | [], k => .inl ⟨rfl, rfl⟩
 | d :: r, k => by
   by_cases h : p d = true
   · exact .inr ⟨0, by simp, by simp [idxF, h], by simp [h]⟩
   · rcases idxF_cases p r (k + 1) with ⟨e1, e2⟩ | ⟨m, hm, e1, e2⟩
     · exact .inl ⟨by simp [idxF, h, e1], by simp [h, e2]⟩
     · refine .inr ⟨m + 1, by simpa using hm, ?_, ?_⟩
       · simp only [idxF, h, if_false, Bool.false_eq_true, e1]
         congr 1
         omega
       · simp [List.take_succ_cons, h, e2]
structure KeptG {α : Type} (sz : Nat) (R : List Value → α → Prop) (p : α → Bool) (fs : List α) (cs : List Value) (i j : Nat) (ys : List Value) : Prop where
 len : ys.length = cs.length
 lt : i < j
 le : j ≤ fs.length
 cnt : ((fs.take j).filter fun d => !p d).length = i
 kept : CellsG sz R ((fs.take j).filter fun d => !p d) (ys.take (i * sz))
 rest : ys.drop (j * sz) = cs.drop (j * sz)
section
variable {α : Type} {sz : Nat} {R : List Value → α → Prop} {p : α → Bool} {fs : List α} {cs ys : List Value} {i j : Nat}
theorem KeptG.start {k : Nat} (hc : CellsG sz R fs cs) (hk : k < fs.length) (hf : ((fs.take (k + 1)).filter fun d => !p d) = fs.take k) : KeptG sz R p fs cs k (k + 1) cs :=
 ⟨rfl, by omega, by omega, by rw [hf, List.length_take]; omega, by rw [hf]; exact hc.take k, rfl⟩
theorem KeptG.cell (h : KeptG sz R p fs cs i j ys) (t : Nat) : ys[j * sz + t]? = cs[j * sz + t]? := by
 have := congrArg (fun l : List Value => l[t]?) h.rest
 simpa [List.getElem?_drop] using this
theorem KeptG.skip [Inhabited α] (h : KeptG sz R p fs cs i j ys) (hj : j < fs.length) (hp : p (fs.getD j default) = true) : KeptG sz R p fs cs i (j + 1) ys := by
 have hf : ((fs.take (j + 1)).filter fun d => !p d) = (fs.take j).filter fun d => !p d := by
  rw [filter_snoc (fun d => !p d) fs j hj, if_neg (by rw [hp]; simp)]
 have hlt := h.lt
 refine ⟨h.len, by omega, by omega, by rw [hf]; exact h.cnt, by rw [hf]; exact h.kept, ?_⟩
 have := congrArg (fun l : List Value => l.drop sz) h.rest
 rw [Nat.add_mul, Nat.one_mul]
 simpa [List.drop_drop] using this
theorem KeptG.keep [Inhabited α] (h : KeptG sz R p fs cs i j ys) (hl : cs.length = fs.length * sz) (hj : j < fs.length) (hp : p (fs.getD j default) = false) {c : List Value} (hd : R c (fs.getD j default)) (hcl : c.length = sz) :
 KeptG sz R p fs cs (i + 1) (j + 1) (ys.take (i * sz) ++ c ++ ys.drop ((i + 1) * sz)) := by
 have hf : ((fs.take (j + 1)).filter fun d => !p d) = ((fs.take j).filter fun d => !p d) ++ [fs.getD j default] := by
  rw [filter_snoc (fun d => !p d) fs j hj, if_pos (by rw [hp]; rfl)]
 have hlt := h.lt
 have hlen := h.len
 have e1 : (i + 1) * sz = i * sz + sz := by rw [Nat.add_mul, Nat.one_mul]
 have e2 : (i + 1) * sz ≤ fs.length * sz := Nat.mul_le_mul_right _ (by omega)
 have e3 : (i + 1) * sz ≤ j * sz := Nat.mul_le_mul_right _ (by omega)
 have hA : (ys.take (i * sz) ++ c).length = (i + 1) * sz := by
  rw [List.length_append, List.length_take, hcl]
  omega
 refine ⟨?_, by omega, by omega, by rw [hf, List.length_append, h.cnt]; rfl, ?_, ?_⟩
 · rw [List.length_append, hA, List.length_drop]; omega
 · rw [hf, List.take_left' hA]
   exact CellsG.snoc hd hcl h.kept
 · have h3 : ys.drop ((j + 1) * sz) = cs.drop ((j + 1) * sz) := by
    have := congrArg (fun l : List Value => l.drop sz) h.rest
    rw [Nat.add_mul, Nat.one_mul]
    simpa [List.drop_drop] using this
   have e4 : (j + 1) * sz = j * sz + sz := by rw [Nat.add_mul, Nat.one_mul]
   rw [← h3, List.drop_append, hA, List.drop_of_length_le (by rw [hA]; omega), List.nil_append, List.drop_drop]
   congr 1
   omega
theorem KeptG.done (h : KeptG sz R p fs cs i fs.length ys) : (fs.filter fun d => !p d).length = i ∧ CellsG sz R (fs.filter fun d => !p d) (ys.take (i * sz)) := by
 have h1 := h.cnt
 have h2 := h.kept
 rw [List.take_of_length_le (Nat.le_refl _)] at h1 h2
 exact ⟨h1, h2⟩
end
theorem set3_put (ys : List Value) (i : Nat) (c0 c1 c2 : Value) (h : i * 3 + 2 < ys.length) :
 (((ys.set (i * 3) c0).set (i * 3 + 1) c1).set (i * 3 + 2) c2) = ys.take (i * 3) ++ [c0, c1, c2] ++ ys.drop ((i + 1) * 3) := by
 apply List.ext_getElem?
 intro q
 rw [List.append_assoc, List.getElem?_append, List.getElem?_append]
 simp only [List.getElem?_set, List.length_set, List.length_take, List.length_cons, List.length_nil, List.getElem?_drop, List.getElem?_take]
 rw [Nat.min_eq_left (show i * 3 ≤ ys.length by omega)]
 by_cases h1 : q < i * 3
 · rw [if_neg (by omega), if_neg (by omega), if_neg (by omega), if_pos h1, if_pos h1]
 · rw [if_neg h1]
   by_cases h2 : q < (i + 1) * 3
   · have h3 : q = i * 3 ∨ q = i * 3 + 1 ∨ q = i * 3 + 2 := by omega
     rcases h3 with rfl | rfl | rfl
     · rw [if_neg (by omega), if_neg (by omega), if_pos rfl, if_pos (by omega), if_pos (by omega), Nat.sub_self]; rfl
     · rw [if_neg (by omega), if_pos rfl, if_pos (by omega), if_pos (by omega), show i * 3 + 1 - i * 3 = 1 by omega]; rfl
     · rw [if_pos rfl, if_pos (by omega), if_pos (by omega), show i * 3 + 2 - i * 3 = 2 by omega]; rfl
   · rw [if_neg (by omega), if_neg (by omega), if_neg (by omega), if_neg (by omega)]
     congr 1
     omega
def nodeC (w : World) (B : Nat) (c : List Value) (d : NodeD) : Prop := ∃ c0 c1 c2, c = [c0, c1, c2] ∧ NodeR w B c0 c1 c2 d
theorem cellsN_iff {w : World} : ∀ {fs : List NodeD} {cs : List Value}, CellsN w fs cs ↔ CellsG 3 (nodeC w w.heap.size) fs cs
 | [], _ => Iff.rfl
 | d :: r, cs => by
   constructor
   · rintro ⟨c0, c1, c2, cs', rfl, hd, hr⟩
     exact ⟨[c0, c1, c2], cs', rfl, rfl, ⟨c0, c1, c2, rfl, hd⟩, cellsN_iff.1 hr⟩
   · rintro ⟨c, cs', rfl, _, ⟨c0, c1, c2, rfl, hd⟩, hr⟩
     exact ⟨c0, c1, c2, cs', rfl, hd, cellsN_iff.2 hr⟩
theorem nodeC_one {w : World} {B : Nat} (c : List Value) (d : NodeD) (h : nodeC w B c d) : ∀ u ∈ c, u.oneCell' = true := by
 obtain ⟨_, _, _, rfl, rfl, ⟨A, n, c, rfl, _⟩, rfl⟩ := h
 intro u hu
 simp only [List.mem_cons, List.not_mem_nil, or_false] at hu
 rcases hu with rfl | rfl | rfl <;> rfl
theorem nodes_reads {w : World} {B : Nat} {A : Option Addr} {n : Nat} {fs : List NodeD} (h : Nodes w B A n fs) : ∃ cs, CellsG 3 (nodeC w B) fs cs ∧ Reads w B 3 A n cs := by
 obtain ⟨hl, h2⟩ := h
 rcases Nat.eq_zero_or_pos n with h0 | h0
 · subst h0
   have : fs = [] := List.eq_nil_of_length_eq_zero hl
   subst this
   exact ⟨[], rfl, rfl, fun h => absurd h (by omega)⟩
 · obtain ⟨b, o, rfl, hb, hc⟩ := h2 h0
   obtain ⟨cs, h3, h4⟩ := cells_gather (R := nodeC w B) (sz := 3) (w := w) b fs o (fun j hj => by
    obtain ⟨c0, c1, c2, e0, e1, e2, hr⟩ := hc j (by omega)
    refine ⟨[c0, c1, c2], rfl, ⟨c0, c1, c2, rfl, hr⟩, fun t ht => ?_⟩
    match t, ht with
    | 0, _ => exact e0
    | 1, _ => exact e1
    | 2, _ => exact e2)
   exact ⟨cs, h3, by rw [h3.len, hl], fun _ => ⟨_, rfl, hb, fun j u hu => by rw [add_offN]; exact h4 j u hu⟩⟩
end Go.Proofs.YtlicffeicmoifaaGreatDoor
namespace Go.Proofs.YtlicffeicmoifaaGreatDoor
open Go.RowKit
set_option linter.unusedVariables false
def ChgR (w : World) (B : Nat) (c0 c1 c2 c3 : Value) (d : ChgD) : Prop :=
 c0 = .int .i64 d.kind ∧ c1 = .string d.name ∧ (∃ A n cap, c2 = .slice A n cap ∧ Strs w B A n d.subs ∧ n ≤ cap) ∧ c3 = .string d.val
theorem ChgR.keep {w w' : World} {B : Nat} {c0 c1 c2 c3 : Value} {d : ChgD} (h : ChgR w B c0 c1 c2 c3 d) (hk : ∀ p : Addr, p.block < B → w'.cell? p = w.cell? p) : ChgR w' B c0 c1 c2 c3 d := by
 obtain ⟨e0, e1, ⟨A1, n1, p1, e2, s1, k1⟩, e3⟩ := h
 exact ⟨e0, e1, ⟨A1, n1, p1, e2, s1.keep hk, k1⟩, e3⟩
theorem ChgR.more {w : World} {B B' : Nat} {c0 c1 c2 c3 : Value} {d : ChgD} (h : ChgR w B c0 c1 c2 c3 d) (hB : B ≤ B') : ChgR w B' c0 c1 c2 c3 d := by
 obtain ⟨e0, e1, ⟨A1, n1, p1, e2, s1, k1⟩, e3⟩ := h
 exact ⟨e0, e1, ⟨A1, n1, p1, e2, s1.more hB, k1⟩, e3⟩
theorem ChgR.later {w w' : World} {c0 c1 c2 c3 : Value} {d : ChgD} (h : ChgR w w.heap.size c0 c1 c2 c3 d) (hb : Below w.heap.size w w') : ChgR w' w'.heap.size c0 c1 c2 c3 d :=
 (h.keep fun _ hp => hb.cell hp).more hb.size
def ChgD.small (d : ChgD) : Prop := d.name.size ≤ 1048576 ∧ (d.subs.length ≤ 1048576 ∧ ∀ s ∈ d.subs, s.size ≤ 1048576) ∧ d.val.size ≤ 1048576
def NodesO (w : World) (base : Nat) (v : Value) (fs : List NodeD) : Prop := ∃ vs, Own.OwnL nodeK w base 89 v fs vs
theorem NodesO.later {w w' : World} {base : Nat} {v : Value} {fs : List NodeD} (h : NodesO w base v fs) (hb : Below w.heap.size w w') : NodesO w' base v fs := by
 obtain ⟨vs, h1⟩ := h
 exact ⟨vs, h1.later hb⟩
theorem NodesO.base {w : World} {base base' : Nat} {v : Value} {fs : List NodeD} (h : NodesO w base' v fs) (hb : base ≤ base') : NodesO w base v fs := by
 obtain ⟨vs, h1⟩ := h
 exact ⟨vs, h1.base hb⟩
theorem NodesO.reads {w : World} {base : Nat} {v : Value} {fs : List NodeD} (h : NodesO w base v fs) : ∃ A cap, v = .slice A fs.length cap ∧ fs.length ≤ cap ∧ Nodes w w.heap.size A fs.length fs := by
 obtain ⟨vs, h1⟩ := h
 exact OwnL.Nodes h1
theorem nodesO_lit (w : World) (base : Nat) (h : base ≤ w.heap.size) : NodesO (w.alloc (.cells #[] 89)) base (.slice (some ⟨w.heap.size, 0, none⟩) 0 0) [] :=
 ⟨[], rfl, World.ownsRow_lit (e := 89) (size := 3) w #[] 0 h (by omega) rfl, fun j hj => by simp at hj, List.Pairwise.nil⟩
theorem nodesO_nil (w : World) (base : Nat) : NodesO w base (.slice none 0 0) [] := ⟨[], Own.OwnL.nil _ _ _⟩
def NodesOnly (fs : List NodeD) (w : World) (e : Ending) (w' : World) : Prop := ∃ v, e = .returned v ∧ NodesO w' w.heap.size v fs ∧ Below w.heap.size w w'
theorem CellsG.append {α : Type} {sz : Nat} {R : List Value → α → Prop} : ∀ {fs gs : List α} {cs ds : List Value}, CellsG sz R fs cs → CellsG sz R gs ds → CellsG sz R (fs ++ gs) (cs ++ ds)
 | [], gs, cs, ds, h, h' => by
   have h : cs = [] := h
   subst h
   exact h'
 | f :: r, gs, cs, ds, h, h' => by
   obtain ⟨c, cs', rfl, hl, hd, hr⟩ := h
   exact ⟨c, cs' ++ ds, by rw [List.append_assoc], hl, hd, CellsG.append hr h'⟩
theorem CellsG.drop {α : Type} {sz : Nat} {R : List Value → α → Prop} : ∀ {fs : List α} {cs : List Value} (k : Nat), CellsG sz R fs cs → CellsG sz R (fs.drop k) (cs.drop (k * sz))
 | [], cs, k, h => by
   have h : cs = [] := h
   subst h
   simp [CellsG]
 | d :: r, cs, 0, h => by simpa using h
 | d :: r, cs, k + 1, h => by
   obtain ⟨c, cs', rfl, hl, hd, hr⟩ := h
   rw [show (k + 1) * sz = c.length + k * sz by rw [hl, Nat.add_mul]; omega, List.drop_length_add_append, List.drop_succ_cons]
   exact CellsG.drop k hr
def TreePost (r : Int × List NodeD) (w : World) (e : Ending) (w' : World) : Prop := ∃ v, e = .returned (.tuple #[.agg #[v], .int .i64 r.1]) ∧ NodesO w' w.heap.size v r.2 ∧ Below w.heap.size w w'
def TreeOnly (fs : List NodeD) (w : World) (e : Ending) (w' : World) : Prop := ∃ v, e = .returned (.agg #[v]) ∧ NodesO w' w.heap.size v fs ∧ Below w.heap.size w w'
end Go.Proofs.YtlicffeicmoifaaGreatDoor
namespace Go.Proofs.YtlicffeicmoifaaGreatDoor
open Go.RowKit
set_option linter.unusedVariables false
def EvR (w : World) (B : Nat) (c0 c1 c2 c3 c4 : Value) (d : EvD) : Prop :=
 c0 = .int .i64 d.kind ∧ c1 = .string d.name ∧ (∃ A n cap, c2 = .slice A n cap ∧ Strs w B A n d.subs ∧ n ≤ cap) ∧ c3 = .string d.val ∧ c4 = .int .i64 d.n
theorem EvR.keep {w w' : World} {B : Nat} {c0 c1 c2 c3 c4 : Value} {d : EvD} (h : EvR w B c0 c1 c2 c3 c4 d) (hk : ∀ p : Addr, p.block < B → w'.cell? p = w.cell? p) : EvR w' B c0 c1 c2 c3 c4 d := by
 obtain ⟨e0, e1, ⟨A1, n1, p1, e2, s1, k1⟩, e3, e4⟩ := h
 exact ⟨e0, e1, ⟨A1, n1, p1, e2, s1.keep hk, k1⟩, e3, e4⟩
theorem EvR.more {w : World} {B B' : Nat} {c0 c1 c2 c3 c4 : Value} {d : EvD} (h : EvR w B c0 c1 c2 c3 c4 d) (hB : B ≤ B') : EvR w B' c0 c1 c2 c3 c4 d := by
 obtain ⟨e0, e1, ⟨A1, n1, p1, e2, s1, k1⟩, e3, e4⟩ := h
 exact ⟨e0, e1, ⟨A1, n1, p1, e2, s1.more hB, k1⟩, e3, e4⟩
theorem EvR.later {w w' : World} {c0 c1 c2 c3 c4 : Value} {d : EvD} (h : EvR w w.heap.size c0 c1 c2 c3 c4 d) (hb : Below w.heap.size w w') : EvR w' w'.heap.size c0 c1 c2 c3 c4 d :=
 (h.keep fun _ hp => hb.cell hp).more hb.size
def Evs (w : World) (B : Nat) (A : Option Addr) (n : Nat) (fs : List EvD) : Prop :=
 fs.length = n ∧ (0 < n → ∃ b o, A = some ⟨b, o, none⟩ ∧ b < B ∧ ∀ j, j < n → ∃ c0 c1 c2 c3 c4, w.cell? ⟨b, o + j * 5, none⟩ = some c0 ∧ w.cell? ⟨b, o + j * 5 + 1, none⟩ = some c1 ∧ w.cell? ⟨b, o + j * 5 + 2, none⟩ = some c2 ∧ w.cell? ⟨b, o + j * 5 + 3, none⟩ = some c3 ∧ w.cell? ⟨b, o + j * 5 + 4, none⟩ = some c4 ∧ EvR w B c0 c1 c2 c3 c4 (fs.getD j default))
section
variable {w w' : World} {B B' n : Nat} {A : Option Addr} {fs : List EvD}
theorem Evs.keep (h : Evs w B A n fs) (hk : ∀ p : Addr, p.block < B → w'.cell? p = w.cell? p) : Evs w' B A n fs :=
 ⟨h.1, fun hn => by
   obtain ⟨b, o, e, hb, hc⟩ := h.2 hn
   refine ⟨b, o, e, hb, fun j hj => ?_⟩
   obtain ⟨c0, c1, c2, c3, c4, h0, h1, h2, h3, h4, hr⟩ := hc j hj
   exact ⟨c0, c1, c2, c3, c4, (hk _ hb).trans h0, (hk _ hb).trans h1, (hk _ hb).trans h2, (hk _ hb).trans h3, (hk _ hb).trans h4, hr.keep hk⟩⟩
theorem Evs.more (h : Evs w B A n fs) (hB : B ≤ B') : Evs w B' A n fs :=
 ⟨h.1, fun hn => by
   obtain ⟨b, o, e, hb, hc⟩ := h.2 hn
   refine ⟨b, o, e, by omega, fun j hj => ?_⟩
   obtain ⟨c0, c1, c2, c3, c4, h0, h1, h2, h3, h4, hr⟩ := hc j hj
   exact ⟨c0, c1, c2, c3, c4, h0, h1, h2, h3, h4, hr.more hB⟩⟩
theorem Evs.later (h : Evs w w.heap.size A n fs) (hb : Below w.heap.size w w') : Evs w' w'.heap.size A n fs := (h.keep fun _ hp => hb.cell hp).more hb.size
end
def EvD.small (d : EvD) : Prop := d.name.size ≤ 1048576 ∧ (d.subs.length ≤ 1048576 ∧ ∀ s ∈ d.subs, s.size ≤ 1048576) ∧ d.val.size ≤ 1048576
theorem infoEvD : (Tryz.prog.info? 37).map (fun i => (i.zero, i.size, i.bytes)) = some (some (.agg #[.int .i64 0, .string .empty, .slice none 0 0, .string .empty, .int .i64 0]), 5, 72) := by kernel_rfl
def EvPost (d : EvD) (w : World) (e : Ending) (w' : World) : Prop := ∃ v, e = .returned (.agg #[.int .i64 d.kind, .string d.name, v, .string d.val, .int .i64 d.n]) ∧ Own.SubO w' w.heap.size v d.subs ∧ Below w.heap.size w w'
end Go.Proofs.YtlicffeicmoifaaGreatDoor
namespace Go.Proofs.YtlicffeicmoifaaGreatDoor
open Go.RowKit
set_option linter.unusedVariables false
def DoR (w : World) (B : Nat) (c0 c1 c2 c3 c4 c5 : Value) (d : DoD) : Prop := c0 = .int .i64 d.job ∧ EvR w B c1 c2 c3 c4 c5 d.ev
theorem DoR.keep {w w' : World} {B : Nat} {c0 c1 c2 c3 c4 c5 : Value} {d : DoD} (h : DoR w B c0 c1 c2 c3 c4 c5 d) (hk : ∀ p : Addr, p.block < B → w'.cell? p = w.cell? p) : DoR w' B c0 c1 c2 c3 c4 c5 d := ⟨h.1, h.2.keep hk⟩
theorem DoR.more {w : World} {B B' : Nat} {c0 c1 c2 c3 c4 c5 : Value} {d : DoD} (h : DoR w B c0 c1 c2 c3 c4 c5 d) (hB : B ≤ B') : DoR w B' c0 c1 c2 c3 c4 c5 d := ⟨h.1, h.2.more hB⟩
theorem DoR.later {w w' : World} {c0 c1 c2 c3 c4 c5 : Value} {d : DoD} (h : DoR w w.heap.size c0 c1 c2 c3 c4 c5 d) (hb : Below w.heap.size w w') : DoR w' w'.heap.size c0 c1 c2 c3 c4 c5 d := (h.keep fun _ hp => hb.cell hp).more hb.size
def Dos (w : World) (B : Nat) (A : Option Addr) (n : Nat) (fs : List DoD) : Prop :=
 fs.length = n ∧ (0 < n → ∃ b o, A = some ⟨b, o, none⟩ ∧ b < B ∧ ∀ j, j < n → ∃ c0 c1 c2 c3 c4 c5, w.cell? ⟨b, o + j * 6, none⟩ = some c0 ∧ w.cell? ⟨b, o + j * 6 + 1, none⟩ = some c1 ∧ w.cell? ⟨b, o + j * 6 + 2, none⟩ = some c2 ∧ w.cell? ⟨b, o + j * 6 + 3, none⟩ = some c3 ∧ w.cell? ⟨b, o + j * 6 + 4, none⟩ = some c4 ∧ w.cell? ⟨b, o + j * 6 + 5, none⟩ = some c5 ∧ DoR w B c0 c1 c2 c3 c4 c5 (fs.getD j default))
section
variable {w w' : World} {B B' n : Nat} {A : Option Addr} {fs : List DoD}
theorem Dos.keep (h : Dos w B A n fs) (hk : ∀ p : Addr, p.block < B → w'.cell? p = w.cell? p) : Dos w' B A n fs :=
 ⟨h.1, fun hn => by
   obtain ⟨b, o, e, hb, hc⟩ := h.2 hn
   refine ⟨b, o, e, hb, fun j hj => ?_⟩
   obtain ⟨c0, c1, c2, c3, c4, c5, k0, k1, k2, k3, k4, k5, hr⟩ := hc j hj
   exact ⟨c0, c1, c2, c3, c4, c5, (hk _ hb).trans k0, (hk _ hb).trans k1, (hk _ hb).trans k2, (hk _ hb).trans k3, (hk _ hb).trans k4, (hk _ hb).trans k5, hr.keep hk⟩⟩
theorem Dos.more (h : Dos w B A n fs) (hB : B ≤ B') : Dos w B' A n fs :=
 ⟨h.1, fun hn => by
   obtain ⟨b, o, e, hb, hc⟩ := h.2 hn
   refine ⟨b, o, e, by omega, fun j hj => ?_⟩
   obtain ⟨c0, c1, c2, c3, c4, c5, k0, k1, k2, k3, k4, k5, hr⟩ := hc j hj
   exact ⟨c0, c1, c2, c3, c4, c5, k0, k1, k2, k3, k4, k5, hr.more hB⟩⟩
theorem Dos.later (h : Dos w w.heap.size A n fs) (hb : Below w.heap.size w w') : Dos w' w'.heap.size A n fs := (h.keep fun _ hp => hb.cell hp).more hb.size
end
end Go.Proofs.YtlicffeicmoifaaGreatDoor
