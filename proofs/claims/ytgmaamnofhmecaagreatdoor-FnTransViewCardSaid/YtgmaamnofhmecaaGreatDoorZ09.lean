import Derived.Test.YtgmaamnofhmecaaGreatDoorZ00
import Derived.Test.YtgmaamnofhmecaaGreatDoorZ08
import Derived.Test.YtgmaamnofhmecaaGreatDoorProg
import Derived.Test.YtgmaamnofhmecaaGreatDoorZ07
import Derived.Deep.AppendLies
import Derived.Laws.OwnMore
import Derived.Maps.AppendAt
import Derived.OwnWalk
import Derived.RegionTactic
import Derived.Deep.RegionLaw
import Derived.Ground.GgwProg
import Derived.Ground.Names2Prog
import Derived.Ground.SlgnProg
import Derived.Shelf.GgClosure.StringsIndexFunc
import Derived.Shelf.GgClosure.StringsIndexFuncTop
import Derived.Shelf.LaysM
import Derived.Shelf.Slices.Cells
import Derived.Shelf.Slices.Clone
import Derived.Shelf.Slices.CompactS
import Derived.Shelf.Slices.Empties2
import Derived.Shelf.Slices.Equal
import Derived.Shelf.Slices.In.SortNone
import Derived.Shelf.Slices.Turned
import Derived.Shelf.SlicesE.Clone
import Derived.Shelf.SlicesG.SearchI
import Derived.Shelf.Small.Bits
import Derived.Shelf.Small.Strs
import Derived.Shelf.Small.Utf8
import Derived.Shelf.Small.Wraps
import Derived.Shelf.Sort.Plain
import Derived.Shelf.Strconv.Itoa0
import Derived.Shelf.Strconv.Itoa1
import Derived.Shelf.Strconv.Itoa2
import Derived.Shelf.Strconv.Itoa3
import Derived.Shelf.Strconv.Itoa4
import Derived.Shelf.Strings.AsciiSet
import Derived.Shelf.Strings.Builder1
import Derived.Shelf.Strings.Builder2
import Derived.Shelf.Strings.Count
import Derived.Shelf.Strings.Explode
import Derived.Shelf.Strings.FuncGrows
import Derived.Shelf.Strings.OnBuilder
import Derived.Shelf.Strings.Prefix
import Derived.Shelf.Strings.Replace
import Derived.Shelf.Strings.RuneCount
import Derived.Shelf.Strings.Runes
import Derived.Shelf.Strings.Search1
import Derived.Shelf.Strings.Search2
import Derived.Shelf.Strings.Search3
import Derived.Shelf.Strings.Shaped
import Derived.Shelf.Strings.Split
import Derived.Shelf.Strings.SplitShaped
import Derived.Shelf.Strings.Trim
import Derived.Shelf.Unicode.Decode
import Derived.Shelf.Unicode.DecodeAny
import Derived.Shelf.Unicode.DecodeLast
import Derived.Shelf.Unicode.DecodeSlow
import Derived.Shelf.Utf8.RuneCount
import Derived.Lib.OwnBridge
import Derived.LoopIn
import Derived.LoopNIn
import Derived.OwnWalkIn
import Derived.RangeFuncBox
import Derived.RangeFuncLeaves
import Derived.Shelf.Abstract
import Derived.TacticsInMore
import Derived.WalkKit
import Derived.Shelf.SlIter.Collect
import Derived.Lib.AppendIntMem
import Derived.Lib.IndexAny
import Derived.Lib.TrimUEq
import Derived.Laws.CopyOwn
import Derived.Laws.CopyRow
import Derived.Lib.SliceRun
set_option linter.unusedSimpArgs false
namespace Go.Proofs.YtgmaamnofhmecaaGreatDoor
open Go.RowKit
theorem block_of_add (a : Addr) (n : Nat) : (a.add n).block = a.block := by unfold Addr.add; split <;> rfl
theorem add_of_add (a : Addr) (i j : Nat) : (a.add i).add j = a.add (i + j) := by
 unfold Addr.add
 by_cases hi : i = 0 <;> by_cases hj : j = 0 <;> simp [hi, hj, Nat.add_assoc]
def Reads (w : World) (B size : Nat) (A : Option Addr) (n : Nat) (xs : List Value) : Prop :=
 xs.length = n * size ∧ (0 < n → ∃ ad, A = some ad ∧ ad.block < B ∧ ∀ j u, xs[j]? = some u → w.cell? (ad.add j) = some u)
section
variable {w w' : World} {B B' size n : Nat} {A : Option Addr} {xs : List Value}
theorem Reads.keep (h : Reads w B size A n xs) (hk : ∀ p : Addr, p.block < B → w'.cell? p = w.cell? p) : Reads w' B size A n xs :=
 ⟨h.1, fun hn => by
   obtain ⟨ad, e, hb, hc⟩ := h.2 hn
   exact ⟨ad, e, hb, fun j u hu => (hk _ (by rw [block_of_add]; exact hb)).trans (hc j u hu)⟩⟩
theorem Reads.below (h : Reads w B size A n xs) (hb : Below B w w') : Reads w' B size A n xs := h.keep fun _ hp => hb.cell hp
theorem Reads.alloc (h : Reads w B size A n xs) (hB : B ≤ w.heap.size) (o : Obj) : Reads (w.alloc o) B size A n xs := h.keep fun p hp => World.cell?_alloc_lt w o p (by omega)
theorem Reads.grown (h : Reads w B size A n xs) {row : Option Nat} (hg : w.grownBy w' row) (hB : B ≤ w.heap.size) (hr : ∀ g, row = some g → B ≤ g) : Reads w' B size A n xs :=
 h.keep fun p hp => World.cell?_of_block (hg.block p.block (by omega) (fun e => by have := hr _ e.symm; omega))
theorem Reads.cut (h : Reads w B size A n xs) {k cap : Nat} (hk : k ≤ n) (hc : n ≤ cap) :
 Reads w B size (if cap = k then A else A.map (·.add (k * size))) (n - k) (xs.drop (k * size)) := by
 refine ⟨by rw [List.length_drop, h.1, Nat.sub_mul], fun hn => ?_⟩
 obtain ⟨ad, rfl, hb, hcell⟩ := h.2 (by omega)
 rw [if_neg (by omega)]
 refine ⟨ad.add (k * size), rfl, by rw [block_of_add]; exact hb, fun j u hu => ?_⟩
 rw [add_of_add]
 exact hcell _ u (by rw [← hu, List.getElem?_drop])
end
section
variable {P : Program} (w : World)
theorem run_append_of_nil (base : Nat) (t ty e : TypeId) (i : TypeInfo) (size : Nat) (ht : P.underlying t = some (.slice e)) (hi : P.info? e = some i)
 (v : Value) (n : Nat) (xs : List Value) (hown : w.ownsRow base e size v n xs) (c : Nat) : (Builtin.append_ #[t, t] ty #[v, .slice none 0 c]).run P w = .ok v w := by
 rcases hown.2 with ⟨rfl, rfl⟩ | ⟨g, cap, cur, rfl, _, _, hnc, _⟩
 · simp [Builtin.append_, run_underlying ht, sizeOf, typeInfo, hi, Builtin.lenOf, Builtin.firstCells]
 · simp [Builtin.append_, run_underlying ht, sizeOf, typeInfo, hi, Builtin.lenOf, Builtin.firstCells, hnc, storeCells]
theorem run_append_any (base : Nat) (t ty e : TypeId) (i : TypeInfo) (z : Value) (size bytes : Nat) (ht : P.underlying t = some (.slice e)) (hi : P.info? e = some i) (hz : i.zero = some z)
 (hsize : i.size = size) (hby : i.bytes = bytes) (hzs : z.cells.size = size) (hsz : 0 < size)
 (v : Value) (n : Nat) (xs : List Value) (hown : w.ownsRow base e size v n xs)
 (B : Nat) (A : Option Addr) (m c : Nat) (news : List Value) (hr : Reads w B size A m news) (h1 : ∀ u ∈ news, u.oneCell' = true)
 (h63 : n + m ≤ maxLen) (hbytes : (n + m) * bytes ≤ 140737488355328) (hbase : base ≤ w.heap.size) :
 ∃ v' w', (Builtin.append_ #[t, t] ty #[v, .slice A m c]).run P w = .ok v' w' ∧ w'.ownsRow base e size v' (n + m) (xs ++ news) ∧ w.grownBy w' v.ownBlock ∧
  (v'.ownBlock = v.ownBlock ∨ v'.ownBlock = some w.heap.size) := by
 rcases A with _ | ad
 · have hm : m = 0 := by
    rcases Nat.eq_zero_or_pos m with h0 | h0
    · exact h0
    · obtain ⟨ad, h, _⟩ := hr.2 h0
      cases h
   subst hm
   have hn : news = [] := List.eq_nil_of_length_eq_zero (by simpa using hr.1)
   subst hn
   exact ⟨v, w, run_append_of_nil w base t ty e i size ht hi v n xs hown c, by simpa using hown, World.grownBy.refl w _, .inl rfl⟩
 · have hcells : ∀ j u, news[j]? = some u → w.cell? (ad.add j) = some u := by
    intro j u hu
    rcases Nat.eq_zero_or_pos m with h0 | h0
    · subst h0
      have hn : news = [] := List.eq_nil_of_length_eq_zero (by simpa using hr.1)
      subst hn
      simp at hu
    · obtain ⟨ad', h, _, hc⟩ := hr.2 h0
      injection h with h
      subst h
      exact hc j u hu
   obtain ⟨v', w', hrun, h2, h3, _, h5⟩ := run_append_own_at (P := P) w base t ty e i z size bytes ht hi hz hsize hby hzs hsz v n xs hown ad m c news hr.1 hcells h1 h63 hbytes hbase
   exact ⟨v', w', hrun, h2, h3, h5⟩
theorem wp_append_any {o : Oper} {a : Act} {K : Act → World → Prop} {Q : Exit → Act → World → Prop} (s x : Operand) (t : TypeId)
 (ho : o.op = .call { callee := .builtin .append, args := #[s, x], argTypes := #[t, t] })
 (base : Nat) (e : TypeId) (i : TypeInfo) (z : Value) (size bytes : Nat) (ht : P.underlying t = some (.slice e)) (hi : P.info? e = some i) (hz : i.zero = some z)
 (hsize : i.size = size) (hby : i.bytes = bytes) (hzs : z.cells.size = size) (hsz : 0 < size)
 (v : Value) (n : Nat) (xs : List Value) (hs : a.eval s = v) (hown : w.ownsRow base e size v n xs)
 (B : Nat) (A : Option Addr) (m c : Nat) (news : List Value) (hx : a.eval x = .slice A m c) (hr : Reads w B size A m news) (h1 : ∀ u ∈ news, u.oneCell' = true)
 (h63 : n + m ≤ maxLen) (hbytes : (n + m) * bytes ≤ 140737488355328) (hbase : base ≤ w.heap.size)
 (h : ∀ v' w', w'.ownsRow base e size v' (n + m) (xs ++ news) → w.grownBy w' v.ownBlock → (v'.ownBlock = v.ownBlock ∨ v'.ownBlock = some w.heap.size) → K (a.put o.dst v') w') : o.wp P a w K Q := by
 obtain ⟨v', w', hrun, h2, h3, h4⟩ := run_append_any (P := P) w base t o.type e i z size bytes ht hi hz hsize hby hzs hsz v n xs hown B A m c news hr h1 h63 hbytes hbase
 unfold Oper.wp execOp
 simp only [ho, resolve, invoke, builtin, Sem.run_bind, Sem.run_pure, Result.andThen_ok, List.map_toArray, List.map_cons, List.map_nil, hs, hx, hrun]
 exact h v' w' h2 h3 h4
theorem wpList_append_any {ops : Array Oper} {rest : List Oper} {o : Oper} {a : Act} {Q : Exit → Act → World → Prop} (hgd : o.guard = none) (s x : Operand) (t : TypeId)
 (ho : o.op = .call { callee := .builtin .append, args := #[s, x], argTypes := #[t, t] })
 (base : Nat) (e : TypeId) (i : TypeInfo) (z : Value) (size bytes : Nat) (ht : P.underlying t = some (.slice e)) (hi : P.info? e = some i) (hz : i.zero = some z)
 (hsize : i.size = size) (hby : i.bytes = bytes) (hzs : z.cells.size = size) (hsz : 0 < size)
 (v : Value) (n : Nat) (xs : List Value) (hs : a.eval s = v) (hown : w.ownsRow base e size v n xs)
 (B : Nat) (A : Option Addr) (m c : Nat) (news : List Value) (hx : a.eval x = .slice A m c) (hr : Reads w B size A m news) (h1 : ∀ u ∈ news, u.oneCell' = true)
 (h63 : n + m ≤ maxLen) (hbytes : (n + m) * bytes ≤ 140737488355328) (hbase : base ≤ w.heap.size)
 (h : ∀ v' w', w'.ownsRow base e size v' (n + m) (xs ++ news) → w.grownBy w' v.ownBlock → (v'.ownBlock = v.ownBlock ∨ v'.ownBlock = some w.heap.size) → wpList P ops Q rest (a.put o.dst v') w') : wpList P ops Q (o :: rest) a w :=
 wpList_plain hgd fun _ hK => wp_append_any w s x t ho base e i z size bytes ht hi hz hsize hby hzs hsz v n xs hs hown B A m c news hx hr h1 h63 hbytes hbase fun v' w' h2 h3 h4 => hK _ _ (h v' w' h2 h3 h4)
end
theorem strs_reads {w : World} {B n : Nat} {A : Option Addr} {ss : List ByteArray} (h : Strs w B A n ss) : Reads w B 1 A n (ss.map Value.string) :=
 ⟨by simp [h.1], fun hn => by
   obtain ⟨b, o, e, hb, hc⟩ := h.2 hn
   refine ⟨⟨b, o, none⟩, e, hb, fun j u hu => ?_⟩
   rw [List.getElem?_map] at hu
   have hj : j < ss.length := by
    rcases Nat.lt_or_ge j ss.length with h1 | h1
    · exact h1
    · rw [List.getElem?_eq_none h1] at hu; cases hu
   rw [List.getElem?_eq_getElem hj] at hu
   have hu' : u = .string ss[j] := by simpa using hu.symm
   subst hu'
   have := hc j (by rw [← h.1]; exact hj)
   rw [List.getD_eq_getElem?_getD, List.getElem?_eq_getElem hj] at this
   unfold Addr.add
   split
   · rename_i h0; subst h0; simpa using this
   · simpa using this⟩
theorem below_own {w0 w w' : World} {base e size n : Nat} {v : Value} {xs : List Value} (hb : Below w0.heap.size w0 w) (ho : w.ownsRow base e size v n xs) (hbase : w0.heap.size ≤ base) (hg : w.grownBy w' v.ownBlock) : Below w0.heap.size w0 w' :=
 hb.grown hg hb.size (fun g hg' => by have := (ho.lt g hg').1; omega)
end Go.Proofs.YtgmaamnofhmecaaGreatDoor
namespace Go.Proofs.YtgmaamnofhmecaaGreatDoor
open Go.RowKit
theorem cells_newN (w : World) (cs : Array Value) (t : TypeId) : ∀ j u, cs.toList[j]? = some u → (w.alloc (.cells cs t)).cell? ((⟨w.heap.size, 0, none⟩ : Addr).add j) = some u := by
 intro j u hu
 have h := cell_of_row _ w.heap.size j cs t (0, 0) (heap_alloc_new w (.cells cs t))
 have hu' : cs[j]? = some u := by rw [← Array.getElem?_toList]; exact hu
 unfold Addr.add
 split
 · rename_i h0; subst h0; rw [h, hu']
 · rw [show (⟨w.heap.size, 0 + j, none⟩ : Addr) = ⟨w.heap.size, j, none⟩ from by simp, h, hu']
theorem ne_bytes {s : ByteArray} {l : List UInt8} (h : s ≠ ⟨l.toArray⟩) : (s.toList == l) = false := by
 have := str_beq h
 simpa [toList_data] using this
def CellsN (w : World) : List NodeD → List Value → Prop
 | [], cs => cs = []
 | d :: r, cs => ∃ c0 c1 c2 cs', cs = c0 :: c1 :: c2 :: cs' ∧ NodeR w w.heap.size c0 c1 c2 d ∧ CellsN w r cs'
theorem CellsN.snoc {w : World} {d : NodeD} {c0 c1 c2 : Value} (hd : NodeR w w.heap.size c0 c1 c2 d) : ∀ {fs : List NodeD} {cs : List Value}, CellsN w fs cs → CellsN w (fs ++ [d]) (cs ++ [c0, c1, c2])
 | [], cs, h => by
   have h : cs = [] := h
   subst h
   exact ⟨c0, c1, c2, [], rfl, hd, rfl⟩
 | f :: r, cs, h => by
   obtain ⟨a0, a1, a2, cs', rfl, ha, hr⟩ := h
   exact ⟨a0, a1, a2, cs' ++ [c0, c1, c2], rfl, ha, CellsN.snoc hd hr⟩
theorem CellsN.at {w : World} : ∀ {fs : List NodeD} {cs : List Value} (j : Nat), CellsN w fs cs → j < fs.length → ∃ c0 c1 c2, cs[j * 3]? = some c0 ∧ cs[j * 3 + 1]? = some c1 ∧ cs[j * 3 + 2]? = some c2 ∧ NodeR w w.heap.size c0 c1 c2 (fs.getD j default)
 | [], _, j, _, hj => by simp at hj
 | f :: r, cs, 0, h, _ => by
   obtain ⟨a0, a1, a2, cs', rfl, ha, _⟩ := h
   exact ⟨a0, a1, a2, rfl, rfl, rfl, ha⟩
 | f :: r, cs, j + 1, h, hj => by
   obtain ⟨a0, a1, a2, cs', rfl, _, hr⟩ := h
   obtain ⟨b0, b1, b2, e0, e1, e2, hb⟩ := CellsN.at j hr (by simpa using hj)
   refine ⟨b0, b1, b2, ?_, ?_, ?_, by simpa using hb⟩
   · rw [show (j + 1) * 3 = j * 3 + 3 by omega]; simpa using e0
   · rw [show (j + 1) * 3 + 1 = (j * 3 + 1) + 3 by omega]; simpa using e1
   · rw [show (j + 1) * 3 + 2 = (j * 3 + 2) + 3 by omega]; simpa using e2
theorem nodes_of_row {w W : World} {base n : Nat} {v : Value} {fs : List NodeD} {cs : List Value} (h : W.ownsRow base 102 3 v n cs) (hn : fs.length = n) (hc : CellsN w fs cs) (hb : Below w.heap.size w W) : ∃ A cap, v = .slice A n cap ∧ n ≤ cap ∧ Nodes W W.heap.size A n fs := by
 obtain ⟨A, cap, rfl, hcap, _, hA⟩ := Own.own_slice h
 refine ⟨A, cap, rfl, hcap, hn, fun hp => ?_⟩
 obtain ⟨g, rfl, hg, _⟩ := hA hp
 refine ⟨g, 0, rfl, hg, fun j hj => ?_⟩
 obtain ⟨c0, c1, c2, e0, e1, e2, hr⟩ := CellsN.at j hc (by omega)
 refine ⟨c0, c1, c2, ?_, ?_, ?_, hr.later hb⟩
 · rw [Nat.zero_add]; exact Own.own_cell h _ _ (by omega) e0
 · rw [Nat.zero_add]; exact Own.own_cell h _ _ (by omega) e1
 · rw [Nat.zero_add]; exact Own.own_cell h _ _ (by omega) e2
theorem filter_snoc {α : Type} [Inhabited α] (p : α → Bool) (l : List α) (k : Nat) (h : k < l.length) : (l.take (k + 1)).filter p = if p (l.getD k default) = true then (l.take k).filter p ++ [l.getD k default] else (l.take k).filter p := by
 rw [List.take_succ_eq_append_getElem h, List.filter_append, List.getD_eq_getElem?_getD, List.getElem?_eq_getElem h, Option.getD_some]
 by_cases e : p l[k] = true
 · rw [if_pos e]; simp [e]
 · rw [if_neg e]; simp [e]
theorem filter_len {α : Type} (p : α → Bool) (l : List α) (k : Nat) : ((l.take k).filter p).length ≤ k := by
 have := List.length_filter_le p (l.take k)
 rw [List.length_take] at this
 omega
end Go.Proofs.YtgmaamnofhmecaaGreatDoor
namespace Go.Proofs
open Go.Shelf
def Tryz.laysNm216_ren : Go.Shelf.Ren := ⟨fun | 16 => 169 | n => n, fun | 24 => 27 | 9 => 9 | 4 => 4 | n => n, fun | n => n⟩
theorem Tryz.laysNm216 : Go.Proofs.Lays2.n16 Tryz.prog Tryz.laysNm216_ren := {
 mixed := by kernel_rfl
 f16 := Tryz.func169.trans (congrArg some (by kernel_rfl))
 t4 := Tryz.underlying4
 a4 := Tryz.isAgg4
 z4 := Tryz.sizeOf4
 v4 := Tryz.zeroValue4
 t9 := Tryz.underlying9
 a9 := Tryz.isAgg9
 z9 := Tryz.sizeOf9
 v9 := Tryz.zeroValue9
 t24 := Tryz.underlying27
 a24 := Tryz.isAgg27
 z24 := Tryz.sizeOf27
 v24 := Tryz.zeroValue27
 i9 := by kernel_rfl }
open Go.RowKit Go.Lib in
theorem Tryz.slices_Clone_string (b off n c : Nat) (zs : List ByteArray) (w : World) (hz : n ≤ zs.length) (hbig : n * 16 ≤ 140737488355328) (hc : ∀ j, j < zs.length → w.cell? ⟨b, off + j, none⟩ = some (.string (zs.getD j ByteArray.empty))) :
 Calls Tryz.prog 169 #[.slice (some ⟨b, off, none⟩) n c] w fun e w' => ∃ v', e = .returned v' ∧ w'.ownsRow w.heap.size 9 1 v' n ((zs.take n).map (Value.string)) ∧ v' ≠ .slice none 0 0 ∧ Below w.heap.size w w' := Any.slices_Clone_string Tryz.laysNm216 b off n c zs w hz hbig hc
open Go.RowKit Go.Lib in
theorem Tryz.slices_Clone_string_nil (n c : Nat) (w : World) :
 Calls Tryz.prog 169 #[.slice none n c] w fun e w' => e = .returned (.slice none 0 0) ∧ w' = w := Any.slices_Clone_string_nil Tryz.laysNm216 n c w
open Go.RowKit Go.Lib in
theorem Tryz.slices_Clone_string_zero (a : Addr) (c : Nat) (w : World) :
 Calls Tryz.prog 169 #[.slice (some a) 0 c] w fun e w' => ∃ v', e = .returned v' ∧ w'.ownsRow w.heap.size 9 1 v' 0 [] ∧ v' ≠ .slice none 0 0 ∧ Below w.heap.size w w' := Any.slices_Clone_string_zero Tryz.laysNm216 a c w
end Go.Proofs
namespace Go.Proofs.YtgmaamnofhmecaaGreatDoor
open Go.RowKit Go.Shelf Go.Proofs.YtgmaamnofhmecaaGreatDoor.Own
attribute [local go_sem] Oper.semAt_some
end Go.Proofs.YtgmaamnofhmecaaGreatDoor
namespace Go.Proofs.YtgmaamnofhmecaaGreatDoor
open Go.RowKit Go.Shelf Go.Proofs.YtgmaamnofhmecaaGreatDoor.Own
attribute [local go_sem] Oper.semAt_some
end Go.Proofs.YtgmaamnofhmecaaGreatDoor
namespace Go.Proofs.YtgmaamnofhmecaaGreatDoor
open Go.RowKit
theorem idxF_any {α : Type} (p : α → Bool) : ∀ (l : List α) (k : Nat), decide (0 ≤ idxF p l k) = l.any p
 | [], k => by simp [idxF]
 | d :: r, k => by
   unfold idxF
   rw [List.any_cons, ← idxF_any p r (k + 1)]
   by_cases h : p d = true
   · simp [h]
   · simp [h]
def PredNode (g : Nat) (lb : Array Value) (p : NodeD → Bool) (fs : List NodeD) (w : World) : Prop :=
 ∀ d ∈ fs, ∀ c0 c1 c2 W, Below w.heap.size w W → NodeR W W.heap.size c0 c1 c2 d → Calls Tryz.prog g (#[.agg #[c0, c1, c2]] ++ lb) W fun e w' => e = .returned (.bool (p d)) ∧ Below W.heap.size W w'
set_option maxHeartbeats 1000000 in
theorem IndexFuncNode_any (g : Nat) (lb : Array Value) (p : NodeD → Bool) (A : Option Addr) (n c : Nat) (fs : List NodeD) (w : World) (h : Nodes w w.heap.size A n fs) (hn : n ≤ 1048576)
 (eg : ∀ args w, (callFunc g args).run Tryz.prog w = .ok (.enter g args) w) (hg : PredNode g lb p fs w) :
 Calls Tryz.prog 245 #[.slice A n c, .func (.func g) #[] lb] w fun e w' => e = .returned (.int .i64 (idxF p fs 0)) ∧ Below w.heap.size w w' := by
 have Hh := Lib.hid h
 have Hlen := Lib.hid h.1
 have Hg := Lib.hid hg
 clear h hg
 go_enter Tryz.func245, Tryz.ntmps245
 go_wp2_with fail
 go_loopw [8] (fun i wr => ∃ k : Nat, k ≤ n ∧ i = .int .i64 k ∧ Below w.heap.size w wr ∧ Hid (idxF p fs 0 = idxF p (fs.drop k) k)) (fun i _ => n - (intOf i).toNat)
 case atStart => exact ⟨0, Nat.zero_le _, rfl, Below.refl _ _, rfl⟩
 case round =>
  obtain ⟨k, hk, rfl, hb, hS⟩ := hrel
  have HB := Lib.hid hb
  clear hb
  by_cases hlt : k < n
  · obtain ⟨b, o, rfl, hbB, hcell⟩ := (Hh.out.later HB.out).2 (by omega)
    obtain ⟨c0, c1, c2, k0, k1, k2, hr⟩ := hcell k hlt
    clear hcell
    have hl : k < fs.length := by rw [Hlen.out]; exact hlt
    have HS := Lib.hid (idxF_step p fs k hl)
    have HK := Lib.hid (Hg.out (fs.getD k default) (getD_memD fs k hl) c0 c1 c2 wr HB.out hr)
    clear hl hr
    generalize fs.getD k default = s at *
    generalize hx : p s = x at *
    have HX := Lib.hid hx
    clear hx
    go_wp2_with fail
    refine HK.out.mono ?_
    rintro e w' ⟨rfl, hb1⟩
    have HB1 := Lib.hid (HB.out.later hb1)
    clear hb1
    cases x
    · go_wp2_with fail
      go_roundw
      case rel => exact ⟨k + 1, by omega, by go_num, HB1.out, by unfold Hid; rw [hS.out, HS.out]; rfl⟩
      case measure => simp [intOf]; omega
    · go_wp2_with fail
      go_ret
      exact ⟨ret_int (by rw [hS.out, HS.out]; rfl), HB1.out⟩
  · have HE : Hid (idxF p fs 0 = -1) := by unfold Hid; rw [hS.out, List.drop_of_length_le (by rw [Hlen.out]; omega)]; rfl
    go_wp2_with fail
    go_ret
    exact ⟨ret_int HE.out.symm, HB.out⟩
end Go.Proofs.YtgmaamnofhmecaaGreatDoor
namespace Go.Proofs.YtgmaamnofhmecaaGreatDoor
open Go.RowKit
theorem add_offN (g o j : Nat) : (⟨g, o, none⟩ : Addr).add j = ⟨g, o + j, none⟩ := by
 unfold Addr.add
 split
 · rename_i h0; subst h0; rfl
 · rfl
def CellsG {α : Type} (sz : Nat) (R : List Value → α → Prop) : List α → List Value → Prop
 | [], cs => cs = []
 | d :: r, cs => ∃ c cs', cs = c ++ cs' ∧ c.length = sz ∧ R c d ∧ CellsG sz R r cs'
section
variable {α : Type} {sz : Nat} {R R' : List Value → α → Prop}
theorem CellsG.len : ∀ {fs : List α} {cs : List Value}, CellsG sz R fs cs → cs.length = fs.length * sz
 | [], cs, h => by
   have h : cs = [] := h
   subst h; simp
 | d :: r, cs, h => by
   obtain ⟨c, cs', rfl, hl, _, hr⟩ := h
   have := hr.len
   simp only [List.length_append, List.length_cons, this, hl, Nat.add_mul]
   omega
theorem CellsG.mono (hR : ∀ c d, R c d → R' c d) : ∀ {fs : List α} {cs : List Value}, CellsG sz R fs cs → CellsG sz R' fs cs
 | [], _, h => h
 | _ :: _, _, h => by
   obtain ⟨c, cs', rfl, hl, hd, hr⟩ := h
   exact ⟨c, cs', rfl, hl, hR _ _ hd, CellsG.mono hR hr⟩
theorem CellsG.all {Q : Value → Prop} (hR : ∀ c d, R c d → ∀ u ∈ c, Q u) : ∀ {fs : List α} {cs : List Value}, CellsG sz R fs cs → ∀ u ∈ cs, Q u
 | [], cs, h, u, hu => by
   have h : cs = [] := h
   subst h; simp at hu
 | _ :: _, _, h, u, hu => by
   obtain ⟨c, cs', rfl, hl, hd, hr⟩ := h
   rw [List.mem_append] at hu
   rcases hu with hu | hu
   · exact hR _ _ hd u hu
   · exact CellsG.all hR hr u hu
theorem CellsG.take : ∀ {fs : List α} {cs : List Value} (k : Nat), CellsG sz R fs cs → CellsG sz R (fs.take k) (cs.take (k * sz))
 | [], cs, k, h => by
   have h : cs = [] := h
   subst h
   simp [CellsG]
 | d :: r, cs, 0, h => by simp [CellsG]
 | d :: r, cs, k + 1, h => by
   obtain ⟨c, cs', rfl, hl, hd, hr⟩ := h
   refine ⟨c, cs'.take (k * sz), ?_, hl, hd, CellsG.take k hr⟩
   rw [show (k + 1) * sz = c.length + k * sz by rw [hl, Nat.add_mul]; omega, List.take_length_add_append]
theorem CellsG.snoc {d : α} {c : List Value} (hd : R c d) (hl : c.length = sz) : ∀ {fs : List α} {cs : List Value}, CellsG sz R fs cs → CellsG sz R (fs ++ [d]) (cs ++ c)
 | [], cs, h => by
   have h : cs = [] := h
   subst h
   exact ⟨c, [], by simp, hl, hd, rfl⟩
 | f :: r, cs, h => by
   obtain ⟨c', cs', rfl, hl', hd', hr⟩ := h
   exact ⟨c', cs' ++ c, by simp, hl', hd', CellsG.snoc hd hl hr⟩
theorem CellsG.at [Inhabited α] : ∀ {fs : List α} {cs : List Value} (j : Nat), CellsG sz R fs cs → j < fs.length → ∃ c, c.length = sz ∧ R c (fs.getD j default) ∧ ∀ t, t < sz → cs[j * sz + t]? = c[t]?
 | [], _, j, _, hj => by simp at hj
 | f :: r, cs, 0, h, _ => by
   obtain ⟨c, cs', rfl, hl, hd, hr⟩ := h
   refine ⟨c, hl, by simpa using hd, fun t ht => ?_⟩
   rw [Nat.zero_mul, Nat.zero_add, List.getElem?_append_left (by omega)]
 | f :: r, cs, j + 1, h, hj => by
   obtain ⟨c, cs', rfl, hl, hd, hr⟩ := h
   obtain ⟨c2, h1, h2, h3⟩ := CellsG.at j hr (by simpa using hj)
   refine ⟨c2, h1, by simpa using h2, fun t ht => ?_⟩
   rw [← h3 t ht, show (j + 1) * sz + t = c.length + (j * sz + t) by rw [hl, Nat.add_mul]; omega, List.getElem?_append_right (by omega), Nat.add_sub_cancel_left]
end
theorem cells_gather {α : Type} [Inhabited α] {sz : Nat} {R : List Value → α → Prop} {w : World} (b : Nat) : ∀ (fs : List α) (o : Nat), (∀ j, j < fs.length → ∃ c, c.length = sz ∧ R c (fs.getD j default) ∧ ∀ t, t < sz → w.cell? ⟨b, o + j * sz + t, none⟩ = c[t]?) → ∃ cs, CellsG sz R fs cs ∧ ∀ j u, cs[j]? = some u → w.cell? ⟨b, o + j, none⟩ = some u
 | [], o, _ => ⟨[], rfl, fun j u hu => by simp at hu⟩
 | d :: r, o, h => by
   obtain ⟨c, hl, hr, hx⟩ := h 0 (by simp)
   obtain ⟨cs, hc, hy⟩ := cells_gather b r (o + sz) (fun j hj => by
    obtain ⟨c, hl, hr, hx⟩ := h (j + 1) (by simpa using hj)
    refine ⟨c, hl, by simpa using hr, fun t ht => ?_⟩
    rw [← hx t ht, Nat.add_mul, Nat.one_mul]
    congr 2
    omega)
   refine ⟨c ++ cs, ⟨c, cs, rfl, hl, by simpa using hr, hc⟩, fun j u hu => ?_⟩
   by_cases hj : j < sz
   · rw [List.getElem?_append_left (by omega)] at hu
     have := hx j hj
     rw [Nat.zero_mul, Nat.add_zero] at this
     rw [this, hu]
   · rw [List.getElem?_append_right (by omega), hl] at hu
     have := hy (j - sz) u hu
     rw [show o + sz + (j - sz) = o + j by omega] at this
     exact this
theorem run_clear_own {P : Program} {w : World} {base e size n g cap i : Nat} {xs : List Value} (h : w.ownsRow base e size (.slice (some ⟨g, 0, none⟩) n cap) n xs) (t : TypeId) (ht : P.underlying t = some (.slice e)) (z : Value) (hz : ∀ w, (zeroValue e).run P w = .ok z w) (hzs : z.cells.size = size) (hz1 : ∀ u ∈ (Builtin.zeroCells z.cells (n - i)).toList, u.oneCell' = true) (hin : i < n) (c : Nat) :
 ∃ w', (∀ ty, (Builtin.clear_ #[t] ty #[.slice (some ⟨g, i * size, none⟩) (n - i) c]).run P w = .ok (.tuple #[]) w') ∧ w'.ownsRow base e size (.slice (some ⟨g, 0, none⟩) i cap) i (xs.take (i * size)) ∧ w.grownBy w' (some g) := by
 obtain ⟨hlen, hor⟩ := h
 rcases hor with ⟨h0, _⟩ | ⟨g', cap', cur, he, hbase, hg, hnc, hcm, hcs, htk⟩
 · cases h0
 obtain ⟨rfl, rfl⟩ : g = g' ∧ cap = cap' := by simpa using he
 have hzl : (Builtin.zeroCells z.cells (n - i)).toList.length = (n - i) * size := by
  simp [Builtin.zeroCells, hzs]
 have hmul : i * size + (n - i) * size = n * size := by rw [← Nat.add_mul]; congr 1; omega
 have hmc : n * size ≤ cap * size := Nat.mul_le_mul_right _ hnc
 have hst := run_storeCells_at P g (i * size) e (Builtin.zeroCells z.cells (n - i)).toList 0 cur w hg (by rw [hzl, Nat.add_zero]; omega) hz1
 rw [Nat.add_zero, hzl] at hst
 obtain ⟨m, hm⟩ : ∃ m, n - i = m + 1 := ⟨n - i - 1, by omega⟩
 refine ⟨w.setRow g (cur.toList.take (i * size) ++ (Builtin.zeroCells z.cells (n - i)).toList ++ cur.toList.drop (i * size + (n - i) * size)).toArray, fun ty => ?_, ⟨?_, .inr ⟨g, cap, _, rfl, hbase, setRow_heap _ _ _ _ _ _ hg, by omega, hcm, ?_, ?_⟩⟩, ?_⟩
 · rw [hm] at hst ⊢
   simp [Builtin.clear_, run_underlying ht, hz]
   simp at hst
   rw [hst]
   rfl
 · rw [List.length_take, hlen]
   have : i * size ≤ n * size := Nat.mul_le_mul_right _ (by omega)
   omega
 · simp only [List.size_toArray, List.length_append, List.length_take, List.length_drop, Array.length_toList, hzl, hcs]
   omega
 · rw [List.append_assoc, List.take_left' (by rw [List.length_take, Array.length_toList, hcs]; omega), ← htk, List.take_take]
   congr 1
   omega
 · exact ⟨rfl, rfl, rfl, by simp, fun k _ hk => setRow_other _ _ _ _ (fun e => hk (by rw [e]))⟩
theorem idxF_cases {α : Type} (p : α → Bool) : ∀ (l : List α) (k : Nat), (idxF p l k = -1 ∧ (l.filter fun d => !p d) = l) ∨ ∃ m, m < l.length ∧ idxF p l k = ((k + m : Nat) : Int) ∧ ((l.take (m + 1)).filter fun d => !p d) = l.take m
 | [], k => .inl ⟨rfl, rfl⟩
 | d :: r, k => by
   by_cases h : p d = true
   · exact .inr ⟨0, by simp, by simp [idxF, h], by simp [h]⟩
   · rcases idxF_cases p r (k + 1) with ⟨e1, e2⟩ | ⟨m, hm, e1, e2⟩
     · exact .inl ⟨by simp [idxF, h, e1], by simp [h, e2]⟩
     · refine .inr ⟨m + 1, by simpa using hm, ?_, ?_⟩
       · simp only [idxF, h, if_false, Bool.false_eq_true, e1]
         congr 1
         omega
       · simp [List.take_succ_cons, h, e2]
structure KeptG {α : Type} (sz : Nat) (R : List Value → α → Prop) (p : α → Bool) (fs : List α) (cs : List Value) (i j : Nat) (ys : List Value) : Prop where
 len : ys.length = cs.length
 lt : i < j
 le : j ≤ fs.length
 cnt : ((fs.take j).filter fun d => !p d).length = i
 kept : CellsG sz R ((fs.take j).filter fun d => !p d) (ys.take (i * sz))
 rest : ys.drop (j * sz) = cs.drop (j * sz)
section
variable {α : Type} {sz : Nat} {R : List Value → α → Prop} {p : α → Bool} {fs : List α} {cs ys : List Value} {i j : Nat}
theorem KeptG.start {k : Nat} (hc : CellsG sz R fs cs) (hk : k < fs.length) (hf : ((fs.take (k + 1)).filter fun d => !p d) = fs.take k) : KeptG sz R p fs cs k (k + 1) cs :=
 ⟨rfl, by omega, by omega, by rw [hf, List.length_take]; omega, by rw [hf]; exact hc.take k, rfl⟩
theorem KeptG.cell (h : KeptG sz R p fs cs i j ys) (t : Nat) : ys[j * sz + t]? = cs[j * sz + t]? := by
 have := congrArg (fun l : List Value => l[t]?) h.rest
 simpa [List.getElem?_drop] using this
theorem KeptG.skip [Inhabited α] (h : KeptG sz R p fs cs i j ys) (hj : j < fs.length) (hp : p (fs.getD j default) = true) : KeptG sz R p fs cs i (j + 1) ys := by
 have hf : ((fs.take (j + 1)).filter fun d => !p d) = (fs.take j).filter fun d => !p d := by
  rw [filter_snoc (fun d => !p d) fs j hj, if_neg (by rw [hp]; simp)]
 have hlt := h.lt
 refine ⟨h.len, by omega, by omega, by rw [hf]; exact h.cnt, by rw [hf]; exact h.kept, ?_⟩
 have := congrArg (fun l : List Value => l.drop sz) h.rest
 rw [Nat.add_mul, Nat.one_mul]
 simpa [List.drop_drop] using this
theorem KeptG.keep [Inhabited α] (h : KeptG sz R p fs cs i j ys) (hl : cs.length = fs.length * sz) (hj : j < fs.length) (hp : p (fs.getD j default) = false) {c : List Value} (hd : R c (fs.getD j default)) (hcl : c.length = sz) :
 KeptG sz R p fs cs (i + 1) (j + 1) (ys.take (i * sz) ++ c ++ ys.drop ((i + 1) * sz)) := by
 have hf : ((fs.take (j + 1)).filter fun d => !p d) = ((fs.take j).filter fun d => !p d) ++ [fs.getD j default] := by
  rw [filter_snoc (fun d => !p d) fs j hj, if_pos (by rw [hp]; rfl)]
 have hlt := h.lt
 have hlen := h.len
 have e1 : (i + 1) * sz = i * sz + sz := by rw [Nat.add_mul, Nat.one_mul]
 have e2 : (i + 1) * sz ≤ fs.length * sz := Nat.mul_le_mul_right _ (by omega)
 have e3 : (i + 1) * sz ≤ j * sz := Nat.mul_le_mul_right _ (by omega)
 have hA : (ys.take (i * sz) ++ c).length = (i + 1) * sz := by
  rw [List.length_append, List.length_take, hcl]
  omega
 refine ⟨?_, by omega, by omega, by rw [hf, List.length_append, h.cnt]; rfl, ?_, ?_⟩
 · rw [List.length_append, hA, List.length_drop]; omega
 · rw [hf, List.take_left' hA]
   exact CellsG.snoc hd hcl h.kept
 · have h3 : ys.drop ((j + 1) * sz) = cs.drop ((j + 1) * sz) := by
    have := congrArg (fun l : List Value => l.drop sz) h.rest
    rw [Nat.add_mul, Nat.one_mul]
    simpa [List.drop_drop] using this
   have e4 : (j + 1) * sz = j * sz + sz := by rw [Nat.add_mul, Nat.one_mul]
   rw [← h3, List.drop_append, hA, List.drop_of_length_le (by rw [hA]; omega), List.nil_append, List.drop_drop]
   congr 1
   omega
theorem KeptG.done (h : KeptG sz R p fs cs i fs.length ys) : (fs.filter fun d => !p d).length = i ∧ CellsG sz R (fs.filter fun d => !p d) (ys.take (i * sz)) := by
 have h1 := h.cnt
 have h2 := h.kept
 rw [List.take_of_length_le (Nat.le_refl _)] at h1 h2
 exact ⟨h1, h2⟩
end
theorem set3_put (ys : List Value) (i : Nat) (c0 c1 c2 : Value) (h : i * 3 + 2 < ys.length) :
 (((ys.set (i * 3) c0).set (i * 3 + 1) c1).set (i * 3 + 2) c2) = ys.take (i * 3) ++ [c0, c1, c2] ++ ys.drop ((i + 1) * 3) := by
 apply List.ext_getElem?
 intro q
 rw [List.append_assoc, List.getElem?_append, List.getElem?_append]
 simp only [List.getElem?_set, List.length_set, List.length_take, List.length_cons, List.length_nil, List.getElem?_drop, List.getElem?_take]
 rw [Nat.min_eq_left (show i * 3 ≤ ys.length by omega)]
 by_cases h1 : q < i * 3
 · rw [if_neg (by omega), if_neg (by omega), if_neg (by omega), if_pos h1, if_pos h1]
 · rw [if_neg h1]
   by_cases h2 : q < (i + 1) * 3
   · have h3 : q = i * 3 ∨ q = i * 3 + 1 ∨ q = i * 3 + 2 := by omega
     rcases h3 with rfl | rfl | rfl
     · rw [if_neg (by omega), if_neg (by omega), if_pos rfl, if_pos (by omega), if_pos (by omega), Nat.sub_self]; rfl
     · rw [if_neg (by omega), if_pos rfl, if_pos (by omega), if_pos (by omega), show i * 3 + 1 - i * 3 = 1 by omega]; rfl
     · rw [if_pos rfl, if_pos (by omega), if_pos (by omega), show i * 3 + 2 - i * 3 = 2 by omega]; rfl
   · rw [if_neg (by omega), if_neg (by omega), if_neg (by omega), if_neg (by omega)]
     congr 1
     omega
def nodeC (w : World) (B : Nat) (c : List Value) (d : NodeD) : Prop := ∃ c0 c1 c2, c = [c0, c1, c2] ∧ NodeR w B c0 c1 c2 d
theorem cellsN_iff {w : World} : ∀ {fs : List NodeD} {cs : List Value}, CellsN w fs cs ↔ CellsG 3 (nodeC w w.heap.size) fs cs
 | [], _ => Iff.rfl
 | d :: r, cs => by
   constructor
   · rintro ⟨c0, c1, c2, cs', rfl, hd, hr⟩
     exact ⟨[c0, c1, c2], cs', rfl, rfl, ⟨c0, c1, c2, rfl, hd⟩, cellsN_iff.1 hr⟩
   · rintro ⟨c, cs', rfl, _, ⟨c0, c1, c2, rfl, hd⟩, hr⟩
     exact ⟨c0, c1, c2, cs', rfl, hd, cellsN_iff.2 hr⟩
theorem nodeC_one {w : World} {B : Nat} (c : List Value) (d : NodeD) (h : nodeC w B c d) : ∀ u ∈ c, u.oneCell' = true := by
 obtain ⟨_, _, _, rfl, rfl, ⟨A, n, c, rfl, _⟩, rfl⟩ := h
 intro u hu
 simp only [List.mem_cons, List.not_mem_nil, or_false] at hu
 rcases hu with rfl | rfl | rfl <;> rfl
theorem nodes_reads {w : World} {B : Nat} {A : Option Addr} {n : Nat} {fs : List NodeD} (h : Nodes w B A n fs) : ∃ cs, CellsG 3 (nodeC w B) fs cs ∧ Reads w B 3 A n cs := by
 obtain ⟨hl, h2⟩ := h
 rcases Nat.eq_zero_or_pos n with h0 | h0
 · subst h0
   have : fs = [] := List.eq_nil_of_length_eq_zero hl
   subst this
   exact ⟨[], rfl, rfl, fun h => absurd h (by omega)⟩
 · obtain ⟨b, o, rfl, hb, hc⟩ := h2 h0
   obtain ⟨cs, h3, h4⟩ := cells_gather (R := nodeC w B) (sz := 3) (w := w) b fs o (fun j hj => by
    obtain ⟨c0, c1, c2, e0, e1, e2, hr⟩ := hc j (by omega)
    refine ⟨[c0, c1, c2], rfl, ⟨c0, c1, c2, rfl, hr⟩, fun t ht => ?_⟩
    match t, ht with
    | 0, _ => exact e0
    | 1, _ => exact e1
    | 2, _ => exact e2)
   exact ⟨cs, h3, by rw [h3.len, hl], fun _ => ⟨_, rfl, hb, fun j u hu => by rw [add_offN]; exact h4 j u hu⟩⟩
end Go.Proofs.YtgmaamnofhmecaaGreatDoor
