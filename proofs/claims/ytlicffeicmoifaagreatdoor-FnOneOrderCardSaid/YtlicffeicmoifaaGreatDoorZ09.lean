import Derived.Test.YtlicffeicmoifaaGreatDoorZ00
import Derived.Test.YtlicffeicmoifaaGreatDoorZ08
import Derived.Test.YtlicffeicmoifaaGreatDoorProg
import Derived.Test.YtlicffeicmoifaaGreatDoorZ07
import Derived.Deep.AppendLies
import Derived.Laws.OwnMore
import Derived.Maps.AppendAt
import Derived.OwnWalk
import Derived.RegionTactic
import Derived.Deep.RegionLaw
import Derived.Ground.Names2Prog
import Derived.Ground.SlgnProg
import Derived.Shelf.LaysM
import Derived.Shelf.Slices.Cells
import Derived.Shelf.Slices.Clone
import Derived.Shelf.Slices.CompactS
import Derived.Shelf.Slices.Empties2
import Derived.Shelf.Slices.Equal
import Derived.Shelf.SlicesE.Clone
import Derived.Shelf.SlicesG.CompactI
import Derived.Shelf.SlicesG.Delete
import Derived.Shelf.SlicesG.SearchI
import Derived.Shelf.Small.Bits
import Derived.Shelf.Small.Strs
import Derived.Shelf.Small.Utf8
import Derived.Shelf.Small.Wraps
import Derived.Shelf.Strconv.Itoa0
import Derived.Shelf.Strconv.Itoa1
import Derived.Shelf.Strconv.Itoa2
import Derived.Shelf.Strconv.Itoa3
import Derived.Shelf.Strconv.Itoa4
import Derived.Shelf.Strings.AsciiSet
import Derived.Shelf.Strings.Builder1
import Derived.Shelf.Strings.Builder2
import Derived.Shelf.Strings.Count
import Derived.Shelf.Strings.Prefix
import Derived.Shelf.Strings.Replace
import Derived.Shelf.Strings.RuneCount
import Derived.Shelf.Strings.Runes
import Derived.Shelf.Strings.Search1
import Derived.Shelf.Strings.Search2
import Derived.Shelf.Strings.Search3
import Derived.Shelf.Strings.Shaped
import Derived.Shelf.Strings.Split
import Derived.Shelf.Strings.SplitShaped
import Derived.Shelf.Strings.Trim
import Derived.Shelf.Unicode.Decode
import Derived.Shelf.Unicode.DecodeAny
import Derived.Shelf.Unicode.DecodeLast
import Derived.Shelf.Unicode.DecodeSlow
import Derived.Lib.AppendIntMem
import Derived.Lib.IndexAny
import Derived.Lib.OwnBridge
import Derived.Lib.TrimUEq
import Derived.LoopIn
import Derived.LoopNIn
import Derived.OwnWalkIn
import Derived.RangeFuncBox
import Derived.RangeFuncLeaves
import Derived.Shelf.Abstract
import Derived.Shelf.GgClosure.StringsIndexFuncTop
import Derived.TacticsInMore
import Derived.WalkKit
set_option linter.unusedSimpArgs false
namespace Go.Proofs.YtlicffeicmoifaaGreatDoor
open Go.RowKit
theorem block_of_add (a : Addr) (n : Nat) : (a.add n).block = a.block := by unfold Addr.add; split <;> rfl
theorem add_of_add (a : Addr) (i j : Nat) : (a.add i).add j = a.add (i + j) := by
 unfold Addr.add
 by_cases hi : i = 0 <;> by_cases hj : j = 0 <;> simp [hi, hj, Nat.add_assoc]
def Reads (w : World) (B size : Nat) (A : Option Addr) (n : Nat) (xs : List Value) : Prop :=
 xs.length = n * size ∧ (0 < n → ∃ ad, A = some ad ∧ ad.block < B ∧ ∀ j u, xs[j]? = some u → w.cell? (ad.add j) = some u)
section
variable {w w' : World} {B B' size n : Nat} {A : Option Addr} {xs : List Value}
theorem Reads.none_ : Reads w B size A 0 [] := ⟨by simp, fun h => absurd h (by omega)⟩
theorem Reads.keep (h : Reads w B size A n xs) (hk : ∀ p : Addr, p.block < B → w'.cell? p = w.cell? p) : Reads w' B size A n xs :=
 ⟨h.1, fun hn => by
   obtain ⟨ad, e, hb, hc⟩ := h.2 hn
   exact ⟨ad, e, hb, fun j u hu => (hk _ (by rw [block_of_add]; exact hb)).trans (hc j u hu)⟩⟩
theorem Reads.below (h : Reads w B size A n xs) (hb : Below B w w') : Reads w' B size A n xs := h.keep fun _ hp => hb.cell hp
theorem Reads.alloc (h : Reads w B size A n xs) (hB : B ≤ w.heap.size) (o : Obj) : Reads (w.alloc o) B size A n xs := h.keep fun p hp => World.cell?_alloc_lt w o p (by omega)
theorem Reads.grown (h : Reads w B size A n xs) {row : Option Nat} (hg : w.grownBy w' row) (hB : B ≤ w.heap.size) (hr : ∀ g, row = some g → B ≤ g) : Reads w' B size A n xs :=
 h.keep fun p hp => World.cell?_of_block (hg.block p.block (by omega) (fun e => by have := hr _ e.symm; omega))
theorem Reads.cut (h : Reads w B size A n xs) {k cap : Nat} (hk : k ≤ n) (hc : n ≤ cap) :
 Reads w B size (if cap = k then A else A.map (·.add (k * size))) (n - k) (xs.drop (k * size)) := by
 refine ⟨by rw [List.length_drop, h.1, Nat.sub_mul], fun hn => ?_⟩
 obtain ⟨ad, rfl, hb, hcell⟩ := h.2 (by omega)
 rw [if_neg (by omega)]
 refine ⟨ad.add (k * size), rfl, by rw [block_of_add]; exact hb, fun j u hu => ?_⟩
 rw [add_of_add]
 exact hcell _ u (by rw [← hu, List.getElem?_drop])
end
section
variable {P : Program} (w : World)
theorem run_append_of_nil (base : Nat) (t ty e : TypeId) (i : TypeInfo) (size : Nat) (ht : P.underlying t = some (.slice e)) (hi : P.info? e = some i)
 (v : Value) (n : Nat) (xs : List Value) (hown : w.ownsRow base e size v n xs) (c : Nat) : (Builtin.append_ #[t, t] ty #[v, .slice none 0 c]).run P w = .ok v w := by
 rcases hown.2 with ⟨rfl, rfl⟩ | ⟨g, cap, cur, rfl, _, _, hnc, _⟩
 · simp [Builtin.append_, run_underlying ht, sizeOf, typeInfo, hi, Builtin.lenOf, Builtin.firstCells]
 · simp [Builtin.append_, run_underlying ht, sizeOf, typeInfo, hi, Builtin.lenOf, Builtin.firstCells, hnc, storeCells]
theorem run_append_any (base : Nat) (t ty e : TypeId) (i : TypeInfo) (z : Value) (size bytes : Nat) (ht : P.underlying t = some (.slice e)) (hi : P.info? e = some i) (hz : i.zero = some z)
 (hsize : i.size = size) (hby : i.bytes = bytes) (hzs : z.cells.size = size) (hsz : 0 < size)
 (v : Value) (n : Nat) (xs : List Value) (hown : w.ownsRow base e size v n xs)
 (B : Nat) (A : Option Addr) (m c : Nat) (news : List Value) (hr : Reads w B size A m news) (h1 : ∀ u ∈ news, u.oneCell' = true)
 (h63 : n + m ≤ maxLen) (hbytes : (n + m) * bytes ≤ 140737488355328) (hbase : base ≤ w.heap.size) :
 ∃ v' w', (Builtin.append_ #[t, t] ty #[v, .slice A m c]).run P w = .ok v' w' ∧ w'.ownsRow base e size v' (n + m) (xs ++ news) ∧ w.grownBy w' v.ownBlock ∧
  (v'.ownBlock = v.ownBlock ∨ v'.ownBlock = some w.heap.size) := by
 rcases A with _ | ad
 · have hm : m = 0 := by
    rcases Nat.eq_zero_or_pos m with h0 | h0
    · exact h0
    · obtain ⟨ad, h, _⟩ := hr.2 h0
      cases h
   subst hm
   have hn : news = [] := List.eq_nil_of_length_eq_zero (by simpa using hr.1)
   subst hn
   exact ⟨v, w, run_append_of_nil w base t ty e i size ht hi v n xs hown c, by simpa using hown, World.grownBy.refl w _, .inl rfl⟩
 · have hcells : ∀ j u, news[j]? = some u → w.cell? (ad.add j) = some u := by
    intro j u hu
    rcases Nat.eq_zero_or_pos m with h0 | h0
    · subst h0
      have hn : news = [] := List.eq_nil_of_length_eq_zero (by simpa using hr.1)
      subst hn
      simp at hu
    · obtain ⟨ad', h, _, hc⟩ := hr.2 h0
      injection h with h
      subst h
      exact hc j u hu
   obtain ⟨v', w', hrun, h2, h3, _, h5⟩ := run_append_own_at (P := P) w base t ty e i z size bytes ht hi hz hsize hby hzs hsz v n xs hown ad m c news hr.1 hcells h1 h63 hbytes hbase
   exact ⟨v', w', hrun, h2, h3, h5⟩
theorem wp_append_any {o : Oper} {a : Act} {K : Act → World → Prop} {Q : Exit → Act → World → Prop} (s x : Operand) (t : TypeId)
 (ho : o.op = .call { callee := .builtin .append, args := #[s, x], argTypes := #[t, t] })
 (base : Nat) (e : TypeId) (i : TypeInfo) (z : Value) (size bytes : Nat) (ht : P.underlying t = some (.slice e)) (hi : P.info? e = some i) (hz : i.zero = some z)
 (hsize : i.size = size) (hby : i.bytes = bytes) (hzs : z.cells.size = size) (hsz : 0 < size)
 (v : Value) (n : Nat) (xs : List Value) (hs : a.eval s = v) (hown : w.ownsRow base e size v n xs)
 (B : Nat) (A : Option Addr) (m c : Nat) (news : List Value) (hx : a.eval x = .slice A m c) (hr : Reads w B size A m news) (h1 : ∀ u ∈ news, u.oneCell' = true)
 (h63 : n + m ≤ maxLen) (hbytes : (n + m) * bytes ≤ 140737488355328) (hbase : base ≤ w.heap.size)
 (h : ∀ v' w', w'.ownsRow base e size v' (n + m) (xs ++ news) → w.grownBy w' v.ownBlock → (v'.ownBlock = v.ownBlock ∨ v'.ownBlock = some w.heap.size) → K (a.put o.dst v') w') : o.wp P a w K Q := by
 obtain ⟨v', w', hrun, h2, h3, h4⟩ := run_append_any (P := P) w base t o.type e i z size bytes ht hi hz hsize hby hzs hsz v n xs hown B A m c news hr h1 h63 hbytes hbase
 unfold Oper.wp execOp
 simp only [ho, resolve, invoke, builtin, Sem.run_bind, Sem.run_pure, Result.andThen_ok, List.map_toArray, List.map_cons, List.map_nil, hs, hx, hrun]
 exact h v' w' h2 h3 h4
theorem wpList_append_any {ops : Array Oper} {rest : List Oper} {o : Oper} {a : Act} {Q : Exit → Act → World → Prop} (hgd : o.guard = none) (s x : Operand) (t : TypeId)
 (ho : o.op = .call { callee := .builtin .append, args := #[s, x], argTypes := #[t, t] })
 (base : Nat) (e : TypeId) (i : TypeInfo) (z : Value) (size bytes : Nat) (ht : P.underlying t = some (.slice e)) (hi : P.info? e = some i) (hz : i.zero = some z)
 (hsize : i.size = size) (hby : i.bytes = bytes) (hzs : z.cells.size = size) (hsz : 0 < size)
 (v : Value) (n : Nat) (xs : List Value) (hs : a.eval s = v) (hown : w.ownsRow base e size v n xs)
 (B : Nat) (A : Option Addr) (m c : Nat) (news : List Value) (hx : a.eval x = .slice A m c) (hr : Reads w B size A m news) (h1 : ∀ u ∈ news, u.oneCell' = true)
 (h63 : n + m ≤ maxLen) (hbytes : (n + m) * bytes ≤ 140737488355328) (hbase : base ≤ w.heap.size)
 (h : ∀ v' w', w'.ownsRow base e size v' (n + m) (xs ++ news) → w.grownBy w' v.ownBlock → (v'.ownBlock = v.ownBlock ∨ v'.ownBlock = some w.heap.size) → wpList P ops Q rest (a.put o.dst v') w') : wpList P ops Q (o :: rest) a w :=
 wpList_plain hgd fun _ hK => wp_append_any w s x t ho base e i z size bytes ht hi hz hsize hby hzs hsz v n xs hs hown B A m c news hx hr h1 h63 hbytes hbase fun v' w' h2 h3 h4 => hK _ _ (h v' w' h2 h3 h4)
end
theorem strs_reads {w : World} {B n : Nat} {A : Option Addr} {ss : List ByteArray} (h : Strs w B A n ss) : Reads w B 1 A n (ss.map Value.string) :=
 ⟨by simp [h.1], fun hn => by
   obtain ⟨b, o, e, hb, hc⟩ := h.2 hn
   refine ⟨⟨b, o, none⟩, e, hb, fun j u hu => ?_⟩
   rw [List.getElem?_map] at hu
   have hj : j < ss.length := by
    rcases Nat.lt_or_ge j ss.length with h1 | h1
    · exact h1
    · rw [List.getElem?_eq_none h1] at hu; cases hu
   rw [List.getElem?_eq_getElem hj] at hu
   have hu' : u = .string ss[j] := by simpa using hu.symm
   subst hu'
   have := hc j (by rw [← h.1]; exact hj)
   rw [List.getD_eq_getElem?_getD, List.getElem?_eq_getElem hj] at this
   unfold Addr.add
   split
   · rename_i h0; subst h0; simpa using this
   · simpa using this⟩
theorem below_own {w0 w w' : World} {base e size n : Nat} {v : Value} {xs : List Value} (hb : Below w0.heap.size w0 w) (ho : w.ownsRow base e size v n xs) (hbase : w0.heap.size ≤ base) (hg : w.grownBy w' v.ownBlock) : Below w0.heap.size w0 w' :=
 hb.grown hg hb.size (fun g hg' => by have := (ho.lt g hg').1; omega)
end Go.Proofs.YtlicffeicmoifaaGreatDoor
namespace Go.Proofs.YtlicffeicmoifaaGreatDoor
open Go.RowKit
theorem cells_newN (w : World) (cs : Array Value) (t : TypeId) : ∀ j u, cs.toList[j]? = some u → (w.alloc (.cells cs t)).cell? ((⟨w.heap.size, 0, none⟩ : Addr).add j) = some u := by
 intro j u hu
 have h := cell_of_row _ w.heap.size j cs t (0, 0) (heap_alloc_new w (.cells cs t))
 have hu' : cs[j]? = some u := by rw [← Array.getElem?_toList]; exact hu
 unfold Addr.add
 split
 · rename_i h0; subst h0; rw [h, hu']
 · rw [show (⟨w.heap.size, 0 + j, none⟩ : Addr) = ⟨w.heap.size, j, none⟩ from by simp, h, hu']
theorem ne_bytes {s : ByteArray} {l : List UInt8} (h : s ≠ ⟨l.toArray⟩) : (s.toList == l) = false := by
 have := str_beq h
 simpa [toList_data] using this
def CellsN (w : World) : List NodeD → List Value → Prop
 | [], cs => cs = []
 | d :: r, cs => ∃ c0 c1 c2 cs', cs = c0 :: c1 :: c2 :: cs' ∧ NodeR w w.heap.size c0 c1 c2 d ∧ CellsN w r cs'
theorem CellsN.snoc {w : World} {d : NodeD} {c0 c1 c2 : Value} (hd : NodeR w w.heap.size c0 c1 c2 d) : ∀ {fs : List NodeD} {cs : List Value}, CellsN w fs cs → CellsN w (fs ++ [d]) (cs ++ [c0, c1, c2])
 | [], cs, h => by
   have h : cs = [] := h
   subst h
   exact ⟨c0, c1, c2, [], rfl, hd, rfl⟩
 | f :: r, cs, h => by
   obtain ⟨a0, a1, a2, cs', rfl, ha, hr⟩ := h
   exact ⟨a0, a1, a2, cs' ++ [c0, c1, c2], rfl, ha, CellsN.snoc hd hr⟩
theorem CellsN.at {w : World} : ∀ {fs : List NodeD} {cs : List Value} (j : Nat), CellsN w fs cs → j < fs.length → ∃ c0 c1 c2, cs[j * 3]? = some c0 ∧ cs[j * 3 + 1]? = some c1 ∧ cs[j * 3 + 2]? = some c2 ∧ NodeR w w.heap.size c0 c1 c2 (fs.getD j default)
 | [], _, j, _, hj => by simp at hj
 | f :: r, cs, 0, h, _ => by
   obtain ⟨a0, a1, a2, cs', rfl, ha, _⟩ := h
   exact ⟨a0, a1, a2, rfl, rfl, rfl, ha⟩
 | f :: r, cs, j + 1, h, hj => by
   obtain ⟨a0, a1, a2, cs', rfl, _, hr⟩ := h
   obtain ⟨b0, b1, b2, e0, e1, e2, hb⟩ := CellsN.at j hr (by simpa using hj)
   refine ⟨b0, b1, b2, ?_, ?_, ?_, by simpa using hb⟩
   · rw [show (j + 1) * 3 = j * 3 + 3 by omega]; simpa using e0
   · rw [show (j + 1) * 3 + 1 = (j * 3 + 1) + 3 by omega]; simpa using e1
   · rw [show (j + 1) * 3 + 2 = (j * 3 + 2) + 3 by omega]; simpa using e2
theorem nodes_of_row {w W : World} {base n : Nat} {v : Value} {fs : List NodeD} {cs : List Value} (h : W.ownsRow base 89 3 v n cs) (hn : fs.length = n) (hc : CellsN w fs cs) (hb : Below w.heap.size w W) : ∃ A cap, v = .slice A n cap ∧ n ≤ cap ∧ Nodes W W.heap.size A n fs := by
 obtain ⟨A, cap, rfl, hcap, _, hA⟩ := Own.own_slice h
 refine ⟨A, cap, rfl, hcap, hn, fun hp => ?_⟩
 obtain ⟨g, rfl, hg, _⟩ := hA hp
 refine ⟨g, 0, rfl, hg, fun j hj => ?_⟩
 obtain ⟨c0, c1, c2, e0, e1, e2, hr⟩ := CellsN.at j hc (by omega)
 refine ⟨c0, c1, c2, ?_, ?_, ?_, hr.later hb⟩
 · rw [Nat.zero_add]; exact Own.own_cell h _ _ (by omega) e0
 · rw [Nat.zero_add]; exact Own.own_cell h _ _ (by omega) e1
 · rw [Nat.zero_add]; exact Own.own_cell h _ _ (by omega) e2
theorem filter_snoc {α : Type} [Inhabited α] (p : α → Bool) (l : List α) (k : Nat) (h : k < l.length) : (l.take (k + 1)).filter p = if p (l.getD k default) = true then (l.take k).filter p ++ [l.getD k default] else (l.take k).filter p := by
 rw [List.take_succ_eq_append_getElem h, List.filter_append, List.getD_eq_getElem?_getD, List.getElem?_eq_getElem h, Option.getD_some]
 by_cases e : p l[k] = true
 · rw [if_pos e]; simp [e]
 · rw [if_neg e]; simp [e]
theorem filter_len {α : Type} (p : α → Bool) (l : List α) (k : Nat) : ((l.take k).filter p).length ≤ k := by
 have := List.length_filter_le p (l.take k)
 rw [List.length_take] at this
 omega
end Go.Proofs.YtlicffeicmoifaaGreatDoor
namespace Go.Proofs
open Go.Shelf
def Tryz.laysNm216_ren : Go.Shelf.Ren := ⟨fun | 16 => 130 | n => n, fun | 24 => 35 | 9 => 9 | 4 => 4 | n => n, fun | n => n⟩
theorem Tryz.laysNm216 : Go.Proofs.Lays2.n16 Tryz.prog Tryz.laysNm216_ren := {
 mixed := by kernel_rfl
 f16 := Tryz.func130.trans (congrArg some (by kernel_rfl))
 t4 := Tryz.underlying4
 a4 := Tryz.isAgg4
 z4 := Tryz.sizeOf4
 v4 := Tryz.zeroValue4
 t9 := Tryz.underlying9
 a9 := Tryz.isAgg9
 z9 := Tryz.sizeOf9
 v9 := Tryz.zeroValue9
 t24 := Tryz.underlying35
 a24 := Tryz.isAgg35
 z24 := Tryz.sizeOf35
 v24 := Tryz.zeroValue35
 i9 := by kernel_rfl }
open Go.RowKit Go.Lib in
theorem Tryz.slices_Clone_string (b off n c : Nat) (zs : List ByteArray) (w : World) (hz : n ≤ zs.length) (hbig : n * 16 ≤ 140737488355328) (hc : ∀ j, j < zs.length → w.cell? ⟨b, off + j, none⟩ = some (.string (zs.getD j ByteArray.empty))) :
 Calls Tryz.prog 130 #[.slice (some ⟨b, off, none⟩) n c] w fun e w' => ∃ v', e = .returned v' ∧ w'.ownsRow w.heap.size 9 1 v' n ((zs.take n).map (Value.string)) ∧ v' ≠ .slice none 0 0 ∧ Below w.heap.size w w' := Any.slices_Clone_string Tryz.laysNm216 b off n c zs w hz hbig hc
open Go.RowKit Go.Lib in
theorem Tryz.slices_Clone_string_nil (n c : Nat) (w : World) :
 Calls Tryz.prog 130 #[.slice none n c] w fun e w' => e = .returned (.slice none 0 0) ∧ w' = w := Any.slices_Clone_string_nil Tryz.laysNm216 n c w
open Go.RowKit Go.Lib in
theorem Tryz.slices_Clone_string_zero (a : Addr) (c : Nat) (w : World) :
 Calls Tryz.prog 130 #[.slice (some a) 0 c] w fun e w' => ∃ v', e = .returned v' ∧ w'.ownsRow w.heap.size 9 1 v' 0 [] ∧ v' ≠ .slice none 0 0 ∧ Below w.heap.size w w' := Any.slices_Clone_string_zero Tryz.laysNm216 a c w
end Go.Proofs
namespace Go.Proofs.YtlicffeicmoifaaGreatDoor
open Go.RowKit
theorem idxF_any {α : Type} (p : α → Bool) : ∀ (l : List α) (k : Nat), decide (0 ≤ idxF p l k) = l.any p
 | [], k => by simp [idxF]
 | d :: r, k => by
   unfold idxF
   rw [List.any_cons, ← idxF_any p r (k + 1)]
   by_cases h : p d = true
   · simp [h]
   · simp [h]
def PredNode (g : Nat) (lb : Array Value) (p : NodeD → Bool) (fs : List NodeD) (w : World) : Prop :=
 ∀ d ∈ fs, ∀ c0 c1 c2 W, Below w.heap.size w W → NodeR W W.heap.size c0 c1 c2 d → Calls Tryz.prog g (#[.agg #[c0, c1, c2]] ++ lb) W fun e w' => e = .returned (.bool (p d)) ∧ Below W.heap.size W w'
set_option maxHeartbeats 1000000 in
theorem IndexFuncNode_any (g : Nat) (lb : Array Value) (p : NodeD → Bool) (A : Option Addr) (n c : Nat) (fs : List NodeD) (w : World) (h : Nodes w w.heap.size A n fs) (hn : n ≤ 1048576)
 (eg : ∀ args w, (callFunc g args).run Tryz.prog w = .ok (.enter g args) w) (hg : PredNode g lb p fs w) :
 Calls Tryz.prog 293 #[.slice A n c, .func (.func g) #[] lb] w fun e w' => e = .returned (.int .i64 (idxF p fs 0)) ∧ Below w.heap.size w w' := by
 have Hh := Lib.hid h
 have Hlen := Lib.hid h.1
 have Hg := Lib.hid hg
 clear h hg
 go_enter Tryz.func293, Tryz.ntmps293
 go_wp2_with fail
 go_loopw [8] (fun i wr => ∃ k : Nat, k ≤ n ∧ i = .int .i64 k ∧ Below w.heap.size w wr ∧ Hid (idxF p fs 0 = idxF p (fs.drop k) k)) (fun i _ => n - (intOf i).toNat)
 case atStart => exact ⟨0, Nat.zero_le _, rfl, Below.refl _ _, rfl⟩
 case round =>
  obtain ⟨k, hk, rfl, hb, hS⟩ := hrel
  have HB := Lib.hid hb
  clear hb
  by_cases hlt : k < n
  · obtain ⟨b, o, rfl, hbB, hcell⟩ := (Hh.out.later HB.out).2 (by omega)
    obtain ⟨c0, c1, c2, k0, k1, k2, hr⟩ := hcell k hlt
    clear hcell
    have hl : k < fs.length := by rw [Hlen.out]; exact hlt
    have HS := Lib.hid (idxF_step p fs k hl)
    have HK := Lib.hid (Hg.out (fs.getD k default) (getD_memD fs k hl) c0 c1 c2 wr HB.out hr)
    clear hl hr
    generalize fs.getD k default = s at *
    generalize hx : p s = x at *
    have HX := Lib.hid hx
    clear hx
    go_wp2_with fail
    refine HK.out.mono ?_
    rintro e w' ⟨rfl, hb1⟩
    have HB1 := Lib.hid (HB.out.later hb1)
    clear hb1
    cases x
    · go_wp2_with fail
      go_roundw
      case rel => exact ⟨k + 1, by omega, by go_num, HB1.out, by unfold Hid; rw [hS.out, HS.out]; rfl⟩
      case measure => simp [intOf]; omega
    · go_wp2_with fail
      go_ret
      exact ⟨ret_int (by rw [hS.out, HS.out]; rfl), HB1.out⟩
  · have HE : Hid (idxF p fs 0 = -1) := by unfold Hid; rw [hS.out, List.drop_of_length_le (by rw [Hlen.out]; omega)]; rfl
    go_wp2_with fail
    go_ret
    exact ⟨ret_int HE.out.symm, HB.out⟩
end Go.Proofs.YtlicffeicmoifaaGreatDoor
namespace Go.Proofs.YtlicffeicmoifaaGreatDoor
open Go.RowKit
theorem bl_irr : ∀ (l : List UInt8), Op.bytesLess l l = false
 | [] => rfl
 | a :: x => by simp [Op.bytesLess, bl_irr x]
theorem bl_trans : ∀ (a b c : List UInt8), Op.bytesLess a b = true → Op.bytesLess b c = true → Op.bytesLess a c = true
 | _, [], _, h, _ => by simp [Op.bytesLess] at h
 | _, _ :: _, [], _, h => by simp [Op.bytesLess] at h
 | [], _ :: _, _ :: _, _, _ => rfl
 | a :: x, b :: y, c :: z, h1, h2 => by
   simp only [Op.bytesLess, Bool.or_eq_true, Bool.and_eq_true, decide_eq_true_iff, beq_iff_eq] at h1 h2 ⊢
   rcases h1 with h1 | ⟨rfl, h1⟩
   · rcases h2 with h2 | ⟨rfl, h2⟩
     · exact .inl (UInt8.lt_trans h1 h2)
     · exact .inl h1
   · rcases h2 with h2 | ⟨rfl, h2⟩
     · exact .inl h2
     · exact .inr ⟨rfl, bl_trans x y z h1 h2⟩
theorem bl_total : ∀ (a b : List UInt8), Op.bytesLess a b = false → Op.bytesLess b a = false → a = b
 | [], [], _, _ => rfl
 | [], _ :: _, h, _ => by simp [Op.bytesLess] at h
 | _ :: _, [], _, h => by simp [Op.bytesLess] at h
 | a :: x, b :: y, h1, h2 => by
   simp only [Op.bytesLess, Bool.or_eq_false_iff, Bool.and_eq_false_iff, decide_eq_false_iff_not, beq_eq_false_iff_ne] at h1 h2
   have e : a = b := UInt8.le_antisymm (UInt8.not_lt.1 h2.1) (UInt8.not_lt.1 h1.1)
   subst e
   have r1 := h1.2.resolve_left (fun h => h rfl)
   have r2 := h2.2.resolve_left (fun h => h rfl)
   rw [bl_total x y r1 r2]
theorem canon_inj {a b : ByteArray} (ha : canonB a = true) (hb : canonB b = true) (h : numS a.data.toList = numS b.data.toList) : a = b := by
 unfold canonB at ha hb
 rw [decide_eq_true_iff] at ha hb
 apply bytes_ext
 rw [toList_data, toList_data, ← ha, ← hb, h]
theorem colI_lt (a b : ByteArray) : decide (colI a b < 0) = beforeB a b := by
 unfold colI beforeB
 cases ha : canonB a <;> cases hb : canonB b
 · simp only [Bool.false_and, if_neg (show ¬ (false = true) by decide), bne_self_eq_false]
   unfold cmpS
   cases h : Op.bytesLess a.toList b.toList
   · by_cases he : a = b <;> simp [he]
   · simp
 · simp
 · simp
 · simp only [Bool.and_self, if_pos]
   unfold cmpI
   by_cases h1 : numS a.data.toList < numS b.data.toList
   · simp [h1]
   · by_cases h2 : numS b.data.toList < numS a.data.toList <;> simp [h1, h2]
theorem colI_zero (a b : ByteArray) : colI a b = 0 ↔ a = b := by
 constructor
 · intro h
   unfold colI at h
   cases ha : canonB a <;> cases hb : canonB b
   · rw [ha, hb] at h
     simp at h
     unfold cmpS at h
     split at h
     · omega
     · split at h
       · assumption
       · omega
   · rw [ha, hb] at h; simp at h
   · rw [ha, hb] at h; simp at h
   · rw [ha, hb] at h
     simp at h
     unfold cmpI at h
     split at h
     · omega
     · split at h
       · omega
       · exact canon_inj ha hb (by omega)
 · rintro rfl
   unfold colI
   cases ha : canonB a
   · simp; unfold cmpS; rw [bl_irr]; simp
   · simp; unfold cmpI; simp
theorem before_irr (a : ByteArray) : beforeB a a = false := by
 rw [← colI_lt, (colI_zero a a).2 rfl]; rfl
theorem before_trans (a b c : ByteArray) (h1 : beforeB a b = true) (h2 : beforeB b c = true) : beforeB a c = true := by
 unfold beforeB at h1 h2 ⊢
 cases ha : canonB a <;> cases hb : canonB b <;> cases hc : canonB c <;> rw [ha, hb] at h1 <;> rw [hb, hc] at h2 <;> simp at h1 h2 ⊢
 · exact bl_trans _ _ _ h1 h2
 · omega
theorem before_total (a b : ByteArray) (h : a ≠ b) : beforeB a b = true ∨ beforeB b a = true := by
 rcases Int.lt_trichotomy (colI a b) 0 with h1 | h1 | h1
 · exact .inl (by rw [← colI_lt]; simpa using h1)
 · exact absurd ((colI_zero a b).1 h1) h
 · right
   unfold colI at h1
   unfold beforeB
   cases ha : canonB a <;> cases hb : canonB b <;> rw [ha, hb] at h1 <;> simp at h1 ⊢
   · unfold cmpS at h1
     cases hx : Op.bytesLess b.toList a.toList
     · cases hy : Op.bytesLess a.toList b.toList
       · exact absurd (bytes_ext (bl_total _ _ hy hx)) h
       · rw [hy] at h1; simp at h1
     · rfl
   · unfold cmpI at h1
     split at h1
     · omega
     · split at h1
       · assumption
       · omega
theorem colL_lt : ∀ (a b : List ByteArray), decide (colL a b < 0) = lessS a b
 | [], [] => rfl
 | [], _ :: _ => rfl
 | _ :: _, [] => rfl
 | x :: r, y :: s => by
   unfold colL lessS
   by_cases h : x = y
   · subst h
     rw [if_pos ((colI_zero x x).2 rfl), if_pos rfl, colL_lt r s]
   · rw [if_neg (fun e => h ((colI_zero x y).1 e)), if_neg h, colI_lt]
theorem colL_zero : ∀ (a b : List ByteArray), colL a b = 0 ↔ a = b
 | [], [] => by simp [colL]
 | [], _ :: _ => by simp [colL]
 | _ :: _, [] => by simp [colL]
 | x :: r, y :: s => by
   unfold colL
   by_cases h : x = y
   · subst h
     rw [if_pos ((colI_zero x x).2 rfl), colL_zero r s]
     simp
   · have ht : ¬ colI x y = 0 := fun e => h ((colI_zero x y).1 e)
     rw [if_neg ht]
     simp [h]
     exact ht
theorem cmpS_zero (a b : ByteArray) : cmpS a b = 0 ↔ a = b := by
 unfold cmpS
 constructor
 · intro h
   split at h
   · omega
   · split at h
     · assumption
     · omega
 · rintro rfl
   rw [bl_irr]; simp
theorem cmpS_lt (a b : ByteArray) : decide (cmpS a b < 0) = Op.bytesLess a.toList b.toList := by
 unfold cmpS
 cases h : Op.bytesLess a.toList b.toList
 · by_cases he : a = b <;> simp [he]
 · simp
theorem cmpLoc_lt (n n' : ByteArray) (s s' : List ByteArray) : decide (cmpLoc n s n' s' < 0) = lessB n s n' s' := by
 unfold cmpLoc lessB orI
 by_cases h : n = n'
 · subst h
   rw [if_pos ((cmpS_zero n n).2 rfl), if_pos rfl, colL_lt]
 · rw [if_neg (fun e => h ((cmpS_zero n n').1 e)), if_neg h, cmpS_lt]
theorem cmpLoc_zero (n n' : ByteArray) (s s' : List ByteArray) : cmpLoc n s n' s' = 0 ↔ n = n' ∧ s = s' := by
 unfold cmpLoc orI
 by_cases h : n = n'
 · subst h
   rw [if_pos ((cmpS_zero n n).2 rfl), colL_zero]
   simp
 · rw [if_neg (fun e => h ((cmpS_zero n n').1 e)), cmpS_zero]
   simp [h]
theorem lessS_trans : ∀ (a b c : List ByteArray), lessS a b = true → lessS b c = true → lessS a c = true
 | _, [], [], _, h => by simp [lessS] at h
 | [], [], _ :: _, h, _ => by simp [lessS] at h
 | _ :: _, [], _ :: _, h, _ => by simp [lessS] at h
 | _, _ :: _, [], _, h => by simp [lessS] at h
 | [], _ :: _, _ :: _, _, _ => rfl
 | x :: r, y :: s, z :: t, h1, h2 => by
   unfold lessS at h1 h2 ⊢
   by_cases e1 : x = y
   · subst e1
     rw [if_pos rfl] at h1
     by_cases e2 : x = z
     · subst e2
       rw [if_pos rfl] at h2 ⊢
       exact lessS_trans r s t h1 h2
     · rw [if_neg e2] at h2 ⊢
       exact h2
   · rw [if_neg e1] at h1
     by_cases e2 : y = z
     · subst e2
       rw [if_neg e1]
       exact h1
     · rw [if_neg e2] at h2
       have h3 := before_trans x y z h1 h2
       by_cases e3 : x = z
       · subst e3
         rw [before_irr] at h3; cases h3
       · rw [if_neg e3]; exact h3
theorem lessB_trans (n1 n2 n3 : ByteArray) (s1 s2 s3 : List ByteArray) (h1 : lessB n1 s1 n2 s2 = true) (h2 : lessB n2 s2 n3 s3 = true) : lessB n1 s1 n3 s3 = true := by
 unfold lessB at h1 h2 ⊢
 by_cases e1 : n1 = n2
 · subst e1
   rw [if_pos rfl] at h1
   by_cases e2 : n1 = n3
   · subst e2
     rw [if_pos rfl] at h2 ⊢
     exact lessS_trans _ _ _ h1 h2
   · rw [if_neg e2] at h2 ⊢
     exact h2
 · rw [if_neg e1] at h1
   by_cases e2 : n2 = n3
   · subst e2
     rw [if_neg e1]
     exact h1
   · rw [if_neg e2] at h2
     have h3 := bl_trans _ _ _ h1 h2
     by_cases e3 : n1 = n3
     · subst e3
       rw [bl_irr] at h3; cases h3
     · rw [if_neg e3]; exact h3
end Go.Proofs.YtlicffeicmoifaaGreatDoor
