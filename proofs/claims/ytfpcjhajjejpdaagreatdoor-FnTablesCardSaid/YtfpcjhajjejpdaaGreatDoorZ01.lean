/-
  Data of struct types that the laws hand over: structures, how they are read in memory, what is kept where the heap only grows. (Printed by gen_data.py.) What szX and szXS compute for the struct types: the room that is left. (Printed by gen_dtsz.py.) What toX and toXS make of the struct types: copies in memory of their own. (Printed by gen_dtto.py.) Contracts of the library at this program: laid by the kit in plain declarations; only what the proofs use is kept.
-/
import Derived.Test.YtfpcjhajjejpdaaGreatDoorZ00
import Derived.Test.YtfpcjhajjejpdaaGreatDoorProg
import Derived.Ground.GgwProg
import Derived.Ground.Names2Prog
import Derived.Ground.SlgnProg
import Derived.Shelf.GgClosure.StringsIndexFunc
import Derived.Shelf.GgClosure.StringsIndexFuncTop
import Derived.Shelf.LaysM
import Derived.Shelf.Slices.Cells
import Derived.Shelf.Slices.Clone
import Derived.Shelf.Slices.CompactS
import Derived.Shelf.Slices.Empties2
import Derived.Shelf.Slices.Equal
import Derived.Shelf.SlicesE.Clone
import Derived.Shelf.SlicesG.SearchI
import Derived.Shelf.Small.Bits
import Derived.Shelf.Small.Strs
import Derived.Shelf.Small.Utf8
import Derived.Shelf.Small.Wraps
import Derived.Shelf.Strconv.Itoa0
import Derived.Shelf.Strconv.Itoa1
import Derived.Shelf.Strconv.Itoa2
import Derived.Shelf.Strconv.Itoa3
import Derived.Shelf.Strconv.Itoa4
import Derived.Shelf.Strings.AsciiSet
import Derived.Shelf.Strings.Builder1
import Derived.Shelf.Strings.Builder2
import Derived.Shelf.Strings.Count
import Derived.Shelf.Strings.Explode
import Derived.Shelf.Strings.FuncGrows
import Derived.Shelf.Strings.Prefix
import Derived.Shelf.Strings.Replace
import Derived.Shelf.Strings.RuneCount
import Derived.Shelf.Strings.Runes
import Derived.Shelf.Strings.Search1
import Derived.Shelf.Strings.Search2
import Derived.Shelf.Strings.Search3
import Derived.Shelf.Strings.Shaped
import Derived.Shelf.Strings.SlTrimAscii
import Derived.Shelf.Strings.Split
import Derived.Shelf.Strings.SplitShaped
import Derived.Shelf.Strings.Trim
import Derived.Shelf.Unicode.Decode
import Derived.Shelf.Unicode.DecodeAny
import Derived.Shelf.Unicode.DecodeLast
import Derived.Shelf.Unicode.DecodeSlow
import Derived.Shelf.Utf8.RuneCount
namespace Go.Proofs.YtfpcjhajjejpdaaGreatDoor
open Go.RowKit
set_option linter.unusedVariables false

structure NodeD where
  name : ByteArray
  subs : List ByteArray
  val : ByteArray
deriving Inhabited
def NodeR (w : World) (B : Nat) (c0 c1 c2 : Value) (d : NodeD) : Prop :=
  c0 = .string d.name ∧ (∃ A n cap, c1 = .slice A n cap ∧ Strs w B A n d.subs ∧ n ≤ cap) ∧ c2 = .string d.val
theorem NodeR.keep {w w' : World} {B : Nat} {c0 c1 c2 : Value} {d : NodeD} (h : NodeR w B c0 c1 c2 d) (hk : ∀ p : Addr, p.block < B → w'.cell? p = w.cell? p) : NodeR w' B c0 c1 c2 d := by
  obtain ⟨e0, ⟨A1, n1, p1, e1, s1, k1⟩, e2⟩ := h
  exact ⟨e0, ⟨A1, n1, p1, e1, s1.keep hk, k1⟩, e2⟩
theorem NodeR.more {w : World} {B B' : Nat} {c0 c1 c2 : Value} {d : NodeD} (h : NodeR w B c0 c1 c2 d) (hB : B ≤ B') : NodeR w B' c0 c1 c2 d := by
  obtain ⟨e0, ⟨A1, n1, p1, e1, s1, k1⟩, e2⟩ := h
  exact ⟨e0, ⟨A1, n1, p1, e1, s1.more hB, k1⟩, e2⟩
theorem NodeR.later {w w' : World} {c0 c1 c2 : Value} {d : NodeD} (h : NodeR w w.heap.size c0 c1 c2 d) (hb : Below w.heap.size w w') : NodeR w' w'.heap.size c0 c1 c2 d :=
  (h.keep fun _ hp => hb.cell hp).more hb.size
def Nodes (w : World) (B : Nat) (A : Option Addr) (n : Nat) (fs : List NodeD) : Prop :=
  fs.length = n ∧ (0 < n → ∃ b o, A = some ⟨b, o, none⟩ ∧ b < B ∧ ∀ j, j < n → ∃ c0 c1 c2, w.cell? ⟨b, o + j * 3, none⟩ = some c0 ∧ w.cell? ⟨b, o + j * 3 + 1, none⟩ = some c1 ∧ w.cell? ⟨b, o + j * 3 + 2, none⟩ = some c2 ∧ NodeR w B c0 c1 c2 (fs.getD j default))
section
variable {w w' : World} {B B' n : Nat} {A : Option Addr} {fs : List NodeD}
theorem Nodes.keep (h : Nodes w B A n fs) (hk : ∀ p : Addr, p.block < B → w'.cell? p = w.cell? p) : Nodes w' B A n fs :=
  ⟨h.1, fun hn => by
    obtain ⟨b, o, e, hb, hc⟩ := h.2 hn
    refine ⟨b, o, e, hb, fun j hj => ?_⟩
    obtain ⟨c0, c1, c2, h0, h1, h2, hr⟩ := hc j hj
    exact ⟨c0, c1, c2, (hk _ hb).trans h0, (hk _ hb).trans h1, (hk _ hb).trans h2, hr.keep hk⟩⟩
theorem Nodes.more (h : Nodes w B A n fs) (hB : B ≤ B') : Nodes w B' A n fs :=
  ⟨h.1, fun hn => by
    obtain ⟨b, o, e, hb, hc⟩ := h.2 hn
    refine ⟨b, o, e, by omega, fun j hj => ?_⟩
    obtain ⟨c0, c1, c2, h0, h1, h2, hr⟩ := hc j hj
    exact ⟨c0, c1, c2, h0, h1, h2, hr.more hB⟩⟩
theorem Nodes.later (h : Nodes w w.heap.size A n fs) (hb : Below w.heap.size w w') : Nodes w' w'.heap.size A n fs := (h.keep fun _ hp => hb.cell hp).more hb.size
end
def NodeD.small (d : NodeD) : Prop := d.name.size ≤ 1048576 ∧ (d.subs.length ≤ 1048576 ∧ ∀ s ∈ d.subs, s.size ≤ 1048576) ∧ d.val.size ≤ 1048576

structure TableD where
  name : ByteArray
  glob : ByteArray
  cols : List ByteArray
  idx : List ByteArray
deriving Inhabited
def TableR (w : World) (B : Nat) (c0 c1 c2 c3 : Value) (d : TableD) : Prop :=
  c0 = .string d.name ∧ c1 = .string d.glob ∧ (∃ A n cap, c2 = .slice A n cap ∧ Strs w B A n d.cols ∧ n ≤ cap) ∧ (∃ A n cap, c3 = .slice A n cap ∧ Strs w B A n d.idx ∧ n ≤ cap)
theorem TableR.keep {w w' : World} {B : Nat} {c0 c1 c2 c3 : Value} {d : TableD} (h : TableR w B c0 c1 c2 c3 d) (hk : ∀ p : Addr, p.block < B → w'.cell? p = w.cell? p) : TableR w' B c0 c1 c2 c3 d := by
  obtain ⟨e0, e1, ⟨A2, n2, p2, e2, s2, k2⟩, ⟨A3, n3, p3, e3, s3, k3⟩⟩ := h
  exact ⟨e0, e1, ⟨A2, n2, p2, e2, s2.keep hk, k2⟩, ⟨A3, n3, p3, e3, s3.keep hk, k3⟩⟩
theorem TableR.more {w : World} {B B' : Nat} {c0 c1 c2 c3 : Value} {d : TableD} (h : TableR w B c0 c1 c2 c3 d) (hB : B ≤ B') : TableR w B' c0 c1 c2 c3 d := by
  obtain ⟨e0, e1, ⟨A2, n2, p2, e2, s2, k2⟩, ⟨A3, n3, p3, e3, s3, k3⟩⟩ := h
  exact ⟨e0, e1, ⟨A2, n2, p2, e2, s2.more hB, k2⟩, ⟨A3, n3, p3, e3, s3.more hB, k3⟩⟩
theorem TableR.later {w w' : World} {c0 c1 c2 c3 : Value} {d : TableD} (h : TableR w w.heap.size c0 c1 c2 c3 d) (hb : Below w.heap.size w w') : TableR w' w'.heap.size c0 c1 c2 c3 d :=
  (h.keep fun _ hp => hb.cell hp).more hb.size
def TableD.small (d : TableD) : Prop := d.name.size ≤ 1048576 ∧ d.glob.size ≤ 1048576 ∧ (d.cols.length ≤ 1048576 ∧ ∀ s ∈ d.cols, s.size ≤ 1048576) ∧ (d.idx.length ≤ 1048576 ∧ ∀ s ∈ d.idx, s.size ≤ 1048576)

end Go.Proofs.YtfpcjhajjejpdaaGreatDoor
namespace Go.Proofs.YtfpcjhajjejpdaaGreatDoor
open Go.RowKit
set_option linter.unusedVariables false

theorem getD_memD {α : Type} [Inhabited α] (l : List α) (k : Nat) (h : k < l.length) : l.getD k default ∈ l := by
  rw [List.getD_eq_getElem?_getD, List.getElem?_eq_getElem h]; simp
end Go.Proofs.YtfpcjhajjejpdaaGreatDoor
namespace Go.Proofs.YtfpcjhajjejpdaaGreatDoor
open Go.RowKit _root_.Go.Proofs.YtfpcjhajjejpdaaGreatDoor.Own
set_option linter.unusedVariables false

theorem heap_3of4 (w : World) (a b c d : Obj) : ((((w.alloc a).alloc b).alloc c).alloc d).heap[w.heap.size + 1 + 1 + 1]? = some d := heap_last (by simp)
theorem heap_2of4 (w : World) (a b c d : Obj) : ((((w.alloc a).alloc b).alloc c).alloc d).heap[w.heap.size + 1 + 1]? = some c := (Below.heap_alloc _ d _ (by simp)).trans (heap_new2 w a b c)
theorem heap_1of4 (w : World) (a b c d : Obj) : ((((w.alloc a).alloc b).alloc c).alloc d).heap[w.heap.size + 1]? = some b := (Below.heap_alloc _ d _ (by simp)).trans (heap_new1 w a b c)
theorem heap_0of4 (w : World) (a b c d : Obj) : ((((w.alloc a).alloc b).alloc c).alloc d).heap[w.heap.size]? = some a := (Below.heap_alloc _ d _ (by simp; omega)).trans (heap_new0 w a b c)
theorem below_new4 (w : World) (a b c d : Obj) : Below w.heap.size w ((((w.alloc a).alloc b).alloc c).alloc d) := (((Below.new w a).later (Below.new _ b)).later (Below.new _ c)).later (Below.new _ d)
theorem below_new3 (w : World) (a b c : Obj) : Below w.heap.size w (((w.alloc a).alloc b).alloc c) := ((Below.new w a).later (Below.new _ b)).later (Below.new _ c)
def nodeK : Kind NodeD := ⟨3, fun d v => [.string d.name, v, .string d.val], fun d => d.subs, fun _ _ => rfl, by decide⟩
theorem infoNodeD : (Tryz.prog.info? 83).map (fun i => (i.zero, i.size, i.bytes)) = some (some (.agg #[.string .empty, .slice none 0 0, .string .empty]), 3, 56) := by kernel_rfl
theorem OwnL.Nodes {w : World} {base t : Nat} {v : Value} {fs : List NodeD} {vs : List Value} (h : OwnL nodeK w base t v fs vs) : ∃ A cap, v = .slice A fs.length cap ∧ fs.length ≤ cap ∧ Nodes w w.heap.size A fs.length fs := by
  obtain ⟨A, cap, rfl, hc, _, hA⟩ := own_slice h.row
  refine ⟨A, cap, rfl, hc, rfl, fun hn => ?_⟩
  obtain ⟨g, rfl, hg, _⟩ := hA hn
  refine ⟨g, 0, rfl, hg, fun j hj => ?_⟩
  have h0 := h.cellAt rfl j 0 hj (by decide)
  have h1 := h.cellAt rfl j 1 hj (by decide)
  have h2 := h.cellAt rfl j 2 hj (by decide)
  obtain ⟨A1, cap1, e1, hc1, hs1⟩ := (h.subs j hj).strs
  refine ⟨_, _, _, by rw [Nat.zero_add]; exact h0, by rw [Nat.zero_add]; exact h1, by rw [Nat.zero_add]; exact h2, rfl, ⟨A1, _, cap1, e1, hs1, hc1⟩, rfl⟩

end Go.Proofs.YtfpcjhajjejpdaaGreatDoor
namespace Go.Proofs
open Go.Shelf
def Tryz.lays161_ren : Go.Shelf.Ren := ⟨fun | 161 => 205 | 231 => 232 | 227 => 233 | 233 => 234 | 235 => 235 | 228 => 254 | 197 => 248 | 151 => 255 | 260 => 275 | 152 => 281 | 137 => 294 | 119 => 295 | 224 => 273 | 225 => 272 | 217 => 271 | 266 => 287 | n => n, fun | 9 => 9 | 4 => 4 | 3 => 3 | 5 => 5 | 117 => 209 | 116 => 208 | 0 => 0 | 124 => 212 | 105 => 219 | 21 => 21 | 119 => 251 | 46 => 180 | 139 => 254 | 138 => 253 | n => n, fun | 3 => 1 | 4 => 2 | n => n⟩
theorem Tryz.lays161 : Go.Proofs.Lays.n161 Tryz.prog Tryz.lays161_ren := {
  mixed := by kernel_rfl
  f119 := Tryz.func295.trans (congrArg some (by kernel_rfl))
  f137 := Tryz.func294.trans (congrArg some (by kernel_rfl))
  f151 := Tryz.func255.trans (congrArg some (by kernel_rfl))
  f152 := Tryz.func281.trans (congrArg some (by kernel_rfl))
  f161 := Tryz.func205.trans (congrArg some (by kernel_rfl))
  f197 := Tryz.func248.trans (congrArg some (by kernel_rfl))
  f217 := Tryz.func271.trans (congrArg some (by kernel_rfl))
  f224 := Tryz.func273.trans (congrArg some (by kernel_rfl))
  f225 := Tryz.func272.trans (congrArg some (by kernel_rfl))
  f227 := Tryz.func233.trans (congrArg some (by kernel_rfl))
  f228 := Tryz.func254.trans (congrArg some (by kernel_rfl))
  f231 := Tryz.func232.trans (congrArg some (by kernel_rfl))
  f233 := Tryz.func234.trans (congrArg some (by kernel_rfl))
  f235 := Tryz.func235.trans (congrArg some (by kernel_rfl))
  f260 := Tryz.func275.trans (congrArg some (by kernel_rfl))
  f266 := Tryz.func287.trans (congrArg some (by kernel_rfl))
  t0 := Tryz.underlying0
  a0 := Tryz.isAgg0
  z0 := Tryz.sizeOf0
  v0 := Tryz.zeroValue0
  t3 := Tryz.underlying3
  a3 := Tryz.isAgg3
  z3 := Tryz.sizeOf3
  v3 := Tryz.zeroValue3
  t4 := Tryz.underlying4
  a4 := Tryz.isAgg4
  z4 := Tryz.sizeOf4
  v4 := Tryz.zeroValue4
  t5 := Tryz.underlying5
  a5 := Tryz.isAgg5
  z5 := Tryz.sizeOf5
  v5 := Tryz.zeroValue5
  t9 := Tryz.underlying9
  a9 := Tryz.isAgg9
  z9 := Tryz.sizeOf9
  v9 := Tryz.zeroValue9
  t21 := Tryz.underlying21
  a21 := Tryz.isAgg21
  z21 := Tryz.sizeOf21
  v21 := Tryz.zeroValue21
  t46 := Tryz.underlying180
  a46 := Tryz.isAgg180
  z46 := Tryz.sizeOf180
  v46 := Tryz.zeroValue180
  t105 := Tryz.underlying219
  a105 := Tryz.isAgg219
  z105 := Tryz.sizeOf219
  v105 := Tryz.zeroValue219
  t116 := Tryz.underlying208
  a116 := Tryz.isAgg208
  z116 := Tryz.sizeOf208
  t117 := Tryz.underlying209
  a117 := Tryz.isAgg209
  z117 := Tryz.sizeOf209
  v117 := Tryz.zeroValue209
  t119 := Tryz.underlying251
  a119 := Tryz.isAgg251
  z119 := Tryz.sizeOf251
  t124 := Tryz.underlying212
  a124 := Tryz.isAgg212
  z124 := Tryz.sizeOf212
  v124 := Tryz.zeroValue212
  t138 := Tryz.underlying253
  a138 := Tryz.isAgg253
  z138 := Tryz.sizeOf253
  v138 := Tryz.zeroValue253
  t139 := Tryz.underlying254
  a139 := Tryz.isAgg254
  z139 := Tryz.sizeOf254
  v139 := Tryz.zeroValue254
  g3 := by kernel_rfl
  g4 := by kernel_rfl }
open Go.RowKit in
def Tryz.lays162_ren : Go.Shelf.Ren := ⟨fun | 162 => 231 | 232 => 251 | 227 => 233 | 234 => 252 | 236 => 253 | 228 => 254 | 271 => 280 | 151 => 255 | 120 => 293 | 197 => 248 | 152 => 281 | 260 => 275 | 137 => 294 | 119 => 295 | 224 => 273 | 225 => 272 | 217 => 271 | 266 => 287 | n => n, fun | 9 => 9 | 4 => 4 | 3 => 3 | 5 => 5 | 117 => 209 | 116 => 208 | 0 => 0 | 124 => 212 | 21 => 21 | 105 => 219 | 46 => 180 | 119 => 251 | 139 => 254 | 138 => 253 | n => n, fun | 3 => 1 | 4 => 2 | n => n⟩
theorem Tryz.lays162 : Go.Proofs.Lays.n162 Tryz.prog Tryz.lays162_ren := {
  mixed := by kernel_rfl
  f119 := Tryz.func295.trans (congrArg some (by kernel_rfl))
  f120 := Tryz.func293.trans (congrArg some (by kernel_rfl))
  f137 := Tryz.func294.trans (congrArg some (by kernel_rfl))
  f151 := Tryz.func255.trans (congrArg some (by kernel_rfl))
  f152 := Tryz.func281.trans (congrArg some (by kernel_rfl))
  f162 := Tryz.func231.trans (congrArg some (by kernel_rfl))
  f197 := Tryz.func248.trans (congrArg some (by kernel_rfl))
  f217 := Tryz.func271.trans (congrArg some (by kernel_rfl))
  f224 := Tryz.func273.trans (congrArg some (by kernel_rfl))
  f225 := Tryz.func272.trans (congrArg some (by kernel_rfl))
  f227 := Tryz.func233.trans (congrArg some (by kernel_rfl))
  f228 := Tryz.func254.trans (congrArg some (by kernel_rfl))
  f232 := Tryz.func251.trans (congrArg some (by kernel_rfl))
  f234 := Tryz.func252.trans (congrArg some (by kernel_rfl))
  f236 := Tryz.func253.trans (congrArg some (by kernel_rfl))
  f260 := Tryz.func275.trans (congrArg some (by kernel_rfl))
  f266 := Tryz.func287.trans (congrArg some (by kernel_rfl))
  f271 := Tryz.func280.trans (congrArg some (by kernel_rfl))
  t0 := Tryz.underlying0
  a0 := Tryz.isAgg0
  z0 := Tryz.sizeOf0
  v0 := Tryz.zeroValue0
  t3 := Tryz.underlying3
  a3 := Tryz.isAgg3
  z3 := Tryz.sizeOf3
  v3 := Tryz.zeroValue3
  t4 := Tryz.underlying4
  a4 := Tryz.isAgg4
  z4 := Tryz.sizeOf4
  v4 := Tryz.zeroValue4
  t5 := Tryz.underlying5
  a5 := Tryz.isAgg5
  z5 := Tryz.sizeOf5
  v5 := Tryz.zeroValue5
  t9 := Tryz.underlying9
  a9 := Tryz.isAgg9
  z9 := Tryz.sizeOf9
  v9 := Tryz.zeroValue9
  t21 := Tryz.underlying21
  a21 := Tryz.isAgg21
  z21 := Tryz.sizeOf21
  v21 := Tryz.zeroValue21
  t46 := Tryz.underlying180
  a46 := Tryz.isAgg180
  z46 := Tryz.sizeOf180
  v46 := Tryz.zeroValue180
  t105 := Tryz.underlying219
  a105 := Tryz.isAgg219
  z105 := Tryz.sizeOf219
  v105 := Tryz.zeroValue219
  t116 := Tryz.underlying208
  a116 := Tryz.isAgg208
  z116 := Tryz.sizeOf208
  t117 := Tryz.underlying209
  a117 := Tryz.isAgg209
  z117 := Tryz.sizeOf209
  v117 := Tryz.zeroValue209
  t119 := Tryz.underlying251
  a119 := Tryz.isAgg251
  z119 := Tryz.sizeOf251
  t124 := Tryz.underlying212
  a124 := Tryz.isAgg212
  z124 := Tryz.sizeOf212
  v124 := Tryz.zeroValue212
  t138 := Tryz.underlying253
  a138 := Tryz.isAgg253
  z138 := Tryz.sizeOf253
  v138 := Tryz.zeroValue253
  t139 := Tryz.underlying254
  a139 := Tryz.isAgg254
  z139 := Tryz.sizeOf254
  v139 := Tryz.zeroValue254
  g3 := by kernel_rfl
  g4 := by kernel_rfl }
open Go.RowKit in
theorem Tryz.strings_TrimRight_one (s : ByteArray) (c : UInt8) (hc : c.toNat < 128) (w : World) (hs : s.size ≤ 9223372036854775807) :
    Calls Tryz.prog 231 #[.string s, .string ⟨#[c]⟩] w fun e w' => e = .returned (.string ⟨(Lib.trimRightB s.data.toList c).toArray⟩) ∧ w' = w := Any.strings_TrimRight_one Tryz.lays162 s c hc w hs
def Tryz.lays103_ren : Go.Shelf.Ren := ⟨fun | 103 => 208 | 210 => 238 | 206 => 256 | n => n, fun | 9 => 9 | 4 => 4 | 24 => 190 | 3 => 3 | n => n, fun | n => n⟩
theorem Tryz.lays103 : Go.Proofs.Lays.n103 Tryz.prog Tryz.lays103_ren := {
  mixed := by kernel_rfl
  f103 := Tryz.func208.trans (congrArg some (by kernel_rfl))
  f206 := Tryz.func256.trans (congrArg some (by kernel_rfl))
  f210 := Tryz.func238.trans (congrArg some (by kernel_rfl))
  t3 := Tryz.underlying3
  a3 := Tryz.isAgg3
  z3 := Tryz.sizeOf3
  v3 := Tryz.zeroValue3
  t4 := Tryz.underlying4
  a4 := Tryz.isAgg4
  z4 := Tryz.sizeOf4
  v4 := Tryz.zeroValue4
  t9 := Tryz.underlying9
  a9 := Tryz.isAgg9
  z9 := Tryz.sizeOf9
  v9 := Tryz.zeroValue9
  t24 := Tryz.underlying190
  a24 := Tryz.isAgg190
  z24 := Tryz.sizeOf190
  v24 := Tryz.zeroValue190 }
open Go.RowKit in
theorem Tryz.strings_CutPrefix (s p : ByteArray) (w : World) :
    Calls Tryz.prog 208 #[.string s, .string p] w fun e w' => e = .returned (.tuple #[.string ⟨(Lib.trimPrefix s.data.toList p.data.toList).toArray⟩, .bool (Lib.hasPrefix s.data.toList p.data.toList)]) ∧ w' = w := Any.strings_CutPrefix Tryz.lays103 s p w
def Tryz.laysM173_ren : Go.Shelf.Ren := ⟨fun | 173 => 230 | 246 => 250 | 283 => 276 | 284 => 277 | 285 => 278 | 286 => 279 | 129 => 267 | 317 => 289 | 318 => 290 | 319 => 291 | 320 => 292 | 337 => 297 | 338 => 298 | n => n, fun | 2 => 2 | 3 => 3 | 9 => 9 | 4 => 4 | 171 => 238 | 0 => 0 | 53 => 115 | 37 => 22 | 5 => 5 | 173 => 240 | 212 => 256 | 51 => 230 | 20 => 20 | 213 => 257 | 46 => 180 | 232 => 262 | 233 => 263 | n => n, fun | 17 => 3 | 18 => 4 | 19 => 5 | n => n⟩
theorem Tryz.laysM173 : Go.Proofs.LaysM.n173 Tryz.prog Tryz.laysM173_ren := {
  mixed := by kernel_rfl
  f129 := Tryz.func267.trans (congrArg some (by kernel_rfl))
  f173 := Tryz.func230.trans (congrArg some (by kernel_rfl))
  f246 := Tryz.func250.trans (congrArg some (by kernel_rfl))
  f283 := Tryz.func276.trans (congrArg some (by kernel_rfl))
  f284 := Tryz.func277.trans (congrArg some (by kernel_rfl))
  f285 := Tryz.func278.trans (congrArg some (by kernel_rfl))
  f286 := Tryz.func279.trans (congrArg some (by kernel_rfl))
  f317 := Tryz.func289.trans (congrArg some (by kernel_rfl))
  f318 := Tryz.func290.trans (congrArg some (by kernel_rfl))
  f319 := Tryz.func291.trans (congrArg some (by kernel_rfl))
  f320 := Tryz.func292.trans (congrArg some (by kernel_rfl))
  f337 := Tryz.func297.trans (congrArg some (by kernel_rfl))
  f338 := Tryz.func298.trans (congrArg some (by kernel_rfl))
  t0 := Tryz.underlying0
  a0 := Tryz.isAgg0
  z0 := Tryz.sizeOf0
  v0 := Tryz.zeroValue0
  t2 := Tryz.underlying2
  a2 := Tryz.isAgg2
  z2 := Tryz.sizeOf2
  v2 := Tryz.zeroValue2
  t3 := Tryz.underlying3
  a3 := Tryz.isAgg3
  z3 := Tryz.sizeOf3
  v3 := Tryz.zeroValue3
  t4 := Tryz.underlying4
  a4 := Tryz.isAgg4
  z4 := Tryz.sizeOf4
  v4 := Tryz.zeroValue4
  t5 := Tryz.underlying5
  a5 := Tryz.isAgg5
  z5 := Tryz.sizeOf5
  v5 := Tryz.zeroValue5
  t9 := Tryz.underlying9
  a9 := Tryz.isAgg9
  z9 := Tryz.sizeOf9
  v9 := Tryz.zeroValue9
  t20 := Tryz.underlying20
  a20 := Tryz.isAgg20
  z20 := Tryz.sizeOf20
  v20 := Tryz.zeroValue20
  t37 := Tryz.underlying22
  a37 := Tryz.isAgg22
  z37 := Tryz.sizeOf22
  v37 := Tryz.zeroValue22
  t46 := Tryz.underlying180
  a46 := Tryz.isAgg180
  z46 := Tryz.sizeOf180
  v46 := Tryz.zeroValue180
  t51 := Tryz.underlying230
  a51 := Tryz.isAgg230
  z51 := Tryz.sizeOf230
  v51 := Tryz.zeroValue230
  t53 := Tryz.underlying115
  a53 := Tryz.isAgg115
  z53 := Tryz.sizeOf115
  v53 := Tryz.zeroValue115
  t171 := Tryz.underlying238
  a171 := Tryz.isAgg238
  z171 := Tryz.sizeOf238
  v171 := Tryz.zeroValue238
  t173 := Tryz.underlying240
  a173 := Tryz.isAgg240
  z173 := Tryz.sizeOf240
  v173 := Tryz.zeroValue240
  t212 := Tryz.underlying256
  a212 := Tryz.isAgg256
  z212 := Tryz.sizeOf256
  v212 := Tryz.zeroValue256
  t213 := Tryz.underlying257
  a213 := Tryz.isAgg257
  z213 := Tryz.sizeOf257
  t232 := Tryz.underlying262
  a232 := Tryz.isAgg262
  z232 := Tryz.sizeOf262
  v232 := Tryz.zeroValue262
  t233 := Tryz.underlying263
  a233 := Tryz.isAgg263
  z233 := Tryz.sizeOf263
  v233 := Tryz.zeroValue263
  g17 := by kernel_rfl
  g18 := by kernel_rfl
  g19 := by kernel_rfl
  i0 := by kernel_rfl
  i2 := by kernel_rfl
  i3 := by kernel_rfl
  i4 := by kernel_rfl
  i5 := by kernel_rfl
  i9 := by kernel_rfl
  i20 := by kernel_rfl
  i37 := by kernel_rfl
  i46 := by kernel_rfl
  i51 := by kernel_rfl
  i53 := by kernel_rfl
  i171 := by kernel_rfl
  i173 := by kernel_rfl
  i212 := by kernel_rfl
  i232 := by kernel_rfl
  i233 := by kernel_rfl
  m17 := by kernel_rfl
  m18 := by kernel_rfl
  m19 := by kernel_rfl }
open Go.RowKit Go.Sort Go.Lib in
theorem Tryz.strconv_FormatInt_10 (n : Int) (h0 : -9223372036854775808 ≤ n) (h1 : n ≤ 9223372036854775807) (w : World) (htab : Lib.TabIs Tryz.prog w "internal/strconv.uint64pow10" .u64 Lib.pow10Tab) :
    Calls Tryz.prog 230 #[.int .i64 n, .int .i64 10] w fun e w' => e = .returned (.string ⟨(Lib.itoa n).toArray⟩) ∧ ∃ k os, w' = grow (w.drewN k) os := Any.strconv_FormatInt_10 Tryz.laysM173 n h0 h1 w htab
def Tryz.lays138_ren : Go.Shelf.Ren := ⟨fun | 138 => 206 | 195 => 236 | 218 => 237 | 143 => 226 | 219 => 247 | 217 => 271 | 225 => 272 | 224 => 273 | 267 => 274 | 266 => 287 | 314 => 288 | n => n, fun | 9 => 9 | 3 => 3 | 4 => 4 | 5 => 5 | 0 => 0 | 46 => 180 | 146 => 249 | 51 => 230 | n => n, fun | 1 => 0 | n => n⟩
theorem Tryz.lays138 : Go.Proofs.Lays.n138 Tryz.prog Tryz.lays138_ren := {
  mixed := by kernel_rfl
  f138 := Tryz.func206.trans (congrArg some (by kernel_rfl))
  f143 := Tryz.func226.trans (congrArg some (by kernel_rfl))
  f195 := Tryz.func236.trans (congrArg some (by kernel_rfl))
  f217 := Tryz.func271.trans (congrArg some (by kernel_rfl))
  f218 := Tryz.func237.trans (congrArg some (by kernel_rfl))
  f219 := Tryz.func247.trans (congrArg some (by kernel_rfl))
  f224 := Tryz.func273.trans (congrArg some (by kernel_rfl))
  f225 := Tryz.func272.trans (congrArg some (by kernel_rfl))
  f266 := Tryz.func287.trans (congrArg some (by kernel_rfl))
  f267 := Tryz.func274.trans (congrArg some (by kernel_rfl))
  f314 := Tryz.func288.trans (congrArg some (by kernel_rfl))
  t0 := Tryz.underlying0
  a0 := Tryz.isAgg0
  z0 := Tryz.sizeOf0
  v0 := Tryz.zeroValue0
  t3 := Tryz.underlying3
  a3 := Tryz.isAgg3
  z3 := Tryz.sizeOf3
  v3 := Tryz.zeroValue3
  t4 := Tryz.underlying4
  a4 := Tryz.isAgg4
  z4 := Tryz.sizeOf4
  v4 := Tryz.zeroValue4
  t5 := Tryz.underlying5
  a5 := Tryz.isAgg5
  z5 := Tryz.sizeOf5
  v5 := Tryz.zeroValue5
  t9 := Tryz.underlying9
  a9 := Tryz.isAgg9
  z9 := Tryz.sizeOf9
  v9 := Tryz.zeroValue9
  t46 := Tryz.underlying180
  a46 := Tryz.isAgg180
  z46 := Tryz.sizeOf180
  v46 := Tryz.zeroValue180
  t51 := Tryz.underlying230
  a51 := Tryz.isAgg230
  z51 := Tryz.sizeOf230
  v51 := Tryz.zeroValue230
  t146 := Tryz.underlying249
  a146 := Tryz.isAgg249
  z146 := Tryz.sizeOf249
  v146 := Tryz.zeroValue249
  g1 := by kernel_rfl }
open Go.RowKit Go.Lib in
theorem Tryz.strings_Count_one (s : ByteArray) (c : UInt8) (w : World) :
    Calls Tryz.prog 206 #[.string s, .string ⟨#[c]⟩] w fun e w' => e = .returned (.int .i64 (Lib.countByte s.data.toList c)) ∧ w' = w := Any.strings_Count_one Tryz.lays138 s c w
open Go.RowKit in
theorem Tryz.strings_TrimLeft_set (s cutset : ByteArray) (w : World) (hcs : cutset.size < 4294967281) (hascii : ∀ (j : Nat) b, cutset.data.toList[j]? = some b → b.toNat < 128) :
    Calls Tryz.prog 205 #[.string s, .string cutset] w fun e w' => e = .returned (.string ⟨(Lib.trimLeftS s.data.toList cutset.data.toList).toArray⟩) ∧ Below w.heap.size w w' :=
  Any.strings_TrimLeft_laid Tryz.lays161 (by kernel_rfl) s cutset w hcs hascii
end Go.Proofs
