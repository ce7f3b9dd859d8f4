/-
  Rows of the program: what rowOk computes: just what the reference's l29Row does. Contracts of the library at this program: laid by the kit in plain declarations; only what the proofs use is kept. Rows of the program: strings.Split at the mark, what packed and unpacked make.
-/
import Derived.Test.YtfpcjhajjejpdaaGreatDoorZ21
import Derived.Test.YtfpcjhajjejpdaaGreatDoorZ15
import Derived.Test.YtfpcjhajjejpdaaGreatDoorProg
import Derived.Test.YtfpcjhajjejpdaaGreatDoorZ01
import Derived.Ground.GgwProg
import Derived.Ground.Names2Prog
import Derived.Ground.SlgnProg
import Derived.Shelf.GgClosure.StringsIndexFunc
import Derived.Shelf.GgClosure.StringsIndexFuncTop
import Derived.Shelf.LaysM
import Derived.Shelf.Slices.Cells
import Derived.Shelf.Slices.Clone
import Derived.Shelf.Slices.CompactS
import Derived.Shelf.Slices.Empties2
import Derived.Shelf.Slices.Equal
import Derived.Shelf.Slices.In.SortNone
import Derived.Shelf.Slices.Turned
import Derived.Shelf.SlicesE.Clone
import Derived.Shelf.SlicesG.SearchI
import Derived.Shelf.Small.Bits
import Derived.Shelf.Small.Strs
import Derived.Shelf.Small.Utf8
import Derived.Shelf.Small.Wraps
import Derived.Shelf.Sort.Plain
import Derived.Shelf.Strconv.Itoa0
import Derived.Shelf.Strconv.Itoa1
import Derived.Shelf.Strconv.Itoa2
import Derived.Shelf.Strconv.Itoa3
import Derived.Shelf.Strconv.Itoa4
import Derived.Shelf.Strings.AsciiSet
import Derived.Shelf.Strings.Builder1
import Derived.Shelf.Strings.Builder2
import Derived.Shelf.Strings.Count
import Derived.Shelf.Strings.Explode
import Derived.Shelf.Strings.FuncGrows
import Derived.Shelf.Strings.OnBuilder
import Derived.Shelf.Strings.Prefix
import Derived.Shelf.Strings.Replace
import Derived.Shelf.Strings.RuneCount
import Derived.Shelf.Strings.Runes
import Derived.Shelf.Strings.Search1
import Derived.Shelf.Strings.Search2
import Derived.Shelf.Strings.Search3
import Derived.Shelf.Strings.Shaped
import Derived.Shelf.Strings.Split
import Derived.Shelf.Strings.SplitShaped
import Derived.Shelf.Strings.Trim
import Derived.Shelf.Unicode.Decode
import Derived.Shelf.Unicode.DecodeAny
import Derived.Shelf.Unicode.DecodeLast
import Derived.Shelf.Unicode.DecodeSlow
import Derived.Shelf.Utf8.RuneCount
import Derived.Lib.IndexBytes
namespace Go.Proofs.YtfpcjhajjejpdaaGreatDoor
open Go.RowKit

theorem cellB_any (l : List ByteArray) : (l.any fun s => !cellB s) = !(l.all cellB) := by
  induction l with
  | nil => rfl
  | cons a r ih => simp only [List.any_cons, List.all_cons, Bool.not_and, ih]
set_option maxHeartbeats 1000000 in
theorem rowOk1_any (s : ByteArray) (w : World) (hs : s.size ≤ 1048576) :
    Calls Tryz.prog 189 #[.string s] w fun e w' => e = .returned (.bool (!cellB s)) ∧ Below w.heap.size w w' := by
  have HK := Lib.hid (cellOk_any s w hs)
  generalize cellB s = y at *
  go_enter Tryz.func189, Tryz.ntmps189
  go_wp2_with fail
  refine HK.out.mono ?_
  rintro e w1 ⟨rfl, hb1⟩
  have HB := Lib.hid hb1
  clear hb1
  go_wp2_with fail
  go_ret
  exact ⟨rfl, HB.out⟩
set_option maxRecDepth 100000 in
set_option maxHeartbeats 2000000 in
theorem rowOk_any (b0 b1 b2 b3 r0 : Value) (b : TableD) (d : List ByteArray) (w : World) (hb : TableR w w.heap.size b0 b1 b2 b3 b) (h : RowR w w.heap.size r0 d) (hs : smallR d) (hpos : 0 < b.cols.length) :
    Calls Tryz.prog 142 #[.agg #[b0, b1, b2, b3], .agg #[r0]] w fun e w' => e = .returned (.bool (rowB b.cols d)) ∧ Below w.heap.size w w' := by
  obtain ⟨rfl, rfl, ⟨A2, n2, p2, rfl, s2, k2⟩, ⟨A3, n3, p3, rfl, s3, k3⟩⟩ := hb
  obtain ⟨A, n, cap, rfl, hS, hcap⟩ := h
  have HR : Hid (rowB b.cols d = (decide (n = n2) && (decide (d.getD 0 ByteArray.empty ≠ ⟨#[]⟩) && d.all cellB))) := by unfold Hid rowB; rw [hS.1, s2.1]
  rw [s2.1] at hpos
  have hn : n ≤ 1048576 := by rw [← hS.1]; exact hs.1
  have HSS := Lib.hid hS
  have HKf := Lib.hid (fun W (hW : Below w.heap.size w W) => ContainsFuncS_any 189 #[] (fun s => !cellB s) A n cap d W (hS.later hW) hn (enters_of Tryz.func189 (by kernel_rfl) rfl) (fun s hss W' _ => rowOk1_any s W' (hs.2 s hss)))
  rw [cellB_any] at HKf
  have HB0 := Lib.hid ((Below.new w (.cells #[.string b.name, .string b.glob, .slice A2 n2 p2, .slice A3 n3 p3] 29)).later (Below.new _ (.cells #[.slice A n cap] 40)))
  clear s2 s3 hS hs
  generalize rowB b.cols d = R at *
  generalize b.name = nm at *
  generalize b.glob = gl at *
  generalize d.all cellB = y at *
  go_enter Tryz.func142, Tryz.ntmps142
  by_cases hlen : n = n2
  case neg =>
    have HE : Hid (R = false) := by unfold Hid; rw [HR.out, decide_eq_false hlen]; rfl
    have hb3 : ((n : Int) == (n2 : Int)) = false := by rw [beq_eq_false_iff_ne]; omega
    have hb4 : (n == n2) = false := by rw [beq_eq_false_iff_ne]; omega
    have hb5 : ((n : Int) != (n2 : Int)) = true := by rw [bne, hb3]; rfl
    clear hlen HR
    go_wp2_with fail
    go_ret
    exact ⟨ret_bool HE.out.symm, HB0.out⟩
  subst hlen
  obtain ⟨bk, o, rfl, hbk, hcell⟩ := (HSS.out.later HB0.out).2 hpos
  have hck := hcell 0 hpos
  rw [Nat.add_zero] at hck
  clear hcell
  have hn0 : (0 : Int) < (n : Int) := by omega
  generalize hd0 : d.getD 0 ByteArray.empty = s0 at *
  by_cases h0 : s0 = ⟨#[]⟩
  · have HE : Hid (R = false) := by unfold Hid; rw [HR.out, decide_eq_false (show ¬ (s0 ≠ ⟨#[]⟩) from fun hh => hh h0)]; simp
    subst h0
    clear HR
    go_wp2_with fail
    go_ret
    exact ⟨ret_bool HE.out.symm, HB0.out⟩
  have HE : Hid (R = y) := by unfold Hid; rw [HR.out, decide_eq_true h0]; simp
  have hbe := str_beq h0
  have hbe3 := ne_empty h0
  clear h0 HR hd0
  go_wp2_with fail
  refine (HKf.out _ HB0.out).mono ?_
  rintro e w1 ⟨rfl, hb1⟩
  have HB1 := Lib.hid (HB0.out.later hb1)
  clear hb1
  cases y
  all_goals
    go_wp2_with fail
    go_ret
    exact ⟨ret_bool HE.out.symm, HB1.out⟩
end Go.Proofs.YtfpcjhajjejpdaaGreatDoor
namespace Go.Proofs
open Go.Shelf
def Tryz.lays156_ren : Go.Shelf.Ren := ⟨fun | 156 => 191 | 165 => 220 | 166 => 221 | 169 => 194 | 240 => 244 | 241 => 245 | 276 => 269 | 277 => 270 | n => n, fun | 31 => 27 | 9 => 9 | 3 => 3 | 4 => 4 | 0 => 0 | 20 => 20 | 72 => 177 | 76 => 199 | 70 => 175 | 37 => 22 | 75 => 198 | 127 => 203 | 164 => 233 | 5 => 5 | 80 => 179 | n => n, fun | n => n⟩
theorem Tryz.lays156 : Go.Proofs.Lays.n156 Tryz.prog Tryz.lays156_ren := {
  mixed := by kernel_rfl
  f156 := Tryz.func191.trans (congrArg some (by kernel_rfl))
  f165 := Tryz.func220.trans (congrArg some (by kernel_rfl))
  f166 := Tryz.func221.trans (congrArg some (by kernel_rfl))
  f169 := Tryz.func194.trans (congrArg some (by kernel_rfl))
  f240 := Tryz.func244.trans (congrArg some (by kernel_rfl))
  f241 := Tryz.func245.trans (congrArg some (by kernel_rfl))
  f276 := Tryz.func269.trans (congrArg some (by kernel_rfl))
  f277 := Tryz.func270.trans (congrArg some (by kernel_rfl))
  t0 := Tryz.underlying0
  a0 := Tryz.isAgg0
  z0 := Tryz.sizeOf0
  v0 := Tryz.zeroValue0
  t3 := Tryz.underlying3
  a3 := Tryz.isAgg3
  z3 := Tryz.sizeOf3
  v3 := Tryz.zeroValue3
  t4 := Tryz.underlying4
  a4 := Tryz.isAgg4
  z4 := Tryz.sizeOf4
  v4 := Tryz.zeroValue4
  t9 := Tryz.underlying9
  a9 := Tryz.isAgg9
  z9 := Tryz.sizeOf9
  v9 := Tryz.zeroValue9
  t20 := Tryz.underlying20
  a20 := Tryz.isAgg20
  z20 := Tryz.sizeOf20
  v20 := Tryz.zeroValue20
  t31 := Tryz.underlying27
  a31 := Tryz.isAgg27
  z31 := Tryz.sizeOf27
  v31 := Tryz.zeroValue27
  t37 := Tryz.underlying22
  a37 := Tryz.isAgg22
  z37 := Tryz.sizeOf22
  v37 := Tryz.zeroValue22
  t70 := Tryz.underlying175
  a70 := Tryz.isAgg175
  z70 := Tryz.sizeOf175
  v70 := Tryz.zeroValue175
  t72 := Tryz.underlying177
  a72 := Tryz.isAgg177
  z72 := Tryz.sizeOf177
  v72 := Tryz.zeroValue177
  t75 := Tryz.underlying198
  a75 := Tryz.isAgg198
  z75 := Tryz.sizeOf198
  v75 := Tryz.zeroValue198
  t76 := Tryz.underlying199
  a76 := Tryz.isAgg199
  z76 := Tryz.sizeOf199
  v76 := Tryz.zeroValue199
  t127 := Tryz.underlying203
  a127 := Tryz.isAgg203
  z127 := Tryz.sizeOf203
  v127 := Tryz.zeroValue203
  t164 := Tryz.underlying233
  a164 := Tryz.isAgg233
  z164 := Tryz.sizeOf233
  v164 := Tryz.zeroValue233 }
theorem Tryz.Builder_Extra_156 : Builder.Extra Tryz.prog Tryz.lays156_ren := {
  sizeBuilder := by kernel_rfl
  liesBuilder := by kernel_rfl
  t5 := Tryz.underlying5
  a5 := Tryz.isAgg5
  z5 := Tryz.sizeOf5
  v5 := Tryz.zeroValue5
  infoByte := by kernel_rfl
  cellsByte := by kernel_rfl
  sizeByte := by kernel_rfl
  neB5 := by decide }
open Go.RowKit in
theorem Tryz.strings_Join_none (a : Option Addr) (c : Nat) (sep : ByteArray) (w : World) :
    Calls Tryz.prog 191 #[.slice a 0 c, .string sep] w fun e w' => e = .returned (.string ⟨#[]⟩) ∧ w' = w := Any.strings_Join_none Tryz.lays156 Tryz.Builder_Extra_156 a c sep w
open Go.RowKit in
theorem Tryz.strings_Join (bk o c : Nat) (xs : List ByteArray) (sep : ByteArray) (w : World) (hcells : ∀ (j : Nat) x, xs[j]? = some x → w.cell? ⟨bk, o + j, none⟩ = some (.string x)) (hbk : bk < w.heap.size) (hN : xs.length ≤ 140737488355328) (hcap : xs.length ≤ c) (hlen : (Lib.join (xs.map (·.data.toList)) sep.data.toList).length ≤ 140737488355328) :
    Calls Tryz.prog 191 #[.slice (some ⟨bk, o, none⟩) xs.length c, .string sep] w fun e w' => e = .returned (.string ⟨(Lib.join (xs.map (·.data.toList)) sep.data.toList).toArray⟩) ∧ Below w.heap.size w w' := Any.strings_Join Tryz.lays156 Tryz.Builder_Extra_156 bk o c xs sep w hcells hbk hN hcap hlen
def Tryz.lays143_ren : Go.Shelf.Ren := ⟨fun | 143 => 226 | 219 => 247 | 217 => 271 | 225 => 272 | 224 => 273 | 267 => 274 | 266 => 287 | 314 => 288 | n => n, fun | 9 => 9 | 3 => 3 | 4 => 4 | 5 => 5 | 46 => 180 | 146 => 249 | 51 => 230 | n => n, fun | 1 => 0 | n => n⟩
theorem Tryz.lays143 : Go.Proofs.Lays.n143 Tryz.prog Tryz.lays143_ren := {
  mixed := by kernel_rfl
  f143 := Tryz.func226.trans (congrArg some (by kernel_rfl))
  f217 := Tryz.func271.trans (congrArg some (by kernel_rfl))
  f219 := Tryz.func247.trans (congrArg some (by kernel_rfl))
  f224 := Tryz.func273.trans (congrArg some (by kernel_rfl))
  f225 := Tryz.func272.trans (congrArg some (by kernel_rfl))
  f266 := Tryz.func287.trans (congrArg some (by kernel_rfl))
  f267 := Tryz.func274.trans (congrArg some (by kernel_rfl))
  f314 := Tryz.func288.trans (congrArg some (by kernel_rfl))
  t3 := Tryz.underlying3
  a3 := Tryz.isAgg3
  z3 := Tryz.sizeOf3
  v3 := Tryz.zeroValue3
  t4 := Tryz.underlying4
  a4 := Tryz.isAgg4
  z4 := Tryz.sizeOf4
  v4 := Tryz.zeroValue4
  t5 := Tryz.underlying5
  a5 := Tryz.isAgg5
  z5 := Tryz.sizeOf5
  v5 := Tryz.zeroValue5
  t9 := Tryz.underlying9
  a9 := Tryz.isAgg9
  z9 := Tryz.sizeOf9
  v9 := Tryz.zeroValue9
  t46 := Tryz.underlying180
  a46 := Tryz.isAgg180
  z46 := Tryz.sizeOf180
  v46 := Tryz.zeroValue180
  t51 := Tryz.underlying230
  a51 := Tryz.isAgg230
  z51 := Tryz.sizeOf230
  v51 := Tryz.zeroValue230
  t146 := Tryz.underlying249
  a146 := Tryz.isAgg249
  z146 := Tryz.sizeOf249
  v146 := Tryz.zeroValue249
  g1 := by kernel_rfl }
open Go.RowKit Go.Lib in
theorem Tryz.strings_Index_one (s : ByteArray) (c : UInt8) (w : World) :
    Calls Tryz.prog 226 #[.string s, .string ⟨#[c]⟩] w fun e w' => e = .returned (.int .i64 (Lib.indexByte s.data.toList c)) ∧ w' = w := Any.strings_Index_one Tryz.lays143 s c w
def Tryz.lays221_ren : Go.Shelf.Ren := ⟨fun | 221 => 200 | 268 => 227 | 138 => 206 | 143 => 226 | 195 => 236 | 197 => 248 | 218 => 237 | 219 => 247 | 260 => 275 | 217 => 271 | 225 => 272 | 224 => 273 | 267 => 274 | 266 => 287 | 314 => 288 | n => n, fun | 9 => 9 | 3 => 3 | 31 => 27 | 4 => 4 | 0 => 0 | 105 => 219 | 21 => 21 | 5 => 5 | 46 => 180 | 119 => 251 | 139 => 254 | 138 => 253 | 146 => 249 | 51 => 230 | n => n, fun | 1 => 0 | 3 => 1 | 4 => 2 | n => n⟩
theorem Tryz.lays221 : Go.Proofs.Lays.n221 Tryz.prog Tryz.lays221_ren := {
  mixed := by kernel_rfl
  f138 := Tryz.func206.trans (congrArg some (by kernel_rfl))
  f143 := Tryz.func226.trans (congrArg some (by kernel_rfl))
  f195 := Tryz.func236.trans (congrArg some (by kernel_rfl))
  f197 := Tryz.func248.trans (congrArg some (by kernel_rfl))
  f217 := Tryz.func271.trans (congrArg some (by kernel_rfl))
  f218 := Tryz.func237.trans (congrArg some (by kernel_rfl))
  f219 := Tryz.func247.trans (congrArg some (by kernel_rfl))
  f221 := Tryz.func200.trans (congrArg some (by kernel_rfl))
  f224 := Tryz.func273.trans (congrArg some (by kernel_rfl))
  f225 := Tryz.func272.trans (congrArg some (by kernel_rfl))
  f260 := Tryz.func275.trans (congrArg some (by kernel_rfl))
  f266 := Tryz.func287.trans (congrArg some (by kernel_rfl))
  f267 := Tryz.func274.trans (congrArg some (by kernel_rfl))
  f268 := Tryz.func227.trans (congrArg some (by kernel_rfl))
  f314 := Tryz.func288.trans (congrArg some (by kernel_rfl))
  t0 := Tryz.underlying0
  a0 := Tryz.isAgg0
  z0 := Tryz.sizeOf0
  v0 := Tryz.zeroValue0
  t3 := Tryz.underlying3
  a3 := Tryz.isAgg3
  z3 := Tryz.sizeOf3
  v3 := Tryz.zeroValue3
  t4 := Tryz.underlying4
  a4 := Tryz.isAgg4
  z4 := Tryz.sizeOf4
  v4 := Tryz.zeroValue4
  t5 := Tryz.underlying5
  a5 := Tryz.isAgg5
  z5 := Tryz.sizeOf5
  v5 := Tryz.zeroValue5
  t9 := Tryz.underlying9
  a9 := Tryz.isAgg9
  z9 := Tryz.sizeOf9
  v9 := Tryz.zeroValue9
  t21 := Tryz.underlying21
  a21 := Tryz.isAgg21
  z21 := Tryz.sizeOf21
  v21 := Tryz.zeroValue21
  t31 := Tryz.underlying27
  a31 := Tryz.isAgg27
  z31 := Tryz.sizeOf27
  v31 := Tryz.zeroValue27
  t46 := Tryz.underlying180
  a46 := Tryz.isAgg180
  z46 := Tryz.sizeOf180
  v46 := Tryz.zeroValue180
  t51 := Tryz.underlying230
  a51 := Tryz.isAgg230
  z51 := Tryz.sizeOf230
  v51 := Tryz.zeroValue230
  t105 := Tryz.underlying219
  a105 := Tryz.isAgg219
  z105 := Tryz.sizeOf219
  v105 := Tryz.zeroValue219
  t119 := Tryz.underlying251
  a119 := Tryz.isAgg251
  z119 := Tryz.sizeOf251
  t138 := Tryz.underlying253
  a138 := Tryz.isAgg253
  z138 := Tryz.sizeOf253
  v138 := Tryz.zeroValue253
  t139 := Tryz.underlying254
  a139 := Tryz.isAgg254
  z139 := Tryz.sizeOf254
  v139 := Tryz.zeroValue254
  t146 := Tryz.underlying249
  a146 := Tryz.isAgg249
  z146 := Tryz.sizeOf249
  v146 := Tryz.zeroValue249
  g1 := by kernel_rfl
  g3 := by kernel_rfl
  g4 := by kernel_rfl }
end Go.Proofs
namespace Go.Proofs.YtfpcjhajjejpdaaGreatDoor
open Go.RowKit

set_option maxHeartbeats 1000000 in
theorem Split_any (s : ByteArray) (w : World) (hs : s.size ≤ 1048576) :
    Calls Tryz.prog 164 #[.string s, .string ⟨#[94]⟩] w fun e w' => ∃ v, e = .returned v ∧ Own.SubO w' w.heap.size v (cutS 94 s) ∧ Below w.heap.size w w' := by
  have hle := Lib.countB_le ⟨#[94]⟩ (by decide) s.size s (Nat.le_refl _)
  have hlen := Lib.splitB_all ⟨#[94]⟩ (by decide) 0 _ s rfl
  have c := Any.strings_genSplit_core Tryz.lays221 (by kernel_rfl) s ⟨#[94]⟩ 0 (-1) (Lib.countB s ⟨#[94]⟩ + 1) w (by omega) (by decide) (Nat.zero_le _)
    (fun x c hx => (Tryz.strings_Index_one x 94 _).mono fun e w' ⟨he, hw⟩ => ⟨by rw [he]; show _ = Ending.returned (Value.int .i64 (Lib.index x.data.toList [94])); rw [Lib.index_one], hw⟩)
    ((Tryz.strings_Count_one s 94 w).mono fun e w' ⟨he, hw⟩ => ⟨by rw [he]; show _ = Ending.returned (Value.int .i64 ((Lib.count s.data.toList [94] : Nat) : Int)); rw [Lib.count_one]; rfl, hw⟩)
    (by decide) (by decide) (by rw [if_pos (by decide)]; omega)
  rw [Nat.add_sub_cancel, hlen] at c
  have e2 : Lib.cellsOf (Lib.splitB ⟨#[94]⟩ 0 (Lib.countB s ⟨#[94]⟩) s) (Lib.countB s ⟨#[94]⟩ + 1) = ((Lib.splitB ⟨#[94]⟩ 0 (Lib.countB s ⟨#[94]⟩) s).map Value.string).toArray := by rw [← hlen]; exact Lib.cellsOf_full _
  rw [e2, split_cutS] at c
  rw [split_cutS] at hlen
  have HN : Hid (Lib.countB s ⟨#[94]⟩ + 1 = (cutS 94 s).length) := hlen.symm
  rw [HN.out] at c
  have hml : (cutS 94 s).length ≤ s.size + 1 := by rw [hlen]; omega
  have HC := Lib.hid c
  clear c e2 hlen hle
  generalize cutS 94 s = ss at *
  go_enter Tryz.func164, Tryz.ntmps164
  go_wp2_with fail
  refine HC.out.mono ?_
  rintro e w1 ⟨rfl, rfl⟩
  go_wp2_with fail
  go_ret
  exact ⟨_, rfl, Own.sub_of_blk (ss := ss) (heap_last rfl) (Nat.le_refl _) (by unfold maxLen; omega), Below.new _ _⟩

/-- The text of a row's cells behind the first. -/
def packB (row : List ByteArray) : ByteArray := ⟨(Lib.join ((row.drop 1).map (·.data.toList)) [94]).toArray⟩
theorem join_le (c : UInt8) (m : Nat) : ∀ (l : List (List UInt8)), (∀ x ∈ l, x.length ≤ m) → (Lib.join l [c]).length ≤ l.length * (m + 1)
  | [], _ => by simp [Lib.join, List.intercalate]
  | [x], h => by
    have := h x (by simp)
    rw [join_oneL]
    simp; omega
  | x :: y :: r, h => by
    have ih := join_le c m (y :: r) (fun z hz => h z (List.mem_cons_of_mem _ hz))
    have := h x (by simp)
    rw [join_cons2]
    simp only [List.length_append, List.length_cons, List.length_nil] at ih ⊢
    rw [Nat.add_mul (r.length + 1)]
    omega
theorem pack_le (row : List ByteArray) (h : ∀ s ∈ row, s.size ≤ 1048576) (hl : row.length ≤ 1048576) : (Lib.join ((row.drop 1).map (·.data.toList)) [94]).length ≤ 140737488355328 := by
  have h1 := join_le 94 1048576 ((row.drop 1).map (·.data.toList)) (fun x hx => by
    obtain ⟨s, hs, rfl⟩ := List.mem_map.1 hx
    have := h s (List.mem_of_mem_drop hs)
    rw [Lib.size_eq] at this
    exact this)
  have h2 : ((row.drop 1).map (·.data.toList)).length ≤ 1048576 := by rw [List.length_map, List.length_drop]; omega
  have h3 := Nat.mul_le_mul_right 1048577 h2
  omega
set_option maxHeartbeats 1000000 in
theorem packed_any (r0 : Value) (row : List ByteArray) (w : World) (hr : RowR w w.heap.size r0 row) (hs : smallR row) (hpos : 0 < row.length) :
    Calls Tryz.prog 143 #[.agg #[r0]] w fun e w' => e = .returned (.string (packB row)) ∧ Below w.heap.size w w' := by
  have HL := Lib.hid (pack_le row hs.2 hs.1)
  obtain ⟨R0, rn, rc, rfl, hS, hrc⟩ := hr
  have hln := hS.1
  have hn : rn ≤ 1048576 := by rw [← hln]; exact hs.1
  obtain ⟨rb, ro, rfl, hrb, hcell⟩ := hS.2 (by omega)
  have HP : Hid (packB row = ⟨(Lib.join ((row.drop 1).map (·.data.toList)) [94]).toArray⟩) := rfl
  have HB0 := Lib.hid (Below.new w (.cells #[.slice (some ⟨rb, ro, none⟩) rn rc] 40))
  have HE0 : Hid (rn = 1 → packB row = ⟨#[]⟩) := fun h => by
    unfold packB
    rw [List.drop_of_length_le (by omega)]
    rfl
  have HK : Hid (∀ W, Below w.heap.size w W → Calls Tryz.prog 191 #[.slice (some ⟨rb, ro + 1, none⟩) (rn - 1) (rc - 1), .string ⟨#[94]⟩] W fun e w' => e = .returned (.string (packB row)) ∧ Below W.heap.size W w') := fun W hW => by
    have h := Tryz.strings_Join rb (ro + 1) (rc - 1) (row.drop 1) ⟨#[94]⟩ W (fun j x hx => by
      rw [List.getElem?_drop] at hx
      have hj : 1 + j < row.length := by
        rcases Nat.lt_or_ge (1 + j) row.length with h | h
        · exact h
        · rw [List.getElem?_eq_none h] at hx; cases hx
      have h1 := (hW.cell (p := ⟨rb, ro + (1 + j), none⟩) hrb).trans (hcell (1 + j) (by omega))
      rw [List.getD_eq_getElem?_getD, hx] at h1
      rw [Nat.add_assoc]
      exact h1) (Nat.lt_of_lt_of_le hrb hW.size) (by rw [List.length_drop]; omega) (by rw [List.length_drop]; omega) HL.out
    rw [List.length_drop, hln] at h
    exact h
  have hrn : (1 : Int) ≤ (rn : Int) := by omega
  clear hS hcell hs
  generalize packB row = R at *
  go_enter Tryz.func143, Tryz.ntmps143
  by_cases hc1 : rc = 1
  · obtain rfl : rn = 1 := by omega
    subst hc1
    have HE := Lib.hid (HE0.out rfl)
    have HJ := Lib.hid (fun W => Tryz.strings_Join_none (some ⟨rb, ro, none⟩) 0 ⟨#[94]⟩ W)
    go_wp2_with fail
    refine (HJ.out _).mono ?_
    rintro e w1 ⟨rfl, rfl⟩
    go_wp2_with fail
    go_ret
    exact ⟨by rw [HE.out]; rfl, HB0.out⟩
  · go_wp2_with fail
    refine (HK.out _ HB0.out).mono ?_
    rintro e w1 ⟨rfl, hb1⟩
    have HB1 := Lib.hid (HB0.out.later hb1)
    clear hb1
    go_wp2_with fail
    go_ret
    exact ⟨rfl, HB1.out⟩
end Go.Proofs.YtfpcjhajjejpdaaGreatDoor
