import Derived.Test.YtlicffeicmoifaaGreatDoorProg
import Derived.BigQuiet
import Derived.Deep.QuietTactic
import Derived.Lib.Hide
import Derived.Lib.Strings
import Derived.WalkKit
import Derived.WalkLawsBesides
import Derived.WalkSpells
import Derived.Deep.RegionHeld3
import Derived.Lib.SliceRun
import Derived.Maps.AppendAt
set_option linter.unusedSimpArgs false
namespace Go.Proofs.YtlicffeicmoifaaGreatDoor
open Go.RowKit
def Strs (w : World) (B : Nat) (A : Option Addr) (n : Nat) (ss : List ByteArray) : Prop :=
 ss.length = n ∧ (0 < n → ∃ b o, A = some ⟨b, o, none⟩ ∧ b < B ∧ ∀ j, j < n → w.cell? ⟨b, o + j, none⟩ = some (.string (ss.getD j ByteArray.empty)))
section
variable {w w' : World} {B B' n : Nat} {A : Option Addr} {ss : List ByteArray}
theorem Strs.keep (h : Strs w B A n ss) (hk : ∀ p : Addr, p.block < B → w'.cell? p = w.cell? p) : Strs w' B A n ss :=
 ⟨h.1, fun hn => by
   obtain ⟨b, o, e, hb, hc⟩ := h.2 hn
   exact ⟨b, o, e, hb, fun j hj => (hk _ hb).trans (hc j hj)⟩⟩
theorem Strs.more (h : Strs w B A n ss) (hB : B ≤ B') : Strs w B' A n ss :=
 ⟨h.1, fun hn => by
   obtain ⟨b, o, e, hb, hc⟩ := h.2 hn
   exact ⟨b, o, e, by omega, hc⟩⟩
theorem Strs.below (h : Strs w B A n ss) (hb : Below B w w') : Strs w' B A n ss := h.keep fun _ hp => hb.cell hp
theorem Strs.later (h : Strs w w.heap.size A n ss) (hb : Below w.heap.size w w') : Strs w' w'.heap.size A n ss := (h.below hb).more hb.size
end
theorem ret_int {k : IntKind} {a b : Int} (h : a = b) : Ending.returned (.int k a) = .returned (.int k b) := by rw [h]
theorem ret_bool {a b : Bool} (h : a = b) : Ending.returned (.bool a) = .returned (.bool b) := by rw [h]
theorem box_at {w w' : World} {cs : Array Value} {t : TypeId} (hb : Below (w.alloc (.cells cs t)).heap.size (w.alloc (.cells cs t)) w') (i : Nat) : w'.cell? ⟨w.heap.size, i, none⟩ = cs[i]? :=
 (hb.cell (p := ⟨w.heap.size, i, none⟩) (by simp)).trans (cell_of_row _ w.heap.size i cs t (0, 0) (heap_alloc_new w _))
theorem _root_.Go.RowKit.Below.later {w w1 w2 : World} (h : Below w.heap.size w w1) (h' : Below w1.heap.size w1 w2) : Below w.heap.size w w2 := h.trans (h'.mono h.size)
theorem _root_.Go.RowKit.Below.new (w : World) (o : Obj) : Below w.heap.size w (w.alloc o) := (Below.refl _ _).alloc (Nat.le_refl _) o
theorem undrew {w w' : World} (h : Below w.drew.heap.size w.drew w') : Below w.heap.size w w' := ⟨h.os, h.tape, h.output, h.size, h.block⟩
theorem undrewN {w w' : World} {n : Nat} (h : Below (w.drewN n).heap.size (w.drewN n) w') : Below w.heap.size w w' := ⟨h.os, h.tape, h.output, h.size, h.block⟩
theorem heap_last {W : World} {o : Obj} {g : Nat} (h : W.heap.size = g) : (W.alloc o).heap[g]? = some o := by subst h; exact heap_alloc_new W o
theorem below_drewN {B : Nat} {a w : World} (h : Below B a w) (n : Nat) : Below B a (w.drewN n) := ⟨h.os, h.tape, h.output, h.size, h.block⟩
def strArr (ss : List ByteArray) : Array Value := (ss.map Value.string).toArray
theorem strArr_at (ss : List ByteArray) (j : Nat) (h : j < ss.length) : (strArr ss)[j]? = some (.string (ss.getD j ByteArray.empty)) := by
 simp [strArr, List.getElem?_eq_getElem h, List.getD_eq_getElem?_getD]
theorem Strs.made (w : World) (t : TypeId) (ss : List ByteArray) : Strs (w.alloc (.cells (strArr ss) t)) (w.heap.size + 1) (some ⟨w.heap.size, 0, none⟩) ss.length ss :=
 ⟨rfl, fun _ => ⟨w.heap.size, 0, rfl, by omega, fun j hj => by
   rw [Nat.zero_add, cell_of_row _ w.heap.size j (strArr ss) t (0, 0) (heap_alloc_new w _), strArr_at ss j hj]⟩⟩
theorem toList_data (s : ByteArray) : s.toList = s.data.toList := ByteArray.toList_eq s
theorem bytes_ext {a b : ByteArray} (h : a.toList = b.toList) : a = b := by
 rw [toList_data, toList_data] at h
 cases a; cases b; simp at h; simp [h]
theorem str_ne {a b : ByteArray} (h : (!a.toList == b.toList) = true) : a ≠ b := by
 rintro rfl; simp at h
theorem str_eq {a b : ByteArray} (h : (!a.toList == b.toList) = false) : a = b := by
 apply bytes_ext; simpa using h
end Go.Proofs.YtlicffeicmoifaaGreatDoor
namespace Go.Proofs.YtlicffeicmoifaaGreatDoor
open Go.RowKit
theorem infoS : (Tryz.prog.info? 9).map (fun i => (i.zero, i.size, i.bytes)) = some (some (.string .empty), 1, 16) := by kernel_rfl
def eqS (a b : List ByteArray) : Bool := decide (a = b)
end Go.Proofs.YtlicffeicmoifaaGreatDoor
namespace Go.Proofs.YtlicffeicmoifaaGreatDoor
open Go.RowKit
def Blk (w : World) (g : Nat) (t : TypeId) (cs : Array Value) : Prop := w.heap[g]? = some (.cells cs t (0, 0))
section
variable {w w' : World} {g : Nat} {t : TypeId} {cs : Array Value}
theorem Blk.lt (h : Blk w g t cs) : g < w.heap.size := by
 rcases Nat.lt_or_ge g w.heap.size with hlt | hge
 · exact hlt
 · unfold Blk at h; rw [Array.getElem?_eq_none hge] at h; cases h
theorem Blk.cell (h : Blk w g t cs) (i : Nat) : w.cell? ⟨g, i, none⟩ = cs[i]? := cell_of_row w g i cs t (0, 0) h
theorem Blk.frozen (h : Blk w g t cs) (i : Nat) : w.frozen? ⟨g, i, none⟩ = false := by
 unfold Blk at h
 simp [World.frozen?, h]
theorem Blk.set_ (h : Blk w g t cs) (i : Nat) (u : Value) : Blk (w.setCell ⟨g, i, none⟩ u) g t (cs.setIfInBounds i u) := by
 unfold Blk at h ⊢
 simp [World.setCell, Array.getElem?_modify, h]
theorem Blk.far (h : Blk w g t cs) {p : Addr} (hp : g ≠ p.block) (u : Value) : Blk (w.setCell p u) g t cs := (Below.heap_setCell w p u g hp).trans h
theorem Blk.later {B : Nat} (h : Blk w g t cs) (hb : Below B w w') (hg : g < B) : Blk w' g t cs := (hb.block g hg).trans h
end
theorem Blk.alloc {w : World} {g : Nat} {t : TypeId} {cs : Array Value} (h : Blk w g t cs) (o : Obj) : Blk (w.alloc o) g t cs := (Below.heap_alloc w o g h.lt).trans h
theorem Blk.grown {w w' : World} {g : Nat} {t : TypeId} {cs : Array Value} {row : Option Nat} (h : Blk w g t cs) (hb : w.grownBy w' row) (hg : some g ≠ row) : Blk w' g t cs := (hb.block g h.lt hg).trans h
theorem heap_two1 (w : World) (a b : Obj) : ((w.alloc a).alloc b).heap[w.heap.size + 1]? = some b := heap_last (by simp)
theorem heap_two0 (w : World) (a b : Obj) : ((w.alloc a).alloc b).heap[w.heap.size]? = some a := (Below.heap_alloc _ b _ (by simp)).trans (heap_last rfl)
theorem heap_new2 (w : World) (a b c : Obj) : (((w.alloc a).alloc b).alloc c).heap[w.heap.size + 1 + 1]? = some c := heap_last (by simp)
theorem heap_new1 (w : World) (a b c : Obj) : (((w.alloc a).alloc b).alloc c).heap[w.heap.size + 1]? = some b := (Below.heap_alloc _ c _ (by simp)).trans (heap_last (by simp))
theorem heap_new0 (w : World) (a b c : Obj) : (((w.alloc a).alloc b).alloc c).heap[w.heap.size]? = some a := (Below.heap_alloc _ c _ (by simp; omega)).trans ((Below.heap_alloc _ b _ (by simp)).trans (heap_last rfl))
end Go.Proofs.YtlicffeicmoifaaGreatDoor
namespace Go.Proofs.YtlicffeicmoifaaGreatDoor
open Go.RowKit
theorem grown_of_below {a w : World} (h : Below a.heap.size a w) (row : Option Nat) : a.grownBy w row := ⟨h.os, h.tape, h.output, h.size, fun i hi _ => h.block i hi⟩
theorem grown_setCell {a w : World} {g : Nat} (h : a.grownBy w (some g)) (o : Nat) (u : Value) : a.grownBy (w.setCell ⟨g, o, none⟩ u) (some g) :=
 ⟨h.os, h.tape, h.output, by simpa [World.setCell] using h.size, fun i hi hne => (Below.heap_setCell w ⟨g, o, none⟩ u i (by
   rintro rfl
   exact hne rfl)).trans (h.block i hi hne)⟩
end Go.Proofs.YtlicffeicmoifaaGreatDoor
namespace Go.Proofs.YtlicffeicmoifaaGreatDoor.Own
open Go.RowKit Go.Proofs.YtlicffeicmoifaaGreatDoor
structure Kind (α : Type) where
 size : Nat
 cells : α → Value → List Value
 subs : α → List ByteArray
 len : ∀ d v, (cells d v).length = size
 pos : 0 < size
theorem own_base {w : World} {base base' e size n : Nat} {v : Value} {xs : List Value} (h : w.ownsRow base' e size v n xs) (hb : base ≤ base') : w.ownsRow base e size v n xs := by
 obtain ⟨hl, h⟩ := h
 refine ⟨hl, ?_⟩
 rcases h with h | ⟨g, cap, cur, e1, e2, e3⟩
 · exact .inl h
 · exact .inr ⟨g, cap, cur, e1, by omega, e3⟩
theorem own_later {w w' : World} {base e size n : Nat} {v : Value} {xs : List Value} (h : w.ownsRow base e size v n xs) (hb : Below w.heap.size w w') : w'.ownsRow base e size v n xs :=
 h.kept (grown_of_below hb none) (by cases hv : v.ownBlock with
  | none => exact .inl rfl
  | some g => exact .inr (by simp))
def apart (a b : Value) : Prop := a.ownBlock = none ∨ a.ownBlock ≠ b.ownBlock
theorem apart_types {w : World} {base base' e e' size size' n n' : Nat} {v v' : Value} {xs xs' : List Value} (h : w.ownsRow base e size v n xs) (h' : w.ownsRow base' e' size' v' n' xs') (hne : e ≠ e') : apart v v' := by
 rcases h.2 with ⟨rfl, _⟩ | ⟨g, cap, cur, rfl, _, hh, _⟩
 · exact .inl rfl
 · rcases h'.2 with ⟨rfl, _⟩ | ⟨g', cap', cur', rfl, _, hh', _⟩
   · exact .inr (by simp [Value.ownBlock])
   · refine .inr ?_
     intro he
     have : g = g' := by simpa [Value.ownBlock] using he
     subst this
     rw [hh] at hh'
     injection hh' with hh'
     injection hh' with _ ht
     exact hne ht
theorem apart_new {w : World} {base base' e e' size size' n n' : Nat} {v v' : Value} {xs xs' : List Value} {w' : World} (h : w.ownsRow base e size v n xs) (h' : w'.ownsRow base' e' size' v' n' xs') (hb : w.heap.size ≤ base') : apart v v' := by
 cases hv : v.ownBlock with
 | none => exact .inl hv
 | some g =>
   refine .inr ?_
   rw [hv]
   intro he
   have h1 := (h.lt g hv).2
   have h2 := (h'.lt g he.symm).1
   omega
theorem kept_apart {w w' : World} {base e size n : Nat} {v u : Value} {xs : List Value} (h : w.ownsRow base e size v n xs) (hg : w.grownBy w' u.ownBlock) (ha : apart v u) : w'.ownsRow base e size v n xs := h.kept hg ha
theorem own_blk_ne {w : World} {base e size n g t : Nat} {v : Value} {xs : List Value} {cs : Array Value} (h : w.ownsRow base e size v n xs) (hg : Blk w g t cs) (hne : e ≠ t) : v.ownBlock ≠ some g := by
 rcases h.2 with ⟨rfl, _⟩ | ⟨g', cap, cur, rfl, _, hh, _⟩
 · simp [Value.ownBlock]
 · intro he
   have : g' = g := by simpa [Value.ownBlock] using he
   subst this
   unfold Blk at hg
   rw [hh] at hg
   injection hg with hg
   injection hg with _ ht
   exact hne ht
theorem grown_set (w : World) (g i : Nat) (u : Value) : w.grownBy (w.setCell ⟨g, i, none⟩ u) (some g) := grown_setCell (World.grownBy.refl w _) i u
theorem own_slice {w : World} {base e size n : Nat} {v : Value} {xs : List Value} (h : w.ownsRow base e size v n xs) : ∃ A cap, v = .slice A n cap ∧ n ≤ cap ∧ cap ≤ maxLen ∧ (0 < n → ∃ g, A = some ⟨g, 0, none⟩ ∧ g < w.heap.size ∧ base ≤ g) := by
 rcases h.2 with ⟨rfl, rfl⟩ | ⟨g, cap, cur, rfl, hb, hh, hc, hm, _⟩
 · exact ⟨none, 0, rfl, Nat.le_refl _, by simp [maxLen], fun h => absurd h (by omega)⟩
 · exact ⟨_, cap, rfl, hc, hm, fun _ => ⟨g, rfl, Blk.lt (t := e) hh, hb⟩⟩
theorem own_cell {w : World} {base e size n g cap : Nat} {xs : List Value} (h : w.ownsRow base e size (.slice (some ⟨g, 0, none⟩) n cap) n xs) (j : Nat) (u : Value) (hj : j < n * size) (hu : xs[j]? = some u) : w.cell? ⟨g, j, none⟩ = some u := (h.cellAt j hj).trans hu
theorem own_blk {w : World} {base e size n g cap : Nat} {xs : List Value} (h : w.ownsRow base e size (.slice (some ⟨g, 0, none⟩) n cap) n xs) : ∃ cur, Blk w g e cur := by
 rcases h.2 with ⟨h', _⟩ | ⟨g', cap', cur, h', _, hg, _⟩
 · simp at h'
 · simp only [Value.slice.injEq, Option.some.injEq, Addr.mk.injEq, and_true, true_and] at h'
   obtain ⟨rfl, rfl⟩ := h'
   exact ⟨cur, hg⟩
def SubO (w : World) (base : Nat) (v : Value) (ss : List ByteArray) : Prop := w.ownsRow base 9 1 v ss.length (ss.map Value.string)
theorem SubO.strs {w : World} {base : Nat} {v : Value} {ss : List ByteArray} (h : SubO w base v ss) : ∃ A cap, v = .slice A ss.length cap ∧ ss.length ≤ cap ∧ Strs w w.heap.size A ss.length ss := by
 obtain ⟨A, cap, rfl, hc, _, hA⟩ := own_slice h
 refine ⟨A, cap, rfl, hc, rfl, fun hn => ?_⟩
 obtain ⟨g, rfl, hg, _⟩ := hA hn
 refine ⟨g, 0, rfl, hg, fun j hj => ?_⟩
 rw [Nat.zero_add]
 refine own_cell h j _ (by omega) ?_
 rw [List.getElem?_map, List.getElem?_eq_getElem hj, List.getD_eq_getElem?_getD, List.getElem?_eq_getElem hj]; rfl
theorem sub_of_blk {w : World} {g base : Nat} {ss : List ByteArray} (h : Blk w g 9 (strArr ss)) (hb : base ≤ g) (hm : ss.length ≤ maxLen) : SubO w base (.slice (some ⟨g, 0, none⟩) ss.length ss.length) ss :=
 ⟨by simp, .inr ⟨g, _, strArr ss, rfl, hb, h, Nat.le_refl _, hm, by simp [strArr], by simp [strArr, List.take_of_length_le]⟩⟩
theorem sub_nil (w : World) (base : Nat) : SubO w base (.slice none 0 0) [] := World.ownsRow_nil _ _ _ _
section
variable {α : Type} (K : Kind α)
def flat (K : Kind α) : List α → List Value → List Value
 | d :: r, v :: s => K.cells d v ++ flat K r s
 | _, _ => []
theorem flat_append : ∀ (fs gs : List α) (vs us : List Value), vs.length = fs.length → flat K (fs ++ gs) (vs ++ us) = flat K fs vs ++ flat K gs us
 | [], gs, [], us, _ => rfl
 | d :: r, gs, v :: s, us, h => by
   have := flat_append r gs s us (by simpa using h)
   simp only [List.cons_append, flat, this, List.append_assoc]
 | [], _, _ :: _, _, h => by simp at h
 | _ :: _, _, [], _, h => by simp at h
end
section
variable {α : Type} [Inhabited α] (K : Kind α)
theorem flat_at : ∀ (fs : List α) (vs : List Value) (j i : Nat), vs.length = fs.length → j < fs.length → i < K.size → (flat K fs vs)[j * K.size + i]? = (K.cells (fs.getD j default) (vs.getD j (.slice none 0 0)))[i]?
 | d :: r, v :: s, 0, i, _, _, hi => by
   simp only [flat, Nat.zero_mul, Nat.zero_add, List.getD_cons_zero]
   rw [List.getElem?_append_left (by rw [K.len]; exact hi)]
 | d :: r, v :: s, j + 1, i, h, hj, hi => by
   have := flat_at r s j i (by simpa using h) (by simpa using hj) hi
   simp only [flat, List.getD_cons_succ]
   rw [List.getElem?_append_right (by rw [K.len, Nat.add_mul]; omega), K.len]
   rw [← this]
   congr 1
   rw [Nat.add_mul]; omega
 | [], _, _, _, _, hj, _ => by simp at hj
 | _ :: _, [], _, _, h, _, _ => by simp at h
theorem flat_set : ∀ (fs : List α) (vs : List Value) (i c : Nat) (u : Value) (d : α), vs.length = fs.length → i < fs.length → c < K.size → (∀ v, K.cells d v = (K.cells (fs.getD i default) v).set c u) →
 (flat K fs vs).set (i * K.size + c) u = flat K (fs.set i d) vs
 | f :: fs, v :: vs, 0, c, u, d, _, _, hc, hd => by
   have h1 := hd v
   rw [List.getD_cons_zero] at h1
   rw [List.set_cons_zero, flat, flat, h1, Nat.zero_mul, Nat.zero_add, List.set_append_left _ _ (by rw [K.len]; exact hc)]
 | f :: fs, v :: vs, i + 1, c, u, d, h, hi, hc, hd => by
   have ih := flat_set fs vs i c u d (by simpa using h) (by simpa using hi) hc (by simpa using hd)
   rw [List.set_cons_succ, flat, flat, List.set_append_right _ _ (by rw [K.len, Nat.add_mul]; omega), ← ih, K.len]
   congr 2
   rw [Nat.add_mul]; omega
 | [], _, _, _, _, _, _, hi, _, _ => by simp at hi
 | _ :: _, [], _, _, _, _, h, _, _, _ => by simp at h
theorem getD_set_ {β : Type} (l : List β) (i j : Nat) (x dd : β) (hi : i < l.length) : (l.set i x).getD j dd = if i = j then x else l.getD j dd := by
 rw [List.getD_eq_getElem?_getD, List.getElem?_set]
 by_cases e : i = j
 · subst e; simp [hi]
 · simp [e]
theorem mem_getD {vs : List Value} {u : Value} (h : u ∈ vs) : ∃ j, j < vs.length ∧ vs.getD j (.slice none 0 0) = u := by
 obtain ⟨j, hj, rfl⟩ := List.getElem_of_mem h
 exact ⟨j, hj, by rw [List.getD_eq_getElem?_getD, List.getElem?_eq_getElem hj]; rfl⟩
theorem mem_of_getD {β : Type} (l : List β) (j : Nat) (dd : β) (h : j < l.length) : l.getD j dd ∈ l := by
 rw [List.getD_eq_getElem?_getD, List.getElem?_eq_getElem h]; simp
structure OwnL (w : World) (base : Nat) (t : TypeId) (v : Value) (fs : List α) (vs : List Value) : Prop where
 len : vs.length = fs.length
 row : w.ownsRow base t K.size v fs.length (flat K fs vs)
 subs : ∀ j, j < fs.length → SubO w base (vs.getD j (.slice none 0 0)) (K.subs (fs.getD j default))
 aprt : vs.Pairwise apart
variable {K}
theorem OwnL.nil (w : World) (base t : Nat) : OwnL K w base t (.slice none 0 0) [] [] := ⟨rfl, World.ownsRow_nil _ _ _ _, fun j hj => by simp at hj, List.Pairwise.nil⟩
theorem OwnL.later {w w' : World} {base t : Nat} {v : Value} {fs : List α} {vs : List Value} (h : OwnL K w base t v fs vs) (hb : Below w.heap.size w w') : OwnL K w' base t v fs vs :=
 ⟨h.len, own_later h.row hb, fun j hj => own_later (h.subs j hj) hb, h.aprt⟩
theorem OwnL.base {w : World} {base base' t : Nat} {v : Value} {fs : List α} {vs : List Value} (h : OwnL K w base' t v fs vs) (hb : base ≤ base') : OwnL K w base t v fs vs :=
 ⟨h.len, own_base h.row hb, fun j hj => own_base (h.subs j hj) hb, h.aprt⟩
theorem OwnL.grownOther {w w' : World} {base t : Nat} {v : Value} {fs : List α} {vs : List Value} {g tp : Nat} {cs : Array Value} (h : OwnL K w base t v fs vs) (hB : Blk w g tp cs) (h1 : t ≠ tp) (h2 : 9 ≠ tp) (hg : w.grownBy w' (some g)) : OwnL K w' base t v fs vs :=
 ⟨h.len, h.row.kept hg (.inr (own_blk_ne h.row hB h1)), fun j hj => World.ownsRow.kept (h.subs j hj) hg (.inr (own_blk_ne (h.subs j hj) hB h2)), h.aprt⟩
theorem OwnL.fresh {w w' : World} {base base' t : Nat} {v v' : Value} {fs : List α} {vs : List Value} {ss : List ByteArray} (h : OwnL K w base t v fs vs) (hs : SubO w' base' v' ss) (hb : w.heap.size ≤ base') : ∀ u ∈ vs, apart u v' := by
 intro u hu
 obtain ⟨j, hj, rfl⟩ := mem_getD hu
 exact apart_new (h.subs j (by rw [← h.len]; exact hj)) hs hb
theorem OwnL.snoc {w w' : World} {base t : Nat} {v v1 v' : Value} {fs : List α} {vs : List Value} {d : α} (h : OwnL K w base t v fs vs) (hsub : SubO w base v' (K.subs d)) (hap : ∀ u ∈ vs, apart u v')
 (hrow : w'.ownsRow base t K.size v1 (fs.length + 1) (flat K fs vs ++ K.cells d v')) (hg : w.grownBy w' v.ownBlock) (ht : 9 ≠ t) : OwnL K w' base t v1 (fs ++ [d]) (vs ++ [v']) := by
 have hvl := h.len
 refine ⟨by simp [hvl], ?_, fun j hj => ?_, ?_⟩
 · rw [List.length_append, flat_append K _ _ _ _ hvl]
   simpa [flat] using hrow
 · rw [List.length_append, List.length_singleton] at hj
   by_cases e : j < fs.length
   · rw [List.getD_eq_getElem?_getD, List.getElem?_append_left (by omega), ← List.getD_eq_getElem?_getD, List.getD_eq_getElem?_getD (l := fs ++ [d]), List.getElem?_append_left e, ← List.getD_eq_getElem?_getD]
     exact kept_apart (h.subs j e) hg (apart_types (h.subs j e) h.row ht)
   · obtain rfl : j = fs.length := by omega
     rw [List.getD_eq_getElem?_getD, List.getElem?_append_right (by omega), List.getD_eq_getElem?_getD, List.getElem?_append_right (Nat.le_refl _), hvl, Nat.sub_self]
     exact kept_apart hsub hg (apart_types hsub h.row ht)
 · rw [List.pairwise_append]
   refine ⟨h.aprt, List.pairwise_singleton _ _, fun a ha b hb => ?_⟩
   rw [List.mem_singleton.1 hb]
   exact hap a ha
theorem OwnL.cellAt {w : World} {base t g n cap : Nat} {fs : List α} {vs : List Value} (h : OwnL K w base t (.slice (some ⟨g, 0, none⟩) n cap) fs vs) (hn : fs.length = n) (j i : Nat) (hj : j < n) (hi : i < K.size) : w.cell? ⟨g, j * K.size + i, none⟩ = (K.cells (fs.getD j default) (vs.getD j (.slice none 0 0)))[i]? := by
 subst hn
 rw [← flat_at K fs vs j i h.len hj hi]
 refine h.row.cellAt _ ?_
 have : (j + 1) * K.size ≤ fs.length * K.size := Nat.mul_le_mul_right _ hj
 rw [Nat.add_mul] at this
 omega
theorem OwnL.put {w : World} {base t g n cap : Nat} {fs : List α} {vs : List Value} (h : OwnL K w base t (.slice (some ⟨g, 0, none⟩) n cap) fs vs) (hn : fs.length = n) {i c q : Nat} (hi : i < n) (hc : c < K.size) (hq : q = i * K.size + c) {u : Value} {d d' : α}
 (hd : fs.getD i default = d) (hc' : ∀ v, K.cells d' v = (K.cells d v).set c u) (hsub : K.subs d' = K.subs d) (ht : 9 ≠ t) : OwnL K (w.setCell ⟨g, q, none⟩ u) base t (.slice (some ⟨g, 0, none⟩) n cap) (fs.set i d') vs := by
 subst hn hq hd
 obtain ⟨h1, h2⟩ := h.row.stored (i * K.size + c) u
 refine ⟨by simpa using h.len, ?_, fun j hj => ?_, h.aprt⟩
 · rw [flat_set K fs vs i c u d' h.len hi hc hc'] at h1
   rw [List.length_set]
   exact h1
 · have hs := h.subs j (by simpa using hj)
   have hse : K.subs ((fs.set i d').getD j default) = K.subs (fs.getD j default) := by
    rw [getD_set_ _ _ _ _ _ hi]
    by_cases e : i = j
    · subst e; rw [if_pos rfl, hsub]
    · rw [if_neg e]
   rw [hse]
   exact World.ownsRow.kept hs h2 (apart_types hs h.row ht)
end
end Go.Proofs.YtlicffeicmoifaaGreatDoor.Own
namespace Go.Proofs.YtlicffeicmoifaaGreatDoor.Own
open Go.RowKit Go.Proofs.YtlicffeicmoifaaGreatDoor
structure Chg (P : Nat → Prop) (w w' : World) : Prop where
 os : w'.os = w.os
 tape : w'.tape = w.tape
 output : w'.output = w.output
 size : w.heap.size ≤ w'.heap.size
 block : ∀ i, i < w.heap.size → ¬ P i → w'.heap[i]? = w.heap[i]?
theorem Chg.refl (P : Nat → Prop) (w : World) : Chg P w w := ⟨rfl, rfl, rfl, Nat.le_refl _, fun _ _ _ => rfl⟩
theorem Chg.trans {P : Nat → Prop} {a b c : World} (h : Chg P a b) (k : Chg P b c) : Chg P a c :=
 ⟨k.os.trans h.os, k.tape.trans h.tape, k.output.trans h.output, Nat.le_trans h.size k.size, fun i hi' hr => (k.block i (Nat.lt_of_lt_of_le hi' h.size) hr).trans (h.block i hi' hr)⟩
theorem Chg.of_below {P : Nat → Prop} {a b : World} (h : Below a.heap.size a b) : Chg P a b := ⟨h.os, h.tape, h.output, h.size, fun i hi' _ => h.block i hi'⟩
theorem Chg.of_grown {P : Nat → Prop} {a b : World} {row : Option Nat} (h : a.grownBy b row) (hr : ∀ g, row = some g → P g) : Chg P a b :=
 ⟨h.os, h.tape, h.output, h.size, fun i hi' ho => h.block i hi' (fun e => ho (hr i e.symm))⟩
theorem Chg.set {P : Nat → Prop} {a b : World} {g : Nat} (h : Chg P a b) (h1 : P g) (i : Nat) (u : Value) : Chg P a (b.setCell ⟨g, i, none⟩ u) :=
 h.trans (Chg.of_grown (grown_set b g i u) (fun g' e => by obtain rfl : g = g' := by simpa using e
                                                           exact h1))
theorem Chg.mono {P Q : Nat → Prop} {a b : World} (h : Chg P a b) (h1 : ∀ g, P g → Q g) : Chg Q a b :=
 ⟨h.os, h.tape, h.output, h.size, fun i hx ho => h.block i hx (fun hp => ho (h1 i hp))⟩
theorem Chg.below {P : Nat → Prop} {B : Nat} {a b c : World} (h : Below B a b) (k : Chg P b c) (hB : ∀ g, P g → B ≤ g) (hs : B ≤ a.heap.size) : Below B a c :=
 ⟨k.os.trans h.os, k.tape.trans h.tape, k.output.trans h.output, Nat.le_trans h.size k.size, fun i hi' => (k.block i (Nat.lt_of_lt_of_le (Nat.lt_of_lt_of_le hi' hs) h.size) (fun hp => by have := hB i hp; omega)).trans (h.block i hi')⟩
theorem Blk.chg {P : Nat → Prop} {w w' : World} {g : Nat} {t : TypeId} {cs : Array Value} (h : Blk w g t cs) (k : Chg P w w') (hg : ¬ P g) : Blk w' g t cs := (k.block g h.lt hg).trans h
def inP (P : Nat → Prop) (v : Value) : Prop := ∀ g, v.ownBlock = some g → P g
theorem own_chg {P : Nat → Prop} {w w' : World} {base e size n : Nat} {v : Value} {xs : List Value} (h : w.ownsRow base e size v n xs) (k : Chg P w w') (hg : inP (fun g => ¬ P g) v) : w'.ownsRow base e size v n xs := by
 refine ⟨h.1, ?_⟩
 rcases h.2 with hn | ⟨g, cap, cur, rfl, hb, hgg, rest⟩
 · exact .inl hn
 · exact .inr ⟨g, cap, cur, rfl, hb, (k.block g (Blk.lt (t := e) hgg) (hg g rfl)).trans hgg, rest⟩
theorem inP_of {w : World} {base e size n : Nat} {v : Value} {xs : List Value} (h : w.ownsRow base e size v n xs) {P : Nat → Prop} (hP : ∀ g, base ≤ g → g < w.heap.size → P g) : inP P v := fun g hg => by
 have := h.lt g hg
 exact hP g this.1 this.2
theorem OwnL.inP {α : Type} [Inhabited α] {K : Kind α} {w : World} {base t : Nat} {v : Value} {fs : List α} {vs : List Value} (h : OwnL K w base t v fs vs) {P : Nat → Prop} (hP : ∀ g, base ≤ g → g < w.heap.size → P g) : inP P v ∧ ∀ u ∈ vs, Own.inP P u :=
 ⟨inP_of h.row hP, fun u hu => by
   obtain ⟨j, hj, rfl⟩ := mem_getD hu
   exact inP_of (h.subs j (by rw [← h.len]; exact hj)) hP⟩
theorem OwnL.chg {α : Type} [Inhabited α] {K : Kind α} {P : Nat → Prop} {w w' : World} {base t : Nat} {v : Value} {fs : List α} {vs : List Value} (h : OwnL K w base t v fs vs) (k : Chg P w w') (hu : Own.inP (fun g => ¬ P g) v) (hus : ∀ u ∈ vs, Own.inP (fun g => ¬ P g) u) : OwnL K w' base t v fs vs :=
 ⟨h.len, own_chg h.row k hu, fun j hj => own_chg (h.subs j hj) k (hus _ (mem_of_getD _ _ _ (by rw [h.len]; exact hj))), h.aprt⟩
end Go.Proofs.YtlicffeicmoifaaGreatDoor.Own
namespace Go.Proofs.YtlicffeicmoifaaGreatDoor
open Go.RowKit
set_option linter.unusedVariables false
structure NodeD where
 name : ByteArray
 subs : List ByteArray
 val : ByteArray
deriving Inhabited
def NodeR (w : World) (B : Nat) (c0 c1 c2 : Value) (d : NodeD) : Prop :=
 c0 = .string d.name ∧ (∃ A n cap, c1 = .slice A n cap ∧ Strs w B A n d.subs ∧ n ≤ cap) ∧ c2 = .string d.val
theorem NodeR.keep {w w' : World} {B : Nat} {c0 c1 c2 : Value} {d : NodeD} (h : NodeR w B c0 c1 c2 d) (hk : ∀ p : Addr, p.block < B → w'.cell? p = w.cell? p) : NodeR w' B c0 c1 c2 d := by
 obtain ⟨e0, ⟨A1, n1, p1, e1, s1, k1⟩, e2⟩ := h
 exact ⟨e0, ⟨A1, n1, p1, e1, s1.keep hk, k1⟩, e2⟩
theorem NodeR.more {w : World} {B B' : Nat} {c0 c1 c2 : Value} {d : NodeD} (h : NodeR w B c0 c1 c2 d) (hB : B ≤ B') : NodeR w B' c0 c1 c2 d := by
 obtain ⟨e0, ⟨A1, n1, p1, e1, s1, k1⟩, e2⟩ := h
 exact ⟨e0, ⟨A1, n1, p1, e1, s1.more hB, k1⟩, e2⟩
theorem NodeR.later {w w' : World} {c0 c1 c2 : Value} {d : NodeD} (h : NodeR w w.heap.size c0 c1 c2 d) (hb : Below w.heap.size w w') : NodeR w' w'.heap.size c0 c1 c2 d :=
 (h.keep fun _ hp => hb.cell hp).more hb.size
def Nodes (w : World) (B : Nat) (A : Option Addr) (n : Nat) (fs : List NodeD) : Prop :=
 fs.length = n ∧ (0 < n → ∃ b o, A = some ⟨b, o, none⟩ ∧ b < B ∧ ∀ j, j < n → ∃ c0 c1 c2, w.cell? ⟨b, o + j * 3, none⟩ = some c0 ∧ w.cell? ⟨b, o + j * 3 + 1, none⟩ = some c1 ∧ w.cell? ⟨b, o + j * 3 + 2, none⟩ = some c2 ∧ NodeR w B c0 c1 c2 (fs.getD j default))
section
variable {w w' : World} {B B' n : Nat} {A : Option Addr} {fs : List NodeD}
theorem Nodes.keep (h : Nodes w B A n fs) (hk : ∀ p : Addr, p.block < B → w'.cell? p = w.cell? p) : Nodes w' B A n fs :=
 ⟨h.1, fun hn => by
   obtain ⟨b, o, e, hb, hc⟩ := h.2 hn
   refine ⟨b, o, e, hb, fun j hj => ?_⟩
   obtain ⟨c0, c1, c2, h0, h1, h2, hr⟩ := hc j hj
   exact ⟨c0, c1, c2, (hk _ hb).trans h0, (hk _ hb).trans h1, (hk _ hb).trans h2, hr.keep hk⟩⟩
theorem Nodes.more (h : Nodes w B A n fs) (hB : B ≤ B') : Nodes w B' A n fs :=
 ⟨h.1, fun hn => by
   obtain ⟨b, o, e, hb, hc⟩ := h.2 hn
   refine ⟨b, o, e, by omega, fun j hj => ?_⟩
   obtain ⟨c0, c1, c2, h0, h1, h2, hr⟩ := hc j hj
   exact ⟨c0, c1, c2, h0, h1, h2, hr.more hB⟩⟩
theorem Nodes.later (h : Nodes w w.heap.size A n fs) (hb : Below w.heap.size w w') : Nodes w' w'.heap.size A n fs := (h.keep fun _ hp => hb.cell hp).more hb.size
end
def NodeD.small (d : NodeD) : Prop := d.name.size ≤ 1048576 ∧ (d.subs.length ≤ 1048576 ∧ ∀ s ∈ d.subs, s.size ≤ 1048576) ∧ d.val.size ≤ 1048576
end Go.Proofs.YtlicffeicmoifaaGreatDoor
namespace Go.Proofs.YtlicffeicmoifaaGreatDoor
open Go.RowKit
set_option linter.unusedVariables false
theorem getD_memD {α : Type} [Inhabited α] (l : List α) (k : Nat) (h : k < l.length) : l.getD k default ∈ l := by
 rw [List.getD_eq_getElem?_getD, List.getElem?_eq_getElem h]; simp
end Go.Proofs.YtlicffeicmoifaaGreatDoor
namespace Go.Proofs.YtlicffeicmoifaaGreatDoor
open Go.RowKit _root_.Go.Proofs.YtlicffeicmoifaaGreatDoor.Own
set_option linter.unusedVariables false
theorem below_new3 (w : World) (a b c : Obj) : Below w.heap.size w (((w.alloc a).alloc b).alloc c) := ((Below.new w a).later (Below.new _ b)).later (Below.new _ c)
def nodeK : Kind NodeD := ⟨3, fun d v => [.string d.name, v, .string d.val], fun d => d.subs, fun _ _ => rfl, by decide⟩
theorem infoNodeD : (Tryz.prog.info? 89).map (fun i => (i.zero, i.size, i.bytes)) = some (some (.agg #[.string .empty, .slice none 0 0, .string .empty]), 3, 56) := by kernel_rfl
theorem OwnL.Nodes {w : World} {base t : Nat} {v : Value} {fs : List NodeD} {vs : List Value} (h : OwnL nodeK w base t v fs vs) : ∃ A cap, v = .slice A fs.length cap ∧ fs.length ≤ cap ∧ Nodes w w.heap.size A fs.length fs := by
 obtain ⟨A, cap, rfl, hc, _, hA⟩ := own_slice h.row
 refine ⟨A, cap, rfl, hc, rfl, fun hn => ?_⟩
 obtain ⟨g, rfl, hg, _⟩ := hA hn
 refine ⟨g, 0, rfl, hg, fun j hj => ?_⟩
 have h0 := h.cellAt rfl j 0 hj (by decide)
 have h1 := h.cellAt rfl j 1 hj (by decide)
 have h2 := h.cellAt rfl j 2 hj (by decide)
 obtain ⟨A1, cap1, e1, hc1, hs1⟩ := (h.subs j hj).strs
 refine ⟨_, _, _, by rw [Nat.zero_add]; exact h0, by rw [Nat.zero_add]; exact h1, by rw [Nat.zero_add]; exact h2, rfl, ⟨A1, _, cap1, e1, hs1, hc1⟩, rfl⟩
end Go.Proofs.YtlicffeicmoifaaGreatDoor
