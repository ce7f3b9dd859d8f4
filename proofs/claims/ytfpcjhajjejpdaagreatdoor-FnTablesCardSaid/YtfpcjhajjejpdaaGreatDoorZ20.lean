/-
  Changes and nodes as cells: rows of the call's own that read as lists of them. The copies that the laws make of struct types, in the form in which the walks take them: a reading relation. Plain laws of texts that are cut at a mark: strings.Split at one byte, strings.Join of the pieces. Rows of the reference: what l29Cut makes, and what l29Row and CondTrue compute.
-/
import Derived.Test.YtfpcjhajjejpdaaGreatDoorZ16
import Derived.Test.YtfpcjhajjejpdaaGreatDoorZ19
import Derived.Test.YtfpcjhajjejpdaaGreatDoorZ01
import Derived.Test.YtfpcjhajjejpdaaGreatDoorZ00
import Derived.Test.YtfpcjhajjejpdaaGreatDoorZ12
import Derived.Test.YtfpcjhajjejpdaaGreatDoorZ13
import Derived.Deep.RegionHeld3
import Derived.Lib.Join
import Derived.Lib.SplitLaws
namespace Go.Proofs.YtfpcjhajjejpdaaGreatDoor
open Go.RowKit
set_option linter.unusedVariables false

def ChgR (w : World) (B : Nat) (c0 c1 c2 c3 : Value) (d : ChgD) : Prop :=
  c0 = .int .i64 d.kind ∧ c1 = .string d.name ∧ (∃ A n cap, c2 = .slice A n cap ∧ Strs w B A n d.subs ∧ n ≤ cap) ∧ c3 = .string d.val
theorem ChgR.keep {w w' : World} {B : Nat} {c0 c1 c2 c3 : Value} {d : ChgD} (h : ChgR w B c0 c1 c2 c3 d) (hk : ∀ p : Addr, p.block < B → w'.cell? p = w.cell? p) : ChgR w' B c0 c1 c2 c3 d := by
  obtain ⟨e0, e1, ⟨A1, n1, p1, e2, s1, k1⟩, e3⟩ := h
  exact ⟨e0, e1, ⟨A1, n1, p1, e2, s1.keep hk, k1⟩, e3⟩
theorem ChgR.more {w : World} {B B' : Nat} {c0 c1 c2 c3 : Value} {d : ChgD} (h : ChgR w B c0 c1 c2 c3 d) (hB : B ≤ B') : ChgR w B' c0 c1 c2 c3 d := by
  obtain ⟨e0, e1, ⟨A1, n1, p1, e2, s1, k1⟩, e3⟩ := h
  exact ⟨e0, e1, ⟨A1, n1, p1, e2, s1.more hB, k1⟩, e3⟩
theorem ChgR.later {w w' : World} {c0 c1 c2 c3 : Value} {d : ChgD} (h : ChgR w w.heap.size c0 c1 c2 c3 d) (hb : Below w.heap.size w w') : ChgR w' w'.heap.size c0 c1 c2 c3 d :=
  (h.keep fun _ hp => hb.cell hp).more hb.size
def Chgs (w : World) (B : Nat) (A : Option Addr) (n : Nat) (fs : List ChgD) : Prop :=
  fs.length = n ∧ (0 < n → ∃ b o, A = some ⟨b, o, none⟩ ∧ b < B ∧ ∀ j, j < n → ∃ c0 c1 c2 c3, w.cell? ⟨b, o + j * 4, none⟩ = some c0 ∧ w.cell? ⟨b, o + j * 4 + 1, none⟩ = some c1 ∧ w.cell? ⟨b, o + j * 4 + 2, none⟩ = some c2 ∧ w.cell? ⟨b, o + j * 4 + 3, none⟩ = some c3 ∧ ChgR w B c0 c1 c2 c3 (fs.getD j default))
section
variable {w w' : World} {B B' n : Nat} {A : Option Addr} {fs : List ChgD}
theorem Chgs.keep (h : Chgs w B A n fs) (hk : ∀ p : Addr, p.block < B → w'.cell? p = w.cell? p) : Chgs w' B A n fs :=
  ⟨h.1, fun hn => by
    obtain ⟨b, o, e, hb, hc⟩ := h.2 hn
    refine ⟨b, o, e, hb, fun j hj => ?_⟩
    obtain ⟨c0, c1, c2, c3, h0, h1, h2, h3, hr⟩ := hc j hj
    exact ⟨c0, c1, c2, c3, (hk _ hb).trans h0, (hk _ hb).trans h1, (hk _ hb).trans h2, (hk _ hb).trans h3, hr.keep hk⟩⟩
theorem Chgs.more (h : Chgs w B A n fs) (hB : B ≤ B') : Chgs w B' A n fs :=
  ⟨h.1, fun hn => by
    obtain ⟨b, o, e, hb, hc⟩ := h.2 hn
    refine ⟨b, o, e, by omega, fun j hj => ?_⟩
    obtain ⟨c0, c1, c2, c3, h0, h1, h2, h3, hr⟩ := hc j hj
    exact ⟨c0, c1, c2, c3, h0, h1, h2, h3, hr.more hB⟩⟩
theorem Chgs.later (h : Chgs w w.heap.size A n fs) (hb : Below w.heap.size w w') : Chgs w' w'.heap.size A n fs := (h.keep fun _ hp => hb.cell hp).more hb.size
end
def ChgD.small (d : ChgD) : Prop := d.name.size ≤ 1048576 ∧ (d.subs.length ≤ 1048576 ∧ ∀ s ∈ d.subs, s.size ≤ 1048576) ∧ d.val.size ≤ 1048576

/-- Rows of the call's own that read as nodes, as changes. -/
def NodesO (w : World) (base : Nat) (v : Value) (fs : List NodeD) : Prop := ∃ vs, Own.OwnL nodeK w base 83 v fs vs
def chgK : Own.Kind ChgD := ⟨4, fun d v => [.int .i64 d.kind, .string d.name, v, .string d.val], fun d => d.subs, fun _ _ => rfl, by decide⟩
def ChgsO (w : World) (base : Nat) (v : Value) (fs : List ChgD) : Prop := ∃ vs, Own.OwnL chgK w base 88 v fs vs
theorem infoChgD : (Tryz.prog.info? 88).map (fun i => (i.zero, i.size, i.bytes)) = some (some (.agg #[.int .i64 0, .string .empty, .slice none 0 0, .string .empty]), 4, 64) := by kernel_rfl
theorem NodesO.later {w w' : World} {base : Nat} {v : Value} {fs : List NodeD} (h : NodesO w base v fs) (hb : Below w.heap.size w w') : NodesO w' base v fs := by
  obtain ⟨vs, h1⟩ := h
  exact ⟨vs, h1.later hb⟩
theorem ChgsO.later {w w' : World} {base : Nat} {v : Value} {fs : List ChgD} (h : ChgsO w base v fs) (hb : Below w.heap.size w w') : ChgsO w' base v fs := by
  obtain ⟨vs, h1⟩ := h
  exact ⟨vs, h1.later hb⟩
theorem NodesO.base {w : World} {base base' : Nat} {v : Value} {fs : List NodeD} (h : NodesO w base' v fs) (hb : base ≤ base') : NodesO w base v fs := by
  obtain ⟨vs, h1⟩ := h
  exact ⟨vs, h1.base hb⟩
theorem ChgsO.base {w : World} {base base' : Nat} {v : Value} {fs : List ChgD} (h : ChgsO w base' v fs) (hb : base ≤ base') : ChgsO w base v fs := by
  obtain ⟨vs, h1⟩ := h
  exact ⟨vs, h1.base hb⟩
theorem NodesO.reads {w : World} {base : Nat} {v : Value} {fs : List NodeD} (h : NodesO w base v fs) : ∃ A cap, v = .slice A fs.length cap ∧ fs.length ≤ cap ∧ Nodes w w.heap.size A fs.length fs := by
  obtain ⟨vs, h1⟩ := h
  exact OwnL.Nodes h1
theorem ChgsO.reads {w : World} {base : Nat} {v : Value} {fs : List ChgD} (h : ChgsO w base v fs) : ∃ A cap, v = .slice A fs.length cap ∧ fs.length ≤ cap ∧ Chgs w w.heap.size A fs.length fs := by
  obtain ⟨vs, h⟩ := h
  obtain ⟨A, cap, rfl, hc, _, hA⟩ := Own.own_slice h.row
  refine ⟨A, cap, rfl, hc, rfl, fun hn => ?_⟩
  obtain ⟨g, rfl, hg, _⟩ := hA hn
  refine ⟨g, 0, rfl, hg, fun j hj => ?_⟩
  have h0 := h.cellAt rfl j 0 hj (by decide)
  have h1 := h.cellAt rfl j 1 hj (by decide)
  have h2 := h.cellAt rfl j 2 hj (by decide)
  have h3 := h.cellAt rfl j 3 hj (by decide)
  obtain ⟨A1, cap1, e1, hc1, hs1⟩ := (h.subs j hj).strs
  refine ⟨_, _, _, _, by rw [Nat.zero_add]; exact h0, by rw [Nat.zero_add]; exact h1, by rw [Nat.zero_add]; exact h2, by rw [Nat.zero_add]; exact h3, rfl, rfl, ⟨A1, _, cap1, e1, hs1, hc1⟩, rfl⟩
theorem nodesO_lit (w : World) (base : Nat) (h : base ≤ w.heap.size) : NodesO (w.alloc (.cells #[] 83)) base (.slice (some ⟨w.heap.size, 0, none⟩) 0 0) [] :=
  ⟨[], rfl, World.ownsRow_lit (e := 83) (size := 3) w #[] 0 h (by omega) rfl, fun j hj => by simp at hj, List.Pairwise.nil⟩
theorem nodesO_nil (w : World) (base : Nat) : NodesO w base (.slice none 0 0) [] := ⟨[], Own.OwnL.nil _ _ _⟩
theorem chgsO_lit (w : World) (base : Nat) (h : base ≤ w.heap.size) : ChgsO (w.alloc (.cells #[] 88)) base (.slice (some ⟨w.heap.size, 0, none⟩) 0 0) [] :=
  ⟨[], rfl, World.ownsRow_lit (e := 88) (size := 4) w #[] 0 h (by omega) rfl, fun j hj => by simp at hj, List.Pairwise.nil⟩
theorem chgsO_nil (w : World) (base : Nat) : ChgsO w base (.slice none 0 0) [] := ⟨[], Own.OwnL.nil _ _ _⟩
def NodesOnly (fs : List NodeD) (w : World) (e : Ending) (w' : World) : Prop := ∃ v, e = .returned v ∧ NodesO w' w.heap.size v fs ∧ Below w.heap.size w w'
theorem CellsG.append {α : Type} {sz : Nat} {R : List Value → α → Prop} : ∀ {fs gs : List α} {cs ds : List Value}, CellsG sz R fs cs → CellsG sz R gs ds → CellsG sz R (fs ++ gs) (cs ++ ds)
  | [], gs, cs, ds, h, h' => by
    have h : cs = [] := h
    subst h
    exact h'
  | f :: r, gs, cs, ds, h, h' => by
    obtain ⟨c, cs', rfl, hl, hd, hr⟩ := h
    exact ⟨c, cs' ++ ds, by rw [List.append_assoc], hl, hd, CellsG.append hr h'⟩
theorem CellsG.drop {α : Type} {sz : Nat} {R : List Value → α → Prop} : ∀ {fs : List α} {cs : List Value} (k : Nat), CellsG sz R fs cs → CellsG sz R (fs.drop k) (cs.drop (k * sz))
  | [], cs, k, h => by
    have h : cs = [] := h
    subst h
    simp [CellsG]
  | d :: r, cs, 0, h => by simpa using h
  | d :: r, cs, k + 1, h => by
    obtain ⟨c, cs', rfl, hl, hd, hr⟩ := h
    rw [show (k + 1) * sz = c.length + k * sz by rw [hl, Nat.add_mul]; omega, List.drop_length_add_append, List.drop_succ_cons]
    exact CellsG.drop k hr
/-- A tree, with a code; a list of changes, with a code: in memory of the call's own. -/
def TreePost (r : Int × List NodeD) (w : World) (e : Ending) (w' : World) : Prop := ∃ v, e = .returned (.tuple #[.agg #[v], .int .i64 r.1]) ∧ NodesO w' w.heap.size v r.2 ∧ Below w.heap.size w w'
def ChgsPost (r : Int × List ChgD) (w : World) (e : Ending) (w' : World) : Prop := ∃ v, e = .returned (.tuple #[v, .int .i64 r.1]) ∧ ChgsO w' w.heap.size v r.2 ∧ Below w.heap.size w w'
def TreeOnly (fs : List NodeD) (w : World) (e : Ending) (w' : World) : Prop := ∃ v, e = .returned (.agg #[v]) ∧ NodesO w' w.heap.size v fs ∧ Below w.heap.size w w'
def ChgsOnly (cs : List ChgD) (w : World) (e : Ending) (w' : World) : Prop := ∃ v, e = .returned v ∧ ChgsO w' w.heap.size v cs ∧ Below w.heap.size w w'
end Go.Proofs.YtfpcjhajjejpdaaGreatDoor
namespace Go.Proofs.YtfpcjhajjejpdaaGreatDoor
open Go.RowKit Go.Proofs.YtfpcjhajjejpdaaGreatDoor.Own

theorem Blk.at {w : World} {g : Nat} {t : TypeId} {cs : Array Value} (h : Blk w g t cs) (i : Nat) {v : Value} (hv : cs[i]? = some v) : w.cell? ⟨g, i, none⟩ = some v := (h.cell i).trans hv
end Go.Proofs.YtfpcjhajjejpdaaGreatDoor
namespace Go.Proofs.YtfpcjhajjejpdaaGreatDoor
open Go.RowKit

/-- The pieces of a text between marks. -/
def cutL (c : UInt8) : List UInt8 → List (List UInt8)
  | [] => [[]]
  | b :: l => if b = c then [] :: cutL c l else match cutL c l with
    | [] => [[b]]
    | h :: t => (b :: h) :: t
theorem cutL_ne (c : UInt8) : ∀ l, cutL c l ≠ []
  | [] => by simp [cutL]
  | b :: l => by
    unfold cutL
    split
    · simp
    · split <;> simp
theorem cutL_free (c : UInt8) : ∀ (a : List UInt8), c ∉ a → cutL c a = [a]
  | [], _ => rfl
  | b :: l, h => by
    have ih := cutL_free c l (fun e => h (List.mem_cons_of_mem _ e))
    unfold cutL
    rw [if_neg (fun e => h (by rw [e]; exact List.mem_cons_self)), ih]
theorem cutL_mark (c : UInt8) : ∀ (a b : List UInt8), c ∉ a → cutL c (a ++ c :: b) = a :: cutL c b
  | [], b, _ => by simp [cutL]
  | x :: a, b, h => by
    have ih := cutL_mark c a b (fun e => h (List.mem_cons_of_mem _ e))
    rw [List.cons_append]
    conv => lhs; unfold cutL
    rw [if_neg (fun e => h (by rw [e]; exact List.mem_cons_self)), ih]
theorem split_cut (c : UInt8) : ∀ l, Lib.split l [c] = cutL c l
  | [] => by simp [Lib.split, Lib.count_miss (s := []) (sub := [c]) (by simp [Lib.index]), Lib.splitK, cutL]
  | b :: l => by
    have ih := split_cut c l
    unfold Lib.split at ih ⊢
    by_cases hb : b = c
    · subst hb
      rw [Lib.count_cons_eq, Nat.add_comm, Lib.splitK]
      have hix : Lib.index (b :: l) [b] = 0 := by rw [Lib.index]; simp [List.isPrefixOf]
      rw [hix]
      simp only [show ((0 : Int) == -1) = false from rfl, Bool.false_eq_true, if_false]
      unfold cutL
      rw [if_pos rfl, ← ih]
      simp
    · rw [Lib.count_cons_ne b c l hb]
      have hp : ([c] : List UInt8).isPrefixOf (b :: l) = false := by simp [List.isPrefixOf, Ne.symm hb]
      have hix : Lib.index (b :: l) [c] = if Lib.index l [c] == -1 then -1 else Lib.index l [c] + 1 := by rw [Lib.index, hp]; simp
      unfold cutL
      rw [if_neg hb]
      by_cases hm : Lib.index l [c] = -1
      · rw [Lib.count_miss hm] at ih ⊢
        rw [Lib.splitK] at ih ⊢
        rw [← ih]
      · have hge := Lib.index_ge l [c]
        obtain ⟨j, hj⟩ : ∃ j : Nat, Lib.index l [c] = j := ⟨(Lib.index l [c]).toNat, by omega⟩
        rw [Lib.count_hit (by simp) hj, Nat.add_comm] at ih ⊢
        rw [Lib.splitK] at ih ⊢
        rw [hix, hj]
        rw [hj] at ih
        have h1 : ((j : Int) == -1) = false := by rw [beq_eq_false_iff_ne]; omega
        have h2 : ((j : Int) + 1 == -1) = false := by rw [beq_eq_false_iff_ne]; omega
        simp only [h1, h2, Bool.false_eq_true, if_false] at ih ⊢
        rw [← ih]
        have h3 : ((j : Int) + 1).toNat = j + 1 := by omega
        simp [h3]
theorem join_cons2 (x y : List UInt8) (r : List (List UInt8)) (s : List UInt8) : Lib.join (x :: y :: r) s = x ++ s ++ Lib.join (y :: r) s := by
  simp [Lib.join, List.intercalate]
theorem join_oneL (x s : List UInt8) : Lib.join [x] s = x := by simp [Lib.join, List.intercalate]
theorem join_cut (c : UInt8) : ∀ l, Lib.join (cutL c l) [c] = l
  | [] => by simp [cutL, join_oneL]
  | b :: l => by
    have ih := join_cut c l
    unfold cutL
    by_cases hb : b = c
    · subst hb
      rw [if_pos rfl]
      match h : cutL b l, ih with
      | [], _ => exact absurd h (cutL_ne b l)
      | x :: r, ih => rw [join_cons2, ih]; rfl
    · rw [if_neg hb]
      match h : cutL c l, ih with
      | [], _ => exact absurd h (cutL_ne c l)
      | [x], ih =>
        rw [join_oneL] at ih
        simp only [join_oneL]
        rw [ih]
      | x :: y :: r, ih =>
        rw [join_cons2] at ih
        simp only [join_cons2]
        rw [← ih]
        simp
/-- The pieces of a text between marks, as texts. -/
def cutS (c : UInt8) (s : ByteArray) : List ByteArray := (cutL c s.data.toList).map fun l => ⟨l.toArray⟩
theorem map_mk {l : List ByteArray} {k : List (List UInt8)} (h : l.map (·.data.toList) = k) : l = k.map fun x => ⟨x.toArray⟩ := by
  subst h
  rw [List.map_map]
  have : ((fun x : List UInt8 => (⟨x.toArray⟩ : ByteArray)) ∘ fun x : ByteArray => x.data.toList) = id := by
    funext x
    cases x
    rfl
  rw [this, List.map_id]
theorem split_cutS (c : UInt8) (s : ByteArray) : Lib.splitB ⟨#[c]⟩ 0 (Lib.countB s ⟨#[c]⟩) s = cutS c s := by
  apply map_mk
  rw [Lib.splitB_data]
  exact split_cut c s.data.toList
theorem cutS_join (c : UInt8) (s : ByteArray) : Lib.join ((cutS c s).map (·.data.toList)) [c] = s.data.toList := by
  unfold cutS
  rw [List.map_map]
  have : ((fun x : ByteArray => x.data.toList) ∘ fun l : List UInt8 => (⟨l.toArray⟩ : ByteArray)) = id := by
    funext x
    rfl
  rw [this, List.map_id, join_cut]
theorem cutL_len (c : UInt8) : ∀ l, (cutL c l).length ≤ l.length + 1
  | [] => by simp [cutL]
  | b :: l => by
    have ih := cutL_len c l
    unfold cutL
    split
    · simpa using ih
    · split
      · simp
      · rename_i h t e
        rw [e] at ih
        simp at ih ⊢
        omega
theorem cutL_small (c : UInt8) : ∀ l, ∀ x ∈ cutL c l, x.length ≤ l.length
  | [], x, hx => by simp [cutL] at hx; subst hx; simp
  | b :: l, x, hx => by
    have ih := cutL_small c l
    unfold cutL at hx
    split at hx
    · simp only [List.mem_cons] at hx
      rcases hx with rfl | hx
      · simp
      · have := ih x hx
        simp; omega
    · split at hx
      · simp at hx; subst hx; simp
      · rename_i h t e
        rw [e] at ih
        simp only [List.mem_cons] at hx
        rcases hx with rfl | hx
        · have := ih h (by simp)
          simpa using this
        · have := ih x (by simp [hx])
          simp; omega
end Go.Proofs.YtfpcjhajjejpdaaGreatDoor
namespace Go.Proofs.YtfpcjhajjejpdaaGreatDoor
open Go.RowKit

theorem cut_piece (s : ByteArray) (f k : Nat) : s.extract f k = ⟨((s.data.toList.drop f).take (k - f)).toArray⟩ := by
  have h : (s.extract f k).data.toList = (s.data.toList.drop f).take (k - f) := by
    rw [ByteArray.data_extract, Array.toList_extract, List.extract_eq_take_drop]
  apply bytes_ext
  rw [toList_data, h, toList_data]
/-- The state of l29Cut: the pieces done, the rest from f on, no mark from f up to k. -/
structure CutI (c : UInt8) (l : List UInt8) (k f : Nat) (done : List ByteArray) : Prop where
  fk : f ≤ k
  kl : k ≤ l.length
  eq : (cutL c l).map (fun x => (⟨x.toArray⟩ : ByteArray)) = done ++ (cutL c (l.drop f)).map (fun x => ⟨x.toArray⟩)
  free : c ∉ (l.drop f).take (k - f)
theorem CutI.start (c : UInt8) (l : List UInt8) : CutI c l 0 0 [] := ⟨Nat.le_refl _, Nat.zero_le _, by simp, by simp⟩
theorem CutI.skip {c : UInt8} {l : List UInt8} {k f : Nat} {done : List ByteArray} (h : CutI c l k f done) (hk : k < l.length) (hc : l[k] ≠ c) : CutI c l (k + 1) f done := by
  have h1 := h.fk
  refine ⟨by omega, by omega, h.eq, ?_⟩
  rw [show k + 1 - f = (k - f) + 1 by omega, List.take_succ_eq_append_getElem (by rw [List.length_drop]; omega)]
  rw [List.mem_append, List.mem_singleton]
  rintro (h2 | h2)
  · exact h.free h2
  · apply hc
    rw [List.getElem_drop] at h2
    rw [h2]
    congr 1
    omega
theorem CutI.hit {l : List UInt8} {s : ByteArray} {k f : Nat} {done : List ByteArray} {c : UInt8} (hs : s.data.toList = l) (h : CutI c l k f done) (hk : k < l.length) (hc : l[k] = c) : CutI c l (k + 1) (k + 1) (done ++ [s.extract f k]) := by
  have h1 := h.fk
  refine ⟨Nat.le_refl _, by omega, ?_, by simp⟩
  have hd : l.drop f = (l.drop f).take (k - f) ++ c :: l.drop (k + 1) := by
    have := List.take_append_drop (k - f) (l.drop f)
    rw [List.drop_drop, show f + (k - f) = k by omega, List.drop_eq_getElem_cons hk, hc] at this
    exact this.symm
  rw [h.eq, hd, cutL_mark _ _ _ h.free, List.map_cons, List.append_assoc, List.singleton_append, cut_piece, hs]
theorem CutI.last {l : List UInt8} {s : ByteArray} {f : Nat} {done : List ByteArray} {c : UInt8} (hs : s.data.toList = l) (h : CutI c l l.length f done) : cutS c s = done ++ [s.extract f l.length] := by
  have h1 := h.fk
  unfold cutS
  rw [hs, h.eq]
  have hf := h.free
  rw [List.take_of_length_le (by rw [List.length_drop]; omega)] at hf
  rw [cutL_free _ _ hf, cut_piece, hs, List.take_of_length_le (by rw [List.length_drop]; omega)]
  rfl
set_option maxRecDepth 100000 in
set_option maxHeartbeats 2000000 in
theorem l29Cut_any (s : ByteArray) (w : World) (hs : s.size ≤ 1048576) :
    Calls Tryz.prog 174 #[.string s] w fun e w' => ∃ v, e = .returned v ∧ Own.SubO w' w.heap.size v (cutS 94 s) ∧ Below w.heap.size w w' := by
  obtain ⟨i0, hi, hz0, hz1, hz2⟩ := info_parts infoS
  have hsz : s.data.toList.length = s.size := (Lib.size_eq s).symm
  have HSZ := Lib.hid hsz
  clear hsz
  go_enter Tryz.func174, Tryz.ntmps174
  go_wp2_with fail
  go_loopw [3, 4, 5] (fun v f i wr => ∃ (k fr : Nat) (done : List ByteArray), i = .int .i64 k ∧ f = .int .i64 fr ∧ fr ≤ k ∧ k ≤ s.size + 1 ∧ done.length ≤ k ∧ wr.ownsRow w.heap.size 9 1 v done.length (done.map Value.string) ∧ Below w.heap.size w wr ∧ Hid ((k ≤ s.size ∧ CutI 94 s.data.toList k fr done) ∨ (k = s.size + 1 ∧ cutS 94 s = done))) (fun _ _ i _ => s.size + 1 - (intOf i).toNat)
  case atStart =>
    refine ⟨0, 0, [], rfl, rfl, Nat.le_refl _, Nat.zero_le _, Nat.le_refl _, ?_, Below.new _ _, .inl ⟨Nat.zero_le _, CutI.start _ _⟩⟩
    simpa using World.ownsRow_lit (e := 9) (size := 1) w #[] 0 (Nat.le_refl _) (by omega) rfl
  case round =>
    obtain ⟨k, f, done, rfl, rfl, hfk, hk, hdl, hown, hb, hI⟩ := hrel
    have HO := Lib.hid hown
    have HB := Lib.hid hb
    clear hown hb
    have hrow : Hid (∀ o, (wr.alloc o).ownsRow w.heap.size 9 1 u3 done.length (done.map Value.string)) := fun o => Own.own_later HO.out (Below.new _ _)
    have hbz := HB.out.size
    by_cases hle : k ≤ s.size
    · have HC : Hid (CutI 94 s.data.toList k f done) := by
        rcases hI.out with h | h
        · exact h.2
        · exact absurd h.1 (by omega)
      clear hI
      by_cases hlt : k < s.size
      · have hkl : k < s.data.toList.length := by rw [HSZ.out]; exact hlt
        have HG : Hid (s.data.toList[k] = s[k]) := rfl
        by_cases h3 : s[k].toNat = 94
        · have HN : Hid (CutI 94 s.data.toList (k + 1) (k + 1) (done ++ [s.extract f k])) := HC.out.hit rfl hkl (by rw [HG.out]; exact UInt8.toNat_inj.1 h3)
          have hb3 : ((s[k].toNat : Int) == 94) = true := by rw [beq_iff_eq]; omega
          have hb4 : (s[k].toNat == 94) = true := by rw [beq_iff_eq]; omega
          have hne : ((k : Int) == (s.size : Int)) = false := by rw [beq_eq_false_iff_ne]; omega
          have hne2 : (k == s.size) = false := by rw [beq_eq_false_iff_ne]; omega
          clear h3
          go_wp2_with (at_builtin; refine wpList_append_own _ rfl (.tmp 23) (.tmp 28) 27 rfl w.heap.size 9 i0 _ 1 16 Tryz.underlying27 hi hz0 hz1 hz2 rfl (by decide) _ done.length _ rfl (hrow.out _) ⟨_, 0, none⟩ 1 1 [.string (s.extract f k)] rfl rfl ?c1 ?c2 ?c3 ?c4 ?c5 ?_)
          all_goals try (first | exact cells_atN _ #[.string (s.extract f k)] _ _ (by simp) | (simp [Value.oneCell']; done) | (unfold maxLen; omega) | omega | (simp; omega))
          intro v1 w2 hown1 hg1 _
          have HO3 : Hid (w2.ownsRow w.heap.size 9 1 v1 (done ++ [s.extract f k]).length ((done ++ [s.extract f k]).map Value.string)) := by
            unfold Hid
            rw [List.length_append, List.length_singleton, List.map_append]
            exact hown1
          have HB3 := Lib.hid (below_own (HB.out.later (Below.new wr _)) (hrow.out _) (Nat.le_refl _) hg1)
          clear hown1 hg1
          go_wp2_with fail
          go_roundw
          case rel => exact ⟨k + 1, k + 1, _, by go_num, by go_num, by omega, by omega, (by first | (simp; done) | (simp; omega)), HO3.out, HB3.out, .inl ⟨by omega, HN.out⟩⟩
          case measure => simp [intOf]; omega
        · have HN : Hid (CutI 94 s.data.toList (k + 1) f done) := HC.out.skip hkl (by rw [HG.out]; intro e; exact h3 (by rw [e]; rfl))
          have hb3 : ((s[k].toNat : Int) == 94) = false := by rw [beq_eq_false_iff_ne]; omega
          have hb4 : (s[k].toNat == 94) = false := by rw [beq_eq_false_iff_ne]; omega
          have hne : ((k : Int) == (s.size : Int)) = false := by rw [beq_eq_false_iff_ne]; omega
          have hne2 : (k == s.size) = false := by rw [beq_eq_false_iff_ne]; omega
          clear h3
          go_wp2_with fail
          go_roundw
          case rel => exact ⟨k + 1, f, done, by go_num, rfl, by omega, by omega, by omega, HO.out, HB.out, .inl ⟨by omega, HN.out⟩⟩
          case measure => simp [intOf]; omega
      · obtain rfl : k = s.size := by omega
        have HN : Hid (cutS 94 s = done ++ [s.extract f s.size]) := by
          have h := HC.out
          have e := HSZ.out
          have h2 : CutI 94 s.data.toList s.data.toList.length f done := by rw [e]; exact h
          have h3 := h2.last rfl
          rw [e] at h3
          exact h3
        go_wp2_with (at_builtin; refine wpList_append_own _ rfl (.tmp 23) (.tmp 28) 27 rfl w.heap.size 9 i0 _ 1 16 Tryz.underlying27 hi hz0 hz1 hz2 rfl (by decide) _ done.length _ rfl (hrow.out _) ⟨_, 0, none⟩ 1 1 [.string (s.extract f s.size)] rfl rfl ?d1 ?d2 ?d3 ?d4 ?d5 ?_)
        all_goals try (first | exact cells_atN _ #[.string (s.extract f s.size)] _ _ (by simp) | (simp [Value.oneCell']; done) | (unfold maxLen; omega) | omega | (simp; omega))
        intro v1 w2 hown1 hg1 _
        have HO3 : Hid (w2.ownsRow w.heap.size 9 1 v1 (done ++ [s.extract f s.size]).length ((done ++ [s.extract f s.size]).map Value.string)) := by
          unfold Hid
          rw [List.length_append, List.length_singleton, List.map_append]
          exact hown1
        have HB3 := Lib.hid (below_own (HB.out.later (Below.new wr _)) (hrow.out _) (Nat.le_refl _) hg1)
        clear hown1 hg1
        go_wp2_with fail
        go_roundw
        case rel => exact ⟨s.size + 1, s.size + 1, _, by go_num, by go_num, by omega, by omega, (by first | (simp; done) | (simp; omega)), HO3.out, HB3.out, .inr ⟨rfl, HN.out⟩⟩
        case measure => first | (simp [intOf]; done) | (simp [intOf]; omega)
    · have HE : Hid (cutS 94 s = done) := by
        rcases hI.out with h | h
        · exact absurd h.1 hle
        · exact h.2
      go_wp2_with fail
      go_ret
      refine ⟨_, rfl, ?_, HB.out⟩
      rw [HE.out]
      exact HO.out
end Go.Proofs.YtfpcjhajjejpdaaGreatDoor
