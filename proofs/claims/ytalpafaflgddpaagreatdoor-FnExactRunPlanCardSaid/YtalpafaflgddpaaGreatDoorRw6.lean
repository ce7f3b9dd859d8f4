/-
  Plain laws of texts that are cut at a mark: strings.Split at one byte, strings.Join of the pieces. Stable sorting, plainly: stable merge, sorting by insertion, and how a merge splits in two. Stable sorting, plainly: rows as functions of the place; what the steps of slices.SortStableFunc make of them. Stable sorting, plainly: how the parts of a symmetric merge join. Rows of items as cells; rows of the call's own cut short and cleared; what slices.DeleteFunc keeps. Nodes of the program: slices.Clone and slices.DeleteFunc at nodes. Row nodes of the program: what isRowNode, rowNodes and its closure make: just the reference's list. Plans of the reference: what PlanCost computes. (Printed by gen_pc3.py.) The copies that the laws make of struct types, in the form in which the walks take them: a reading relation. Rows of the reference: what l29Cut makes, and what l29Row and CondTrue compute. Rows of the reference: what l29Row, Before and CondTrue compute. Rows of the reference: what l29Unpack makes. Rows of the reference: what l29Rows makes. Queries of the reference: what l30Stays computes. Queries of the reference: what l30Put makes: the row behind all that do not stand behind it. (Printed by gen_rw6.py.)
-/
import Derived.Test.YtalpafaflgddpaaGreatDoorWords
import Derived.Lib.SplitLaws
import Derived.Lib.Join
import Derived.Test.YtalpafaflgddpaaGreatDoorNd1
import Derived.Test.YtalpafaflgddpaaGreatDoorPi2
import Derived.Lib.SliceRun
import Derived.Laws.CopyRow
import Derived.Laws.CopyOwn
import Derived.Test.YtalpafaflgddpaaGreatDoorNd2
import Derived.Test.YtalpafaflgddpaaGreatDoorQr3
import Derived.Test.YtalpafaflgddpaaGreatDoorNd3
import Derived.Test.YtalpafaflgddpaaGreatDoorDtTo
import Derived.Test.YtalpafaflgddpaaGreatDoorDtEq
import Derived.Test.YtalpafaflgddpaaGreatDoorTb1
import Derived.Deep.AppendLies
import Derived.Deep.RegionHeld3
namespace Go.Proofs.YtalpafaflgddpaaGreatDoor
open Go.RowKit

/-- The pieces of a text between marks. -/
def cutL (c : UInt8) : List UInt8 → List (List UInt8)
  | [] => [[]]
  | b :: l => if b = c then [] :: cutL c l else match cutL c l with
    | [] => [[b]]
    | h :: t => (b :: h) :: t
theorem cutL_ne (c : UInt8) : ∀ l, cutL c l ≠ []
  | [] => by simp [cutL]
  | b :: l => by
    unfold cutL
    split
    · simp
    · split <;> simp
theorem cutL_free (c : UInt8) : ∀ (a : List UInt8), c ∉ a → cutL c a = [a]
  | [], _ => rfl
  | b :: l, h => by
    have ih := cutL_free c l (fun e => h (List.mem_cons_of_mem _ e))
    unfold cutL
    rw [if_neg (fun e => h (by rw [e]; exact List.mem_cons_self)), ih]
theorem cutL_mark (c : UInt8) : ∀ (a b : List UInt8), c ∉ a → cutL c (a ++ c :: b) = a :: cutL c b
  | [], b, _ => by simp [cutL]
  | x :: a, b, h => by
    have ih := cutL_mark c a b (fun e => h (List.mem_cons_of_mem _ e))
    rw [List.cons_append]
    conv => lhs; unfold cutL
    rw [if_neg (fun e => h (by rw [e]; exact List.mem_cons_self)), ih]
theorem split_cut (c : UInt8) : ∀ l, Lib.split l [c] = cutL c l
  | [] => by simp [Lib.split, Lib.count_miss (s := []) (sub := [c]) (by simp [Lib.index]), Lib.splitK, cutL]
  | b :: l => by
    have ih := split_cut c l
    unfold Lib.split at ih ⊢
    by_cases hb : b = c
    · subst hb
      rw [Lib.count_cons_eq, Nat.add_comm, Lib.splitK]
      have hix : Lib.index (b :: l) [b] = 0 := by rw [Lib.index]; simp [List.isPrefixOf]
      rw [hix]
      simp only [show ((0 : Int) == -1) = false from rfl, Bool.false_eq_true, if_false]
      unfold cutL
      rw [if_pos rfl, ← ih]
      simp
    · rw [Lib.count_cons_ne b c l hb]
      have hp : ([c] : List UInt8).isPrefixOf (b :: l) = false := by simp [List.isPrefixOf, Ne.symm hb]
      have hix : Lib.index (b :: l) [c] = if Lib.index l [c] == -1 then -1 else Lib.index l [c] + 1 := by rw [Lib.index, hp]; simp
      unfold cutL
      rw [if_neg hb]
      by_cases hm : Lib.index l [c] = -1
      · rw [Lib.count_miss hm] at ih ⊢
        rw [Lib.splitK] at ih ⊢
        rw [← ih]
      · have hge := Lib.index_ge l [c]
        obtain ⟨j, hj⟩ : ∃ j : Nat, Lib.index l [c] = j := ⟨(Lib.index l [c]).toNat, by omega⟩
        rw [Lib.count_hit (by simp) hj, Nat.add_comm] at ih ⊢
        rw [Lib.splitK] at ih ⊢
        rw [hix, hj]
        rw [hj] at ih
        have h1 : ((j : Int) == -1) = false := by rw [beq_eq_false_iff_ne]; omega
        have h2 : ((j : Int) + 1 == -1) = false := by rw [beq_eq_false_iff_ne]; omega
        simp only [h1, h2, Bool.false_eq_true, if_false] at ih ⊢
        rw [← ih]
        have h3 : ((j : Int) + 1).toNat = j + 1 := by omega
        simp [h3]
theorem join_cons2 (x y : List UInt8) (r : List (List UInt8)) (s : List UInt8) : Lib.join (x :: y :: r) s = x ++ s ++ Lib.join (y :: r) s := by
  simp [Lib.join, List.intercalate]
theorem join_oneL (x s : List UInt8) : Lib.join [x] s = x := by simp [Lib.join, List.intercalate]
theorem join_cut (c : UInt8) : ∀ l, Lib.join (cutL c l) [c] = l
  | [] => by simp [cutL, join_oneL]
  | b :: l => by
    have ih := join_cut c l
    unfold cutL
    by_cases hb : b = c
    · subst hb
      rw [if_pos rfl]
      match h : cutL b l, ih with
      | [], _ => exact absurd h (cutL_ne b l)
      | x :: r, ih => rw [join_cons2, ih]; rfl
    · rw [if_neg hb]
      match h : cutL c l, ih with
      | [], _ => exact absurd h (cutL_ne c l)
      | [x], ih =>
        rw [join_oneL] at ih
        simp only [join_oneL]
        rw [ih]
      | x :: y :: r, ih =>
        rw [join_cons2] at ih
        simp only [join_cons2]
        rw [← ih]
        simp
/-- The pieces of a text between marks, as texts. -/
def cutS (c : UInt8) (s : ByteArray) : List ByteArray := (cutL c s.data.toList).map fun l => ⟨l.toArray⟩
theorem map_mk {l : List ByteArray} {k : List (List UInt8)} (h : l.map (·.data.toList) = k) : l = k.map fun x => ⟨x.toArray⟩ := by
  subst h
  rw [List.map_map]
  have : ((fun x : List UInt8 => (⟨x.toArray⟩ : ByteArray)) ∘ fun x : ByteArray => x.data.toList) = id := by
    funext x
    cases x
    rfl
  rw [this, List.map_id]
theorem split_cutS (c : UInt8) (s : ByteArray) : Lib.splitB ⟨#[c]⟩ 0 (Lib.countB s ⟨#[c]⟩) s = cutS c s := by
  apply map_mk
  rw [Lib.splitB_data]
  exact split_cut c s.data.toList
theorem cutS_join (c : UInt8) (s : ByteArray) : Lib.join ((cutS c s).map (·.data.toList)) [c] = s.data.toList := by
  unfold cutS
  rw [List.map_map]
  have : ((fun x : ByteArray => x.data.toList) ∘ fun l : List UInt8 => (⟨l.toArray⟩ : ByteArray)) = id := by
    funext x
    rfl
  rw [this, List.map_id, join_cut]
theorem cutL_len (c : UInt8) : ∀ l, (cutL c l).length ≤ l.length + 1
  | [] => by simp [cutL]
  | b :: l => by
    have ih := cutL_len c l
    unfold cutL
    split
    · simpa using ih
    · split
      · simp
      · rename_i h t e
        rw [e] at ih
        simp at ih ⊢
        omega
theorem cutL_small (c : UInt8) : ∀ l, ∀ x ∈ cutL c l, x.length ≤ l.length
  | [], x, hx => by simp [cutL] at hx; subst hx; simp
  | b :: l, x, hx => by
    have ih := cutL_small c l
    unfold cutL at hx
    split at hx
    · simp only [List.mem_cons] at hx
      rcases hx with rfl | hx
      · simp
      · have := ih x hx
        simp; omega
    · split at hx
      · simp at hx; subst hx; simp
      · rename_i h t e
        rw [e] at ih
        simp only [List.mem_cons] at hx
        rcases hx with rfl | hx
        · have := ih h (by simp)
          simpa using this
        · have := ih x (by simp [hx])
          simp; omega
end Go.Proofs.YtalpafaflgddpaaGreatDoor

namespace Go.Proofs.YtalpafaflgddpaaGreatDoor.Stab

/-- A strict weak order. -/
structure Weak {α : Type} (lt : α → α → Bool) : Prop where
  irr : ∀ a, lt a a = false
  trans : ∀ a b c, lt a b = true → lt b c = true → lt a c = true
  neg : ∀ a b c, lt a b = false → lt b c = false → lt a c = false
section
variable {α : Type} {lt : α → α → Bool}
def Srt (lt : α → α → Bool) (l : List α) : Prop := l.Pairwise fun a b => lt b a = false
/-- Stable merge: of two equal ones that of the left list stands ahead. -/
def mrg (lt : α → α → Bool) (xs ys : List α) : List α := xs.merge ys fun x y => !lt y x
theorem mrg_nil_left (ys : List α) : mrg lt [] ys = ys := by simp [mrg]
theorem mrg_nil_right (xs : List α) : mrg lt xs [] = xs := by simp [mrg]
theorem mrg_cons (x y : α) (xs ys : List α) : mrg lt (x :: xs) (y :: ys) = if lt y x = true then y :: mrg lt (x :: xs) ys else x :: mrg lt xs (y :: ys) := by
  unfold mrg
  rw [List.cons_merge_cons]
  cases lt y x <;> rfl
theorem mrg_len : ∀ (xs ys : List α), (mrg lt xs ys).length = xs.length + ys.length := fun xs ys => by
  unfold mrg
  exact List.length_merge _ _ _
theorem mrg_mem (xs ys : List α) (a : α) : a ∈ mrg lt xs ys ↔ a ∈ xs ∨ a ∈ ys := by
  unfold mrg
  exact List.mem_merge
theorem mrg_srt (h : Weak lt) {xs ys : List α} (hx : Srt lt xs) (hy : Srt lt ys) : Srt lt (mrg lt xs ys) := by
  have := List.pairwise_merge (le := fun x y => !lt y x) (fun a b c h1 h2 => by
    simp only [Bool.not_eq_true'] at *
    exact h.neg c b a h2 h1) (fun a b => by
    cases h1 : lt b a
    · rfl
    · cases h2 : lt a b
      · rfl
      · have := h.trans _ _ _ h1 h2
        rw [h.irr] at this
        cases this) xs ys (hx.imp (fun h => by simpa using h)) (hy.imp (fun h => by simpa using h))
  exact this.imp (fun h => by simpa using h)
/-- A merge splits where all of the left parts stand ahead of all of the right ones. -/
theorem mrg_split : ∀ (u v x y : List α), (∀ b ∈ x, ∀ a ∈ v, lt b a = true) → (∀ a ∈ u, ∀ b ∈ y, lt b a = false) → mrg lt (u ++ v) (x ++ y) = mrg lt u x ++ mrg lt v y
  | [], v, [], y, _, _ => by simp [mrg_nil_left]
  | a :: u, v, [], y, h1, h2 => by
    have ih := mrg_split u v [] y h1 (fun a' ha' => h2 a' (List.mem_cons_of_mem _ ha'))
    simp only [List.nil_append, mrg_nil_right] at ih ⊢
    match y, h2, ih with
    | [], _, _ => simp [mrg_nil_right]
    | b :: y, h2, ih =>
      rw [List.cons_append, mrg_cons, if_neg (by rw [h2 a (by simp) b (by simp)]; simp), ih]
      rfl
  | [], v, b :: x, y, h1, h2 => by
    have ih := mrg_split [] v x y (fun b' hb' => h1 b' (List.mem_cons_of_mem _ hb')) h2
    simp only [List.nil_append, mrg_nil_left] at ih ⊢
    match v, h1, ih with
    | [], _, _ => simp [mrg_nil_left]
    | a :: v, h1, ih =>
      rw [List.cons_append, mrg_cons, if_pos (h1 b (by simp) a (by simp)), ih]
      rfl
  | a :: u, v, b :: x, y, h1, h2 => by
    by_cases h : lt b a = true
    · have ih := mrg_split (a :: u) v x y (fun b' hb' => h1 b' (List.mem_cons_of_mem _ hb')) h2
      simp only [List.cons_append] at ih ⊢
      rw [mrg_cons, mrg_cons, if_pos h, if_pos h, ih]
      rfl
    · have ih := mrg_split u v (b :: x) y h1 (fun a' ha' => h2 a' (List.mem_cons_of_mem _ ha'))
      simp only [List.cons_append] at ih ⊢
      rw [mrg_cons, mrg_cons, if_neg h, if_neg h, ih]
      rfl
theorem mrg_one_at {r : α} {A B : List α} (hA : ∀ x ∈ A, lt r x = false) (hB : ∀ x ∈ B, lt r x = true) : mrg lt (A ++ B) [r] = A ++ r :: B := by
  have h := mrg_split (lt := lt) A B [] [r] (fun b hb => by cases hb) (fun a ha b hb => by rw [List.mem_singleton.1 hb]; exact hA a ha)
  rw [List.nil_append, mrg_nil_right] at h
  rw [h]
  congr 1
  have h' := mrg_split (lt := lt) [] B [r] [] (fun b hb a ha => by rw [List.mem_singleton.1 hb]; exact hB a ha) (fun a ha => by cases ha)
  simpa [mrg_nil_left, mrg_nil_right] using h'
theorem one_mrg_at {r : α} {A B : List α} (hA : ∀ x ∈ A, lt x r = true) (hB : ∀ x ∈ B, lt x r = false) : mrg lt [r] (A ++ B) = A ++ r :: B := by
  have h := mrg_split (lt := lt) [] [r] A B (fun b hb a ha => by rw [List.mem_singleton.1 ha]; exact hA b hb) (fun a ha => by cases ha)
  rw [List.nil_append, mrg_nil_left] at h
  rw [h]
  congr 1
  have h' := mrg_split (lt := lt) [r] [] [] B (fun b hb => by cases hb) (fun a ha b hb => by rw [List.mem_singleton.1 ha]; exact hB b hb)
  simpa [mrg_nil_left, mrg_nil_right] using h'
theorem mrg_assoc1 (h : Weak lt) (r : α) : ∀ (X Y : List α), mrg lt (mrg lt X Y) [r] = mrg lt X (mrg lt Y [r])
  | [], Y => by simp [mrg_nil_left]
  | x :: xs, [] => by simp [mrg_nil_right, mrg_nil_left]
  | x :: xs, y :: ys => by
    by_cases h1 : lt y x = true
    · have ih := mrg_assoc1 h r (x :: xs) ys
      rw [mrg_cons x y, if_pos h1, mrg_cons y r, mrg_cons y r ys]
      by_cases h2 : lt r y = true
      · rw [if_pos h2, if_pos h2, mrg_cons x r, if_pos (h.trans _ _ _ h2 h1), mrg_nil_right, mrg_nil_right, mrg_cons x y, if_pos h1]
      · rw [if_neg h2, if_neg h2, mrg_cons x y, if_pos h1, ih]
    · have ih := mrg_assoc1 h r xs (y :: ys)
      rw [mrg_cons x y, if_neg h1]
      by_cases h2 : lt r y = true
      · by_cases h3 : lt r x = true
        · rw [mrg_cons x r, if_pos h3, mrg_cons y r, if_pos h2, mrg_cons x r, if_pos h3, mrg_nil_right, mrg_nil_right, mrg_cons x y, if_neg h1]
        · rw [mrg_cons x r, if_neg h3, ih, mrg_cons y r, if_pos h2, mrg_cons x r, if_neg h3]
      · have h3 : ¬ lt r x = true := by
          have := h.neg r y x (by simpa using h2) (by simpa using h1)
          rw [this]; simp
        rw [mrg_cons x r, if_neg h3, ih, mrg_cons y r, if_neg h2, mrg_cons x y, if_neg h1]
termination_by X Y => X.length + Y.length
/-- Sorting by insertion behind all that do not stand behind. -/
def srt (lt : α → α → Bool) (l : List α) : List α := l.foldl (fun acc r => mrg lt acc [r]) []
theorem srt_snoc (l : List α) (r : α) : srt lt (l ++ [r]) = mrg lt (srt lt l) [r] := by simp [srt]
theorem srt_srt (h : Weak lt) (l : List α) : Srt lt (srt lt l) := by
  unfold srt
  have : ∀ (l acc : List α), Srt lt acc → Srt lt (l.foldl (fun acc r => mrg lt acc [r]) acc) := by
    intro l
    induction l with
    | nil => exact fun acc h => h
    | cons r l ih => exact fun acc ha => ih _ (mrg_srt h ha (List.pairwise_singleton _ _))
  exact this l [] List.Pairwise.nil
theorem srt_append (h : Weak lt) (A : List α) (B : List α) : srt lt (A ++ B) = mrg lt (srt lt A) (srt lt B) := by
  have : ∀ (B acc Y : List α), B.foldl (fun acc r => mrg lt acc [r]) (mrg lt acc Y) = mrg lt acc (B.foldl (fun acc r => mrg lt acc [r]) Y) := by
    intro B
    induction B with
    | nil => exact fun acc Y => rfl
    | cons r B ih =>
      intro acc Y
      rw [List.foldl_cons, List.foldl_cons, mrg_assoc1 h, ih]
  have h2 := this B (srt lt A) []
  rw [mrg_nil_right] at h2
  unfold srt at h2 ⊢
  rw [List.foldl_append, h2]
theorem srt_len (l : List α) : (srt lt l).length = l.length := by
  have : ∀ (l acc : List α), (l.foldl (fun acc r => mrg lt acc [r]) acc).length = acc.length + l.length := by
    intro l
    induction l with
    | nil => exact fun acc => rfl
    | cons r l ih =>
      intro acc
      rw [List.foldl_cons, ih, mrg_len]
      simp; omega
  simpa [srt] using this l []
theorem srt_mem (l : List α) (a : α) : a ∈ srt lt l ↔ a ∈ l := by
  have : ∀ (l acc : List α), a ∈ l.foldl (fun acc r => mrg lt acc [r]) acc ↔ a ∈ acc ∨ a ∈ l := by
    intro l
    induction l with
    | nil => intro acc; simp
    | cons r l ih =>
      intro acc
      rw [List.foldl_cons, ih, mrg_mem]
      simp [or_assoc]
  simpa [srt] using this l []
end
end Go.Proofs.YtalpafaflgddpaaGreatDoor.Stab

namespace Go.Proofs.YtalpafaflgddpaaGreatDoor.Stab

section
variable {α : Type}
/-- The stretch of a row from a up to b. -/
def seg (d : Nat → α) (a b : Nat) : List α := (List.range' a (b - a)).map d
theorem seg_len (d : Nat → α) (a b : Nat) : (seg d a b).length = b - a := by simp [seg]
theorem seg_nil (d : Nat → α) {a b : Nat} (h : b ≤ a) : seg d a b = [] := by
  unfold seg
  rw [Nat.sub_eq_zero_of_le h]
  rfl
theorem seg_cons (d : Nat → α) {a b : Nat} (h : a < b) : seg d a b = d a :: seg d (a + 1) b := by
  unfold seg
  rw [show b - a = (b - (a + 1)) + 1 by omega, List.range'_succ]
  rfl
theorem seg_at (d : Nat → α) (a b i : Nat) : (seg d a b)[i]? = if i < b - a then some (d (a + i)) else none := by
  unfold seg
  by_cases h : i < b - a
  · rw [if_pos h, List.getElem?_map, List.getElem?_range' h]; simp
  · rw [if_neg h, List.getElem?_eq_none (by simp; omega)]
theorem seg_split (d : Nat → α) {a m b : Nat} (h1 : a ≤ m) (h2 : m ≤ b) : seg d a b = seg d a m ++ seg d m b := by
  apply List.ext_getElem?
  intro i
  rw [List.getElem?_append, seg_at, seg_at, seg_at, seg_len]
  by_cases h : i < m - a
  · rw [if_pos h, if_pos (by omega), if_pos h]
  · rw [if_neg h]
    by_cases h3 : i < b - a
    · rw [if_pos h3, if_pos (by omega)]; congr 2; omega
    · rw [if_neg h3, if_neg (by omega)]
theorem seg_snoc (d : Nat → α) {a b : Nat} (h : a ≤ b) : seg d a (b + 1) = seg d a b ++ [d b] := by
  rw [seg_split d h (Nat.le_succ b), seg_cons d (Nat.lt_succ_self b), seg_nil d (Nat.le_refl _)]
theorem seg_move {d d' : Nat → α} {a a' b b' : Nat} (hl : b - a = b' - a') (h : ∀ t, t < b - a → d (a + t) = d' (a' + t)) : seg d a b = seg d' a' b' := by
  apply List.ext_getElem?
  intro i
  rw [seg_at, seg_at, hl]
  by_cases h3 : i < b' - a'
  · rw [if_pos h3, if_pos h3, h i (by omega)]
  · rw [if_neg h3, if_neg h3]
theorem seg_congr {d d' : Nat → α} {a b : Nat} (h : ∀ t, a ≤ t → t < b → d t = d' t) : seg d a b = seg d' a b := seg_move rfl fun t ht => h _ (by omega) (by omega)
theorem mem_seg {d : Nat → α} {a b : Nat} {x : α} : x ∈ seg d a b ↔ ∃ t, a ≤ t ∧ t < b ∧ d t = x := by
  unfold seg
  rw [List.mem_map]
  constructor
  · rintro ⟨t, ht, rfl⟩
    rw [List.mem_range'_1] at ht
    exact ⟨t, by omega, by omega, rfl⟩
  · rintro ⟨t, h1, h2, rfl⟩
    exact ⟨t, by rw [List.mem_range'_1]; omega, rfl⟩
theorem seg_set (d : Nat → α) {a b i : Nat} (x : α) (h : a + i < b) : (seg d a b).set i x = seg (fun t => if t = a + i then x else d t) a b := by
  apply List.ext_getElem?
  intro j
  rw [List.getElem?_set, seg_at, seg_at, seg_len]
  by_cases e : i = j
  · subst e; rw [if_pos rfl, if_pos (by omega), if_pos (by omega), if_pos rfl]
  · rw [if_neg e]
    by_cases h3 : j < b - a
    · rw [if_pos h3, if_pos h3, if_neg (by omega)]
    · rw [if_neg h3, if_neg h3]
theorem srt_at {lt : α → α → Bool} {d : Nat → α} {a b : Nat} (h : Srt lt (seg d a b)) {i j : Nat} (hi : a ≤ i) (hij : i < j) (hj : j < b) : lt (d j) (d i) = false := by
  unfold Srt at h
  rw [seg_split d (show a ≤ j by omega) (by omega), List.pairwise_append] at h
  exact h.2.2 (d i) (mem_seg.2 ⟨i, hi, hij, rfl⟩) (d j) (mem_seg.2 ⟨j, Nat.le_refl _, hj, rfl⟩)
theorem srt_sub {lt : α → α → Bool} {d : Nat → α} {a b a' b' : Nat} (h : Srt lt (seg d a b)) (h1 : a ≤ a') (h2 : b' ≤ b) : Srt lt (seg d a' b') := by
  rcases Nat.lt_or_ge a' b' with h3 | h3
  · unfold Srt at *
    rw [seg_split d h1 (show a' ≤ b by omega), List.pairwise_append] at h
    have h4 := h.2.1
    rw [seg_split d (show a' ≤ b' by omega) h2, List.pairwise_append] at h4
    exact h4.1
  · rw [seg_nil d h3]
    exact List.Pairwise.nil
def swp (d : Nat → α) (i j : Nat) : Nat → α := fun t => if t = i then d j else if t = j then d i else d t
/-- Outside of a and b nothing changed. -/
def Same (d d' : Nat → α) (a b : Nat) : Prop := ∀ t, ¬ (a ≤ t ∧ t < b) → d' t = d t
/-- The item of place i stands at j ahead of it. -/
def mv (d : Nat → α) (i j : Nat) : Nat → α := fun t => if t = j then d i else if j < t ∧ t ≤ i then d (t - 1) else d t
theorem mv_self (d : Nat → α) (i : Nat) : mv d i i = d := by
  funext t
  unfold mv
  by_cases h : t = i
  · rw [if_pos h, h]
  · rw [if_neg h, if_neg (by omega)]
theorem mv_step (d : Nat → α) {i j : Nat} (h : 0 < j) (hj : j ≤ i) : swp (mv d i j) j (j - 1) = mv d i (j - 1) := by
  funext t
  unfold swp mv
  by_cases h1 : t = j
  · subst h1
    rw [if_pos rfl, if_neg (by omega), if_neg (by omega), if_neg (by omega), if_pos (by omega)]
  · rw [if_neg h1]
    by_cases h2 : t = j - 1
    · subst h2
      rw [if_pos rfl, if_pos rfl, if_pos rfl]
    · rw [if_neg h2, if_neg h1, if_neg h2]
      by_cases h3 : j < t ∧ t ≤ i
      · rw [if_pos h3, if_pos (by omega)]
      · rw [if_neg h3, if_neg (by omega)]
theorem mv_same (d : Nat → α) {a b i j : Nat} (ha : a ≤ j) (hji : j ≤ i) (hb : i < b) : Same d (mv d i j) a b := by
  intro t ht
  unfold mv
  rw [if_neg (by omega), if_neg (by omega)]
theorem mv_seg (d : Nat → α) {a i j : Nat} (ha : a ≤ j) (hji : j ≤ i) : seg (mv d i j) a (i + 1) = seg d a j ++ d i :: seg d j i := by
  rw [seg_split (mv d i j) ha (show j ≤ i + 1 by omega), seg_cons (mv d i j) (show j < i + 1 by omega)]
  congr 1
  · exact seg_congr fun t h1 h2 => by unfold mv; rw [if_neg (by omega), if_neg (by omega)]
  · congr 1
    · unfold mv; rw [if_pos rfl]
    · exact seg_move (by omega) fun t ht => by
        unfold mv
        rw [if_neg (by omega), if_pos (by omega)]
        congr 1
        omega
/-- The item of place i stands at j behind it. -/
def mvu (d : Nat → α) (i j : Nat) : Nat → α := fun t => if t = j then d i else if i ≤ t ∧ t < j then d (t + 1) else d t
theorem mvu_self (d : Nat → α) (i : Nat) : mvu d i i = d := by
  funext t
  unfold mvu
  by_cases h : t = i
  · rw [if_pos h, h]
  · rw [if_neg h, if_neg (by omega)]
theorem mvu_step (d : Nat → α) {i j : Nat} (hj : i ≤ j) : swp (mvu d i j) j (j + 1) = mvu d i (j + 1) := by
  funext t
  unfold swp mvu
  by_cases h1 : t = j
  · subst h1
    rw [if_pos rfl, if_neg (by omega), if_neg (by omega), if_neg (by omega), if_pos (by omega)]
  · rw [if_neg h1]
    by_cases h2 : t = j + 1
    · subst h2
      rw [if_pos rfl, if_pos rfl, if_pos rfl]
    · rw [if_neg h2, if_neg h1, if_neg h2]
      by_cases h3 : i ≤ t ∧ t < j
      · rw [if_pos h3, if_pos (by omega)]
      · rw [if_neg h3, if_neg (by omega)]
theorem mvu_same (d : Nat → α) {a b i j : Nat} (ha : a ≤ i) (hji : i ≤ j) (hb : j < b) : Same d (mvu d i j) a b := by
  intro t ht
  unfold mvu
  rw [if_neg (by omega), if_neg (by omega)]
theorem mvu_seg (d : Nat → α) {i j b : Nat} (hij : i ≤ j) (hb : j < b) : seg (mvu d i j) i b = seg d (i + 1) (j + 1) ++ d i :: seg d (j + 1) b := by
  rw [seg_split (mvu d i j) hij (show j ≤ b by omega), seg_cons (mvu d i j) hb]
  congr 1
  · exact seg_move (by omega) fun t ht => by
      unfold mvu
      rw [if_neg (by omega), if_pos (by omega)]
      congr 1
      omega
  · congr 1
    · unfold mvu; rw [if_pos rfl]
    · exact seg_congr fun t h1 h2 => by unfold mvu; rw [if_neg (by omega), if_neg (by omega)]
/-- The stretches a..m and m..b change places. -/
def rot (d : Nat → α) (a m b : Nat) : Nat → α := fun t => if a ≤ t ∧ t < b then (if t < a + (b - m) then d (t - a + m) else d (t - (b - m))) else d t
/-- Two stretches of one length change places, as far as i. -/
def swr (d : Nat → α) (a b i : Nat) : Nat → α := fun t => if a ≤ t ∧ t < a + i then d (t - a + b) else if b ≤ t ∧ t < b + i then d (t - b + a) else d t
theorem swr_zero (d : Nat → α) (a b : Nat) : swr d a b 0 = d := by
  funext t
  unfold swr
  rw [if_neg (by omega), if_neg (by omega)]
theorem swr_step (d : Nat → α) {a b i n : Nat} (h : a + n ≤ b) (hi : i < n) : swp (swr d a b i) (a + i) (b + i) = swr d a b (i + 1) := by
  funext t
  unfold swp swr
  by_cases h1 : t = a + i
  · subst h1
    rw [if_pos rfl, if_neg (by omega), if_neg (by omega), if_pos (by omega)]
    congr 1; omega
  · rw [if_neg h1]
    by_cases h2 : t = b + i
    · subst h2
      rw [if_pos rfl, if_neg (by omega), if_neg (by omega), if_neg (by omega), if_pos (by omega)]
      congr 1; omega
    · rw [if_neg h2]
      by_cases h3 : a ≤ t ∧ t < a + i
      · rw [if_pos h3, if_pos (by omega)]
      · rw [if_neg h3, if_neg (show ¬ (a ≤ t ∧ t < a + (i + 1)) by omega)]
        by_cases h4 : b ≤ t ∧ t < b + i
        · rw [if_pos h4, if_pos (by omega)]
        · rw [if_neg h4, if_neg (by omega)]
theorem rot_more (d : Nat → α) {m i j : Nat} (h : j < i) (him : i ≤ m) : rot (swr d (m - i) m j) (m - (i - j)) m (m + j) = rot d (m - i) m (m + j) := by
  funext t
  unfold rot swr
  rw [show m + j - m = j by omega]
  by_cases h1 : m - (i - j) ≤ t ∧ t < m + j
  · rw [if_pos h1, if_pos (show m - i ≤ t ∧ t < m + j by omega)]
    by_cases h2 : t < m - (i - j) + j
    · rw [if_pos h2]
      by_cases h3 : t < m - i + j
      · omega
      · rw [if_neg h3, if_neg (by omega), if_pos (by omega)]
        congr 1; omega
    · rw [if_neg h2, if_neg (by omega), if_neg (by omega), if_neg (by omega)]
  · rw [if_neg h1]
    by_cases h4 : m - i ≤ t ∧ t < m + j
    · rw [if_pos h4, if_pos (by omega), if_pos (by omega)]
    · rw [if_neg h4, if_neg (by omega), if_neg (by omega)]
theorem rot_less (d : Nat → α) {m i j : Nat} (h : i < j) (him : i ≤ m) : rot (swr d (m - i) (m + j - i) i) (m - i) m (m + (j - i)) = rot d (m - i) m (m + j) := by
  funext t
  unfold rot swr
  rw [show m + (j - i) - m = j - i by omega, show m + j - m = j by omega]
  by_cases h1 : m - i ≤ t ∧ t < m + (j - i)
  · rw [if_pos h1, if_pos (show m - i ≤ t ∧ t < m + j by omega)]
    by_cases h2 : t < m - i + (j - i)
    · rw [if_pos h2, if_neg (by omega), if_neg (by omega), if_pos (by omega)]
    · rw [if_neg h2, if_pos (by omega), if_pos (by omega)]
      congr 1; omega
  · rw [if_neg h1]
    by_cases h4 : m - i ≤ t ∧ t < m + j
    · rw [if_pos h4, if_neg (by omega), if_pos (by omega)]
      by_cases h5 : t < m - i + j
      · omega
      · rw [if_neg h5]
        congr 1; omega
    · rw [if_neg h4, if_neg (by omega), if_neg (by omega)]
theorem rot_same (d : Nat → α) {m i : Nat} (him : i ≤ m) : swr d (m - i) m i = rot d (m - i) m (m + i) := by
  funext t
  unfold rot swr
  rw [show m + i - m = i by omega]
  by_cases h1 : m - i ≤ t ∧ t < m - i + i
  · rw [if_pos h1, if_pos (by omega), if_pos (by omega)]
  · rw [if_neg h1]
    by_cases h2 : m ≤ t ∧ t < m + i
    · rw [if_pos h2, if_pos (by omega), if_neg (by omega)]
      congr 1; omega
    · rw [if_neg h2, if_neg (by omega)]
theorem rot_out (d : Nat → α) {a m b a' b' : Nat} (h1 : a' ≤ a) (h2 : b ≤ b') : Same d (rot d a m b) a' b' := by
  intro t ht
  unfold rot
  rw [if_neg (by omega)]
theorem rot_fst (d : Nat → α) {a m b : Nat} (h1 : a ≤ m) (h2 : m ≤ b) : seg (rot d a m b) a (a + (b - m)) = seg d m b := by
  apply seg_move (by omega)
  intro t ht
  unfold rot
  rw [if_pos (by omega), if_pos (by omega)]
  congr 1; omega
theorem rot_snd (d : Nat → α) {a m b : Nat} (h1 : a ≤ m) (h2 : m ≤ b) : seg (rot d a m b) (a + (b - m)) b = seg d a m := by
  apply seg_move (by omega)
  intro t ht
  unfold rot
  rw [if_pos (by omega), if_neg (by omega)]
  congr 1; omega
theorem Same.refl (d : Nat → α) (a b : Nat) : Same d d a b := fun _ _ => rfl
theorem Same.trans {d d1 d2 : Nat → α} {a b : Nat} (h : Same d d1 a b) (h' : Same d1 d2 a b) : Same d d2 a b := fun t ht => (h' t ht).trans (h t ht)
theorem Same.wide {d d1 : Nat → α} {a b a' b' : Nat} (h : Same d d1 a b) (h1 : a' ≤ a) (h2 : b ≤ b') : Same d d1 a' b' := fun t ht => h t (by omega)

/-- The binary search of symMerge cuts both parts so that the merge splits. -/
theorem sym_cut {lt : α → α → Bool} (hw : Weak lt) {d : Nat → α} {a m b mid start stop lo hi : Nat} (hX : Srt lt (seg d a m)) (hY : Srt lt (seg d m b)) (hmid : mid = (a + b) / 2)
    (hstop : start + stop = mid + m) (hlo : lo ≤ start) (hhi : start ≤ hi) (hl : lo = if m > mid then mid + m - b else a) (hh : hi = if m > mid then mid else m)
    (h1 : start = lo ∨ lt (d (mid + m - 1 - (start - 1))) (d (start - 1)) = false) (h2 : start = hi ∨ lt (d (mid + m - 1 - start)) (d start) = true) :
    a ≤ start ∧ start ≤ m ∧ m ≤ stop ∧ stop ≤ b ∧ start ≤ mid ∧ mid ≤ stop ∧ mrg lt (seg d a m) (seg d m b) = mrg lt (seg d a start) (seg d m stop) ++ mrg lt (seg d start m) (seg d stop b) := by
  have hb : a ≤ start ∧ start ≤ m ∧ m ≤ stop ∧ stop ≤ b ∧ start ≤ mid ∧ mid ≤ stop := by
    split at hl <;> split at hh <;> omega
  obtain ⟨q1, q2, q3, q4, q5, q6⟩ := hb
  refine ⟨q1, q2, q3, q4, q5, q6, ?_⟩
  rw [seg_split d q1 q2, seg_split d q3 q4]
  apply mrg_split
  · intro y hy x hx
    obtain ⟨t, ht1, ht2, rfl⟩ := mem_seg.1 hy
    obtain ⟨s, hs1, hs2, rfl⟩ := mem_seg.1 hx
    have hb2 : lt (d (stop - 1)) (d start) = true := by
      rcases h2 with h2 | h2
      · exfalso
        split at hh <;> omega
      · rw [show mid + m - 1 - start = stop - 1 by omega] at h2
        exact h2
    have e1 : lt (d (stop - 1)) (d t) = false := by
      rcases Nat.lt_or_ge t (stop - 1) with h | h
      · exact srt_at hY ht1 h (by omega)
      · rw [show stop - 1 = t by omega]; exact hw.irr _
    have e2 : lt (d s) (d start) = false := by
      rcases Nat.lt_or_ge start s with h | h
      · exact srt_at hX q1 h hs2
      · rw [show s = start by omega]; exact hw.irr _
    cases e3 : lt (d t) (d s)
    · have := hw.neg _ _ _ (hw.neg _ _ _ e1 e3) e2
      rw [hb2] at this
      cases this
    · rfl
  · intro x hx y hy
    obtain ⟨t, ht1, ht2, rfl⟩ := mem_seg.1 hy
    obtain ⟨s, hs1, hs2, rfl⟩ := mem_seg.1 hx
    have hb2 : lt (d stop) (d (start - 1)) = false := by
      rcases h1 with h1 | h1
      · exfalso
        split at hl <;> omega
      · rw [show mid + m - 1 - (start - 1) = stop by omega] at h1
        exact h1
    have e1 : lt (d t) (d stop) = false := by
      rcases Nat.lt_or_ge stop t with h | h
      · exact srt_at hY q3 h ht2
      · rw [show t = stop by omega]; exact hw.irr _
    have e2 : lt (d (start - 1)) (d s) = false := by
      rcases Nat.lt_or_ge s (start - 1) with h | h
      · exact srt_at hX hs1 h (by omega)
      · rw [show start - 1 = s by omega]; exact hw.irr _
    exact hw.neg _ _ _ (hw.neg _ _ _ e1 hb2) e2
/-- The insertion of one item from behind. -/
theorem ins_cut {lt : α → α → Bool} (hw : Weak lt) {d : Nat → α} {a i j : Nat} (hX : Srt lt (seg d a i)) (ha : a ≤ j) (hji : j ≤ i) (h1 : j = a ∨ lt (d i) (d (j - 1)) = false) (h2 : j = i ∨ lt (d i) (d j) = true) :
    seg (mv d i j) a (i + 1) = mrg lt (seg d a i) [d i] := by
  rw [mv_seg d ha hji, seg_split d ha hji, mrg_one_at]
  · intro x hx
    obtain ⟨t, ht1, ht2, rfl⟩ := mem_seg.1 hx
    rcases h1 with h1 | h1
    · omega
    · rcases Nat.lt_or_ge t (j - 1) with h | h
      · exact hw.neg _ _ _ h1 (srt_at hX ht1 h (by omega))
      · rw [show t = j - 1 by omega]; exact h1
  · intro x hx
    obtain ⟨t, ht1, ht2, rfl⟩ := mem_seg.1 hx
    rcases h2 with h2 | h2
    · omega
    · cases e3 : lt (d i) (d t)
      · rcases Nat.lt_or_ge j t with h | h
        · have := hw.neg _ _ _ e3 (srt_at hX ha h ht2)
          rw [h2] at this; cases this
        · rw [show t = j by omega, h2] at e3; cases e3
      · rfl
/-- The insertion of one item from ahead. -/
theorem insu_cut {lt : α → α → Bool} (hw : Weak lt) {d : Nat → α} {a b j : Nat} (hY : Srt lt (seg d (a + 1) b)) (ha : a ≤ j) (hjb : j < b) (h1 : j = a ∨ lt (d j) (d a) = true) (h2 : j + 1 = b ∨ lt (d (j + 1)) (d a) = false) :
    seg (mvu d a j) a b = mrg lt [d a] (seg d (a + 1) b) := by
  rw [mvu_seg d ha hjb, seg_split d (show a + 1 ≤ j + 1 by omega) (show j + 1 ≤ b by omega), one_mrg_at]
  · intro x hx
    obtain ⟨t, ht1, ht2, rfl⟩ := mem_seg.1 hx
    rcases h1 with h1 | h1
    · omega
    · cases e3 : lt (d t) (d a)
      · rcases Nat.lt_or_ge t j with h | h
        · have := hw.neg _ _ _ (srt_at hY ht1 h hjb) e3
          rw [h1] at this; cases this
        · rw [show t = j by omega, h1] at e3; cases e3
      · rfl
  · intro x hx
    obtain ⟨t, ht1, ht2, rfl⟩ := mem_seg.1 hx
    rcases h2 with h2 | h2
    · omega
    · rcases Nat.lt_or_ge (j + 1) t with h | h
      · exact hw.neg _ _ _ (srt_at hY (by omega) h ht2) h2
      · rw [show t = j + 1 by omega]; exact h2
end
end Go.Proofs.YtalpafaflgddpaaGreatDoor.Stab

namespace Go.Proofs.YtalpafaflgddpaaGreatDoor.Stab
set_option linter.unusedVariables false

section
variable {α : Type} {lt : α → α → Bool}
theorem rot_id (d : Nat → α) {a m b : Nat} (h1 : a ≤ m) (h2 : m ≤ b) (h : ¬ (a < m ∧ m < b)) : rot d a m b = d := by
  funext t
  unfold rot
  by_cases ht : a ≤ t ∧ t < b
  · rw [if_pos ht]
    by_cases h3 : t < a + (b - m)
    · rw [if_pos h3]; congr 1; omega
    · rw [if_neg h3]; congr 1; omega
  · rw [if_neg ht]
theorem one_mrg_nil (d : Nat → α) {a m b : Nat} (h1 : a ≤ m) (h2 : m ≤ b) (h : ¬ (a < m ∧ m < b)) : seg d a b = mrg lt (seg d a m) (seg d m b) := by
  by_cases h3 : a < m
  · obtain rfl : m = b := by omega
    rw [seg_nil d (Nat.le_refl _), mrg_nil_right]
  · obtain rfl : a = m := by omega
    rw [seg_nil d (Nat.le_refl _), mrg_nil_left]
/-- What the rotation leaves: the four stretches. -/
theorem rot_parts (d : Nat → α) {a start m stop b mid : Nat} (q1 : a ≤ start) (q2 : start ≤ m) (q3 : m ≤ stop) (q4 : stop ≤ b) (q5 : start ≤ mid) (q6 : mid ≤ stop) (hs : start + stop = mid + m) :
    seg (rot d start m stop) a start = seg d a start ∧ seg (rot d start m stop) start mid = seg d m stop ∧ seg (rot d start m stop) mid stop = seg d start m ∧ seg (rot d start m stop) stop b = seg d stop b := by
  have e := rot_out d (a := start) (m := m) (b := stop) (Nat.le_refl start) (Nat.le_refl stop)
  refine ⟨seg_congr fun t h1 h2 => e t (by omega), ?_, ?_, seg_congr fun t h1 h2 => e t (by omega)⟩
  · rw [show mid = start + (stop - m) by omega]
    exact rot_fst d q2 q3
  · rw [show mid = start + (stop - m) by omega]
    exact rot_snd d q2 q3
theorem sym_join {d d2 d3 : Nat → α} {a start m stop b mid : Nat} (q1 : a ≤ start) (q2 : start ≤ m) (q3 : m ≤ stop) (q4 : stop ≤ b) (q5 : start ≤ mid) (q6 : mid ≤ stop) (hs : start + stop = mid + m)
    (hm : mrg lt (seg d a m) (seg d m b) = mrg lt (seg d a start) (seg d m stop) ++ mrg lt (seg d start m) (seg d stop b))
    (h2 : Same (rot d start m stop) d2 a mid) (e2 : seg d2 a mid = mrg lt (seg (rot d start m stop) a start) (seg (rot d start m stop) start mid))
    (h3 : Same d2 d3 mid b) (e3 : seg d3 mid b = mrg lt (seg d2 mid stop) (seg d2 stop b)) :
    Same d d3 a b ∧ seg d3 a b = mrg lt (seg d a m) (seg d m b) := by
  obtain ⟨p1, p2, p3, p4⟩ := rot_parts d q1 q2 q3 q4 q5 q6 hs
  constructor
  · exact (((rot_out d q1 q4).trans (h2.wide (Nat.le_refl _) (by omega))).trans (h3.wide (by omega) (Nat.le_refl _)))
  · rw [hm, seg_split d3 (show a ≤ mid by omega) (show mid ≤ b by omega)]
    congr 1
    · rw [← p1, ← p2, ← e2]
      exact seg_congr fun t t1 t2 => h3 t (by omega)
    · rw [e3]
      congr 1
      · rw [← p3]
        exact seg_congr fun t t1 t2 => h2 t (by omega)
      · rw [← p4]
        exact seg_congr fun t t1 t2 => h2 t (by omega)
theorem rot_srt {d : Nat → α} {a start m stop b mid : Nat} (hX : Srt lt (seg d a m)) (hY : Srt lt (seg d m b)) (q1 : a ≤ start) (q2 : start ≤ m) (q3 : m ≤ stop) (q4 : stop ≤ b) (q5 : start ≤ mid) (q6 : mid ≤ stop) (hs : start + stop = mid + m) :
    Srt lt (seg (rot d start m stop) a start) ∧ Srt lt (seg (rot d start m stop) start mid) ∧ Srt lt (seg (rot d start m stop) mid stop) ∧ Srt lt (seg (rot d start m stop) stop b) := by
  obtain ⟨p1, p2, p3, p4⟩ := rot_parts d q1 q2 q3 q4 q5 q6 hs
  rw [p1, p2, p3, p4]
  exact ⟨srt_sub hX (Nat.le_refl _) q2, srt_sub hY (Nat.le_refl _) q4, srt_sub hX q1 (Nat.le_refl _), srt_sub hY q3 (Nat.le_refl _)⟩
end
end Go.Proofs.YtalpafaflgddpaaGreatDoor.Stab

namespace Go.Proofs.YtalpafaflgddpaaGreatDoor
open Go.RowKit

theorem add_offN (g o j : Nat) : (⟨g, o, none⟩ : Addr).add j = ⟨g, o + j, none⟩ := by
  unfold Addr.add
  split
  · rename_i h0; subst h0; rfl
  · rfl
/-- Cells that read as items, sz cells each. -/
def CellsG {α : Type} (sz : Nat) (R : List Value → α → Prop) : List α → List Value → Prop
  | [], cs => cs = []
  | d :: r, cs => ∃ c cs', cs = c ++ cs' ∧ c.length = sz ∧ R c d ∧ CellsG sz R r cs'
section
variable {α : Type} {sz : Nat} {R R' : List Value → α → Prop}
theorem CellsG.len : ∀ {fs : List α} {cs : List Value}, CellsG sz R fs cs → cs.length = fs.length * sz
  | [], cs, h => by
    have h : cs = [] := h
    subst h; simp
  | d :: r, cs, h => by
    obtain ⟨c, cs', rfl, hl, _, hr⟩ := h
    have := hr.len
    simp only [List.length_append, List.length_cons, this, hl, Nat.add_mul]
    omega
theorem CellsG.mono (hR : ∀ c d, R c d → R' c d) : ∀ {fs : List α} {cs : List Value}, CellsG sz R fs cs → CellsG sz R' fs cs
  | [], _, h => h
  | _ :: _, _, h => by
    obtain ⟨c, cs', rfl, hl, hd, hr⟩ := h
    exact ⟨c, cs', rfl, hl, hR _ _ hd, CellsG.mono hR hr⟩
theorem CellsG.all {Q : Value → Prop} (hR : ∀ c d, R c d → ∀ u ∈ c, Q u) : ∀ {fs : List α} {cs : List Value}, CellsG sz R fs cs → ∀ u ∈ cs, Q u
  | [], cs, h, u, hu => by
    have h : cs = [] := h
    subst h; simp at hu
  | _ :: _, _, h, u, hu => by
    obtain ⟨c, cs', rfl, hl, hd, hr⟩ := h
    rw [List.mem_append] at hu
    rcases hu with hu | hu
    · exact hR _ _ hd u hu
    · exact CellsG.all hR hr u hu
theorem CellsG.take : ∀ {fs : List α} {cs : List Value} (k : Nat), CellsG sz R fs cs → CellsG sz R (fs.take k) (cs.take (k * sz))
  | [], cs, k, h => by
    have h : cs = [] := h
    subst h
    simp [CellsG]
  | d :: r, cs, 0, h => by simp [CellsG]
  | d :: r, cs, k + 1, h => by
    obtain ⟨c, cs', rfl, hl, hd, hr⟩ := h
    refine ⟨c, cs'.take (k * sz), ?_, hl, hd, CellsG.take k hr⟩
    rw [show (k + 1) * sz = c.length + k * sz by rw [hl, Nat.add_mul]; omega, List.take_length_add_append]
theorem CellsG.snoc {d : α} {c : List Value} (hd : R c d) (hl : c.length = sz) : ∀ {fs : List α} {cs : List Value}, CellsG sz R fs cs → CellsG sz R (fs ++ [d]) (cs ++ c)
  | [], cs, h => by
    have h : cs = [] := h
    subst h
    exact ⟨c, [], by simp, hl, hd, rfl⟩
  | f :: r, cs, h => by
    obtain ⟨c', cs', rfl, hl', hd', hr⟩ := h
    exact ⟨c', cs' ++ c, by simp, hl', hd', CellsG.snoc hd hl hr⟩
theorem CellsG.at [Inhabited α] : ∀ {fs : List α} {cs : List Value} (j : Nat), CellsG sz R fs cs → j < fs.length → ∃ c, c.length = sz ∧ R c (fs.getD j default) ∧ ∀ t, t < sz → cs[j * sz + t]? = c[t]?
  | [], _, j, _, hj => by simp at hj
  | f :: r, cs, 0, h, _ => by
    obtain ⟨c, cs', rfl, hl, hd, hr⟩ := h
    refine ⟨c, hl, by simpa using hd, fun t ht => ?_⟩
    rw [Nat.zero_mul, Nat.zero_add, List.getElem?_append_left (by omega)]
  | f :: r, cs, j + 1, h, hj => by
    obtain ⟨c, cs', rfl, hl, hd, hr⟩ := h
    obtain ⟨c2, h1, h2, h3⟩ := CellsG.at j hr (by simpa using hj)
    refine ⟨c2, h1, by simpa using h2, fun t ht => ?_⟩
    rw [← h3 t ht, show (j + 1) * sz + t = c.length + (j * sz + t) by rw [hl, Nat.add_mul]; omega, List.getElem?_append_right (by omega), Nat.add_sub_cancel_left]
end
/-- Cells laid in memory, gathered. -/
theorem cells_gather {α : Type} [Inhabited α] {sz : Nat} {R : List Value → α → Prop} {w : World} (b : Nat) : ∀ (fs : List α) (o : Nat), (∀ j, j < fs.length → ∃ c, c.length = sz ∧ R c (fs.getD j default) ∧ ∀ t, t < sz → w.cell? ⟨b, o + j * sz + t, none⟩ = c[t]?) → ∃ cs, CellsG sz R fs cs ∧ ∀ j u, cs[j]? = some u → w.cell? ⟨b, o + j, none⟩ = some u
  | [], o, _ => ⟨[], rfl, fun j u hu => by simp at hu⟩
  | d :: r, o, h => by
    obtain ⟨c, hl, hr, hx⟩ := h 0 (by simp)
    obtain ⟨cs, hc, hy⟩ := cells_gather b r (o + sz) (fun j hj => by
      obtain ⟨c, hl, hr, hx⟩ := h (j + 1) (by simpa using hj)
      refine ⟨c, hl, by simpa using hr, fun t ht => ?_⟩
      rw [← hx t ht, Nat.add_mul, Nat.one_mul]
      congr 2
      omega)
    refine ⟨c ++ cs, ⟨c, cs, rfl, hl, by simpa using hr, hc⟩, fun j u hu => ?_⟩
    by_cases hj : j < sz
    · rw [List.getElem?_append_left (by omega)] at hu
      have := hx j hj
      rw [Nat.zero_mul, Nat.add_zero] at this
      rw [this, hu]
    · rw [List.getElem?_append_right (by omega), hl] at hu
      have := hy (j - sz) u hu
      rw [show o + sz + (j - sz) = o + j by omega] at this
      exact this

/-- A row of the call's own, cut short and its rest cleared. -/
theorem run_clear_own {P : Program} {w : World} {base e size n g cap i : Nat} {xs : List Value} (h : w.ownsRow base e size (.slice (some ⟨g, 0, none⟩) n cap) n xs) (t : TypeId) (ht : P.underlying t = some (.slice e)) (z : Value) (hz : ∀ w, (zeroValue e).run P w = .ok z w) (hzs : z.cells.size = size) (hz1 : ∀ u ∈ (Builtin.zeroCells z.cells (n - i)).toList, u.oneCell' = true) (hin : i < n) (c : Nat) :
    ∃ w', (∀ ty, (Builtin.clear_ #[t] ty #[.slice (some ⟨g, i * size, none⟩) (n - i) c]).run P w = .ok (.tuple #[]) w') ∧ w'.ownsRow base e size (.slice (some ⟨g, 0, none⟩) i cap) i (xs.take (i * size)) ∧ w.grownBy w' (some g) := by
  obtain ⟨hlen, hor⟩ := h
  rcases hor with ⟨h0, _⟩ | ⟨g', cap', cur, he, hbase, hg, hnc, hcm, hcs, htk⟩
  · cases h0
  obtain ⟨rfl, rfl⟩ : g = g' ∧ cap = cap' := by simpa using he
  have hzl : (Builtin.zeroCells z.cells (n - i)).toList.length = (n - i) * size := by
    simp [Builtin.zeroCells, hzs]
  have hmul : i * size + (n - i) * size = n * size := by rw [← Nat.add_mul]; congr 1; omega
  have hmc : n * size ≤ cap * size := Nat.mul_le_mul_right _ hnc
  have hst := run_storeCells_at P g (i * size) e (Builtin.zeroCells z.cells (n - i)).toList 0 cur w hg (by rw [hzl, Nat.add_zero]; omega) hz1
  rw [Nat.add_zero, hzl] at hst
  obtain ⟨m, hm⟩ : ∃ m, n - i = m + 1 := ⟨n - i - 1, by omega⟩
  refine ⟨w.setRow g (cur.toList.take (i * size) ++ (Builtin.zeroCells z.cells (n - i)).toList ++ cur.toList.drop (i * size + (n - i) * size)).toArray, fun ty => ?_, ⟨?_, .inr ⟨g, cap, _, rfl, hbase, setRow_heap _ _ _ _ _ _ hg, by omega, hcm, ?_, ?_⟩⟩, ?_⟩
  · rw [hm] at hst ⊢
    simp [Builtin.clear_, run_underlying ht, hz]
    simp at hst
    rw [hst]
    rfl
  · rw [List.length_take, hlen]
    have : i * size ≤ n * size := Nat.mul_le_mul_right _ (by omega)
    omega
  · simp only [List.size_toArray, List.length_append, List.length_take, List.length_drop, Array.length_toList, hzl, hcs]
    omega
  · rw [List.append_assoc, List.take_left' (by rw [List.length_take, Array.length_toList, hcs]; omega), ← htk, List.take_take]
    congr 1
    omega
  · exact ⟨rfl, rfl, rfl, by simp, fun k _ hk => setRow_other _ _ _ _ (fun e => hk (by rw [e]))⟩


theorem idxF_cases {α : Type} (p : α → Bool) : ∀ (l : List α) (k : Nat), (idxF p l k = -1 ∧ (l.filter fun d => !p d) = l) ∨ ∃ m, m < l.length ∧ idxF p l k = ((k + m : Nat) : Int) ∧ ((l.take (m + 1)).filter fun d => !p d) = l.take m
  | [], k => .inl ⟨rfl, rfl⟩
  | d :: r, k => by
    by_cases h : p d = true
    · exact .inr ⟨0, by simp, by simp [idxF, h], by simp [h]⟩
    · rcases idxF_cases p r (k + 1) with ⟨e1, e2⟩ | ⟨m, hm, e1, e2⟩
      · exact .inl ⟨by simp [idxF, h, e1], by simp [h, e2]⟩
      · refine .inr ⟨m + 1, by simpa using hm, ?_, ?_⟩
        · simp only [idxF, h, if_false, Bool.false_eq_true, e1]
          congr 1
          omega
        · simp [List.take_succ_cons, h, e2]
/-- The state of slices.DeleteFunc: i kept ahead of place j, what lies from j on as it was. -/
structure KeptG {α : Type} (sz : Nat) (R : List Value → α → Prop) (p : α → Bool) (fs : List α) (cs : List Value) (i j : Nat) (ys : List Value) : Prop where
  len : ys.length = cs.length
  lt : i < j
  le : j ≤ fs.length
  cnt : ((fs.take j).filter fun d => !p d).length = i
  kept : CellsG sz R ((fs.take j).filter fun d => !p d) (ys.take (i * sz))
  rest : ys.drop (j * sz) = cs.drop (j * sz)
section
variable {α : Type} {sz : Nat} {R : List Value → α → Prop} {p : α → Bool} {fs : List α} {cs ys : List Value} {i j : Nat}
theorem KeptG.start {k : Nat} (hc : CellsG sz R fs cs) (hk : k < fs.length) (hf : ((fs.take (k + 1)).filter fun d => !p d) = fs.take k) : KeptG sz R p fs cs k (k + 1) cs :=
  ⟨rfl, by omega, by omega, by rw [hf, List.length_take]; omega, by rw [hf]; exact hc.take k, rfl⟩
theorem KeptG.cell (h : KeptG sz R p fs cs i j ys) (t : Nat) : ys[j * sz + t]? = cs[j * sz + t]? := by
  have := congrArg (fun l : List Value => l[t]?) h.rest
  simpa [List.getElem?_drop] using this
theorem KeptG.skip [Inhabited α] (h : KeptG sz R p fs cs i j ys) (hj : j < fs.length) (hp : p (fs.getD j default) = true) : KeptG sz R p fs cs i (j + 1) ys := by
  have hf : ((fs.take (j + 1)).filter fun d => !p d) = (fs.take j).filter fun d => !p d := by
    rw [filter_snoc (fun d => !p d) fs j hj, if_neg (by rw [hp]; simp)]
  have hlt := h.lt
  refine ⟨h.len, by omega, by omega, by rw [hf]; exact h.cnt, by rw [hf]; exact h.kept, ?_⟩
  have := congrArg (fun l : List Value => l.drop sz) h.rest
  rw [Nat.add_mul, Nat.one_mul]
  simpa [List.drop_drop] using this
theorem KeptG.keep [Inhabited α] (h : KeptG sz R p fs cs i j ys) (hl : cs.length = fs.length * sz) (hj : j < fs.length) (hp : p (fs.getD j default) = false) {c : List Value} (hd : R c (fs.getD j default)) (hcl : c.length = sz) :
    KeptG sz R p fs cs (i + 1) (j + 1) (ys.take (i * sz) ++ c ++ ys.drop ((i + 1) * sz)) := by
  have hf : ((fs.take (j + 1)).filter fun d => !p d) = ((fs.take j).filter fun d => !p d) ++ [fs.getD j default] := by
    rw [filter_snoc (fun d => !p d) fs j hj, if_pos (by rw [hp]; rfl)]
  have hlt := h.lt
  have hlen := h.len
  have e1 : (i + 1) * sz = i * sz + sz := by rw [Nat.add_mul, Nat.one_mul]
  have e2 : (i + 1) * sz ≤ fs.length * sz := Nat.mul_le_mul_right _ (by omega)
  have e3 : (i + 1) * sz ≤ j * sz := Nat.mul_le_mul_right _ (by omega)
  have hA : (ys.take (i * sz) ++ c).length = (i + 1) * sz := by
    rw [List.length_append, List.length_take, hcl]
    omega
  refine ⟨?_, by omega, by omega, by rw [hf, List.length_append, h.cnt]; rfl, ?_, ?_⟩
  · rw [List.length_append, hA, List.length_drop]; omega
  · rw [hf, List.take_left' hA]
    exact CellsG.snoc hd hcl h.kept
  · have h3 : ys.drop ((j + 1) * sz) = cs.drop ((j + 1) * sz) := by
      have := congrArg (fun l : List Value => l.drop sz) h.rest
      rw [Nat.add_mul, Nat.one_mul]
      simpa [List.drop_drop] using this
    have e4 : (j + 1) * sz = j * sz + sz := by rw [Nat.add_mul, Nat.one_mul]
    rw [← h3, List.drop_append, hA, List.drop_of_length_le (by rw [hA]; omega), List.nil_append, List.drop_drop]
    congr 1
    omega
theorem KeptG.done (h : KeptG sz R p fs cs i fs.length ys) : (fs.filter fun d => !p d).length = i ∧ CellsG sz R (fs.filter fun d => !p d) (ys.take (i * sz)) := by
  have h1 := h.cnt
  have h2 := h.kept
  rw [List.take_of_length_le (Nat.le_refl _)] at h1 h2
  exact ⟨h1, h2⟩
end
theorem set3_put (ys : List Value) (i : Nat) (c0 c1 c2 : Value) (h : i * 3 + 2 < ys.length) :
    (((ys.set (i * 3) c0).set (i * 3 + 1) c1).set (i * 3 + 2) c2) = ys.take (i * 3) ++ [c0, c1, c2] ++ ys.drop ((i + 1) * 3) := by
  apply List.ext_getElem?
  intro q
  rw [List.append_assoc, List.getElem?_append, List.getElem?_append]
  simp only [List.getElem?_set, List.length_set, List.length_take, List.length_cons, List.length_nil, List.getElem?_drop, List.getElem?_take]
  rw [Nat.min_eq_left (show i * 3 ≤ ys.length by omega)]
  by_cases h1 : q < i * 3
  · rw [if_neg (by omega), if_neg (by omega), if_neg (by omega), if_pos h1, if_pos h1]
  · rw [if_neg h1]
    by_cases h2 : q < (i + 1) * 3
    · have h3 : q = i * 3 ∨ q = i * 3 + 1 ∨ q = i * 3 + 2 := by omega
      rcases h3 with rfl | rfl | rfl
      · rw [if_neg (by omega), if_neg (by omega), if_pos rfl, if_pos (by omega), if_pos (by omega), Nat.sub_self]; rfl
      · rw [if_neg (by omega), if_pos rfl, if_pos (by omega), if_pos (by omega), show i * 3 + 1 - i * 3 = 1 by omega]; rfl
      · rw [if_pos rfl, if_pos (by omega), if_pos (by omega), show i * 3 + 2 - i * 3 = 2 by omega]; rfl
    · rw [if_neg (by omega), if_neg (by omega), if_neg (by omega), if_neg (by omega)]
      congr 1
      omega
/-- Nodes as cells. -/
def nodeC (w : World) (B : Nat) (c : List Value) (d : NodeD) : Prop := ∃ c0 c1 c2, c = [c0, c1, c2] ∧ NodeR w B c0 c1 c2 d
theorem cellsN_iff {w : World} : ∀ {fs : List NodeD} {cs : List Value}, CellsN w fs cs ↔ CellsG 3 (nodeC w w.heap.size) fs cs
  | [], _ => Iff.rfl
  | d :: r, cs => by
    constructor
    · rintro ⟨c0, c1, c2, cs', rfl, hd, hr⟩
      exact ⟨[c0, c1, c2], cs', rfl, rfl, ⟨c0, c1, c2, rfl, hd⟩, cellsN_iff.1 hr⟩
    · rintro ⟨c, cs', rfl, _, ⟨c0, c1, c2, rfl, hd⟩, hr⟩
      exact ⟨c0, c1, c2, cs', rfl, hd, cellsN_iff.2 hr⟩
theorem nodeC_one {w : World} {B : Nat} (c : List Value) (d : NodeD) (h : nodeC w B c d) : ∀ u ∈ c, u.oneCell' = true := by
  obtain ⟨_, _, _, rfl, rfl, ⟨A, n, c, rfl, _⟩, rfl⟩ := h
  intro u hu
  simp only [List.mem_cons, List.not_mem_nil, or_false] at hu
  rcases hu with rfl | rfl | rfl <;> rfl
theorem nodes_reads {w : World} {B : Nat} {A : Option Addr} {n : Nat} {fs : List NodeD} (h : Nodes w B A n fs) : ∃ cs, CellsG 3 (nodeC w B) fs cs ∧ Reads w B 3 A n cs := by
  obtain ⟨hl, h2⟩ := h
  rcases Nat.eq_zero_or_pos n with h0 | h0
  · subst h0
    have : fs = [] := List.eq_nil_of_length_eq_zero hl
    subst this
    exact ⟨[], rfl, rfl, fun h => absurd h (by omega)⟩
  · obtain ⟨b, o, rfl, hb, hc⟩ := h2 h0
    obtain ⟨cs, h3, h4⟩ := cells_gather (R := nodeC w B) (sz := 3) (w := w) b fs o (fun j hj => by
      obtain ⟨c0, c1, c2, e0, e1, e2, hr⟩ := hc j (by omega)
      refine ⟨[c0, c1, c2], rfl, ⟨c0, c1, c2, rfl, hr⟩, fun t ht => ?_⟩
      match t, ht with
      | 0, _ => exact e0
      | 1, _ => exact e1
      | 2, _ => exact e2)
    exact ⟨cs, h3, by rw [h3.len, hl], fun _ => ⟨_, rfl, hb, fun j u hu => by rw [add_offN]; exact h4 j u hu⟩⟩
end Go.Proofs.YtalpafaflgddpaaGreatDoor

namespace Go.Proofs.YtalpafaflgddpaaGreatDoor
open Go.RowKit

theorem zero_cells_mem {zero : Array Value} {m : Nat} {u : Value} (h : u ∈ (Builtin.zeroCells zero m).toList) : u ∈ zero.toList := by
  unfold Builtin.zeroCells at h
  simp only [Array.toList_map, List.mem_map] at h
  obtain ⟨i, hi, rfl⟩ := h
  have hi' : i < m * zero.size := by simpa using hi
  have hz : 0 < zero.size := by
    rcases Nat.eq_zero_or_pos zero.size with e | e
    · rw [e] at hi'; omega
    · exact e
  rw [getElem!_pos zero _ (Nat.mod_lt _ hz)]
  simp
theorem zeroNode (w : World) : (zeroValue 78).run Tryz.prog w = .ok (.agg #[.string .empty, .slice none 0 0, .string .empty]) w := by kernel_rfl

/-- A row of the call's own whose cells read as nodes of an earlier world. -/
def RowN (R : List Value → NodeD → Prop) (base : Nat) (w : World) (fs : List NodeD) (e : Ending) (w' : World) : Prop := ∃ v cs, e = .returned v ∧ w'.ownsRow base 78 3 v fs.length cs ∧ CellsG 3 R fs cs ∧ Below base w w'
set_option maxRecDepth 100000 in
set_option maxHeartbeats 1000000 in
theorem CloneN_any (w0 : World) (A : Option Addr) (n c : Nat) (fs : List NodeD) (w : World) (h : Nodes w0 w0.heap.size A n fs) (hb : Below w0.heap.size w0 w) (hn : n ≤ 1048576) :
    Calls Tryz.prog 75 #[.slice A n c] w (RowN (nodeC w0 w0.heap.size) w.heap.size w fs) := by
  obtain ⟨i0, hi, hz0, hz1, hz2⟩ := info_parts infoNodeD
  have hlen := h.1
  obtain ⟨cs, hc, hr⟩ := nodes_reads h
  have Hh := Lib.hid ((hr.below hb).more hb.size)
  have HC := Lib.hid hc
  have Hlen := Lib.hid hlen
  have H1 := Lib.hid (hc.all nodeC_one)
  cases A with
  | none =>
    have hn0 : n = 0 := by
      rcases Nat.eq_zero_or_pos n with h0 | h0
      · exact h0
      · obtain ⟨b, o, e, _⟩ := h.2 h0
        cases e
    have hf0 : Hid (fs.length = 0 ∧ cs = []) := ⟨by rw [hlen, hn0], List.eq_nil_of_length_eq_zero (by rw [hc.len, hlen, hn0])⟩
    clear h hc hr hlen hb
    subst hn0
    have hnil := fun (W : World) => Lib.run_eql_slice_nil (P := Tryz.prog) W 39 78 none 0 c 0 0 Tryz.underlying39
    go_enter Tryz.func75, Tryz.ntmps75
    go_wp2_with fail
    go_ret
    refine ⟨_, cs, rfl, ?_, HC.out, Below.refl _ _⟩
    rw [hf0.out.1, hf0.out.2]
    exact World.ownsRow_nil _ _ _ _
  | some ad =>
    clear h hc hr hlen hb
    have hnil := fun (W : World) => Lib.run_eql_slice_nil (P := Tryz.prog) W 39 78 (some ad) n c 0 0 Tryz.underlying39
    go_enter Tryz.func75, Tryz.ntmps75
    go_wp2_with (at_builtin; refine wpList_append_any _ rfl (.tmp 5) (.tmp 6) 39 rfl w.heap.size 78 i0 _ 3 56 Tryz.underlying39 hi hz0 hz1 hz2 rfl (by decide) _ 0 [] rfl (World.ownsRow_lit _ _ 0 (Nat.le_refl _) (by omega) rfl) w.heap.size (some ad) n c cs rfl (Hh.out.alloc (Nat.le_refl _) _) H1.out ?c1 ?c2 ?c3 ?_)
    case c1 => unfold maxLen; omega
    case c2 => omega
    case c3 => simp
    intro v w1 ho hg _
    have HB := Lib.hid (below_own (w0 := w) (size := 3) (n := 0) (xs := []) (Below.new _ _) (World.ownsRow_lit _ _ 0 (Nat.le_refl _) (by omega) rfl) (Nat.le_refl _) hg)
    have HO := Lib.hid ho
    clear ho hg
    go_wp2_with fail
    go_ret
    exact ⟨_, cs, rfl, by have hx := HO.out; simpa [Hlen.out] using hx, HC.out, HB.out⟩

set_option maxRecDepth 100000 in
set_option maxHeartbeats 4000000 in
theorem DeleteFuncN_any (g : Nat) (lb : Array Value) (p : NodeD → Bool) (v : Value) (fs : List NodeD) (cs : List Value) (w0 w : World) (R : List Value → NodeD → Prop) (hR : ∀ c d, R c d → nodeC w0 w0.heap.size c d) (h : w.ownsRow w0.heap.size 78 3 v fs.length cs) (hc : CellsG 3 R fs cs) (hb : Below w0.heap.size w0 w) (hn : fs.length ≤ 1048576)
    (eg : ∀ args w, (callFunc g args).run Tryz.prog w = .ok (.enter g args) w) (hg : PredNode g lb p fs w0) :
    Calls Tryz.prog 43 #[v, .func (.func g) #[] lb] w (RowN R w0.heap.size w0 (fs.filter fun d => !p d)) := by
  obtain ⟨A, cap, rfl, hcap, hN⟩ := nodes_of_row h rfl (cellsN_iff.2 (hc.mono hR)) hb
  obtain ⟨_, _, e0, _, hcm, hA⟩ := Own.own_slice h
  injection e0 with e1 _ e2
  subst e1 e2
  have HK := Lib.hid (IndexFuncNode_any g lb p A fs.length cap fs w hN hn eg (fun d hd c0 c1 c2 W hW hr => hg d hd c0 c1 c2 W (hb.trans (hW.mono hb.size)) hr))
  have HX := Lib.hid (idxF_cases p fs 0)
  have HO0 := Lib.hid h
  have HC := Lib.hid hc
  have HB0 := Lib.hid hb
  have Hg := Lib.hid hg
  clear h hc hb hg hN
  rcases HX.out with ⟨e1, e2⟩ | ⟨k0, hk0, e1, e2⟩
  · rw [e1] at HK
    rw [e2]
    clear e1 e2 HX
    go_enter Tryz.func43, Tryz.ntmps43
    go_wp2_with fail
    refine HK.out.mono ?_
    rintro e w1 ⟨rfl, hb1⟩
    have HB1 := Lib.hid hb1
    clear hb1
    go_wp2_with fail
    go_ret
    exact ⟨_, cs, rfl, Own.own_later HO0.out HB1.out, HC.out, HB0.out.later HB1.out⟩
  · rw [e1, Nat.zero_add] at HK
    obtain ⟨g0, rfl, hgl, hgb⟩ := hA (by omega)
    have HS := Lib.hid (KeptG.start (p := p) HC.out hk0 e2)
    have HL : Hid (cs.length = fs.length * 3) := HC.out.len
    clear e1 e2 HX hA
    generalize hnn : fs.length = n at *
    have Hlen := Lib.hid hnn
    clear hnn
    have hne1 : ((k0 : Int) == -1) = false := beq_eq_false_iff_ne.2 (by omega)
    go_enter Tryz.func43, Tryz.ntmps43
    go_wp2_with fail
    refine HK.out.mono ?_
    rintro e w1 ⟨rfl, hb1⟩
    have HO1 := Lib.hid (Own.own_later HO0.out hb1)
    have HB1 := Lib.hid (HB0.out.later hb1)
    clear hb1
    go_wp2_with fail
    go_loopw [5, 6] (fun i j wr => ∃ (ii jj : Nat) (ys : List Value), i = .int .i64 ii ∧ j = .int .i64 jj ∧ wr.ownsRow w0.heap.size 78 3 (.slice (some ⟨g0, 0, none⟩) n cap) n ys ∧ Hid (KeptG 3 R p fs cs ii jj ys) ∧ Below w0.heap.size w0 wr) (fun _ j _ => n - (intOf j).toNat)
    case atStart => exact ⟨k0, k0 + 1, cs, rfl, by go_num, HO1.out, HS.out, HB1.out⟩
    case round =>
      obtain ⟨i, j, ys, rfl, rfl, ho, hK, hb⟩ := hrel
      have HO := Lib.hid ho
      have HB := Lib.hid hb
      have hij := hK.out.lt
      have hjn : j ≤ n := by have := hK.out.le; rw [Hlen.out] at this; exact this
      have hyl : ys.length = n * 3 := ho.1
      clear ho hb
      by_cases hlt : j < n
      · have hl : j < fs.length := by rw [Hlen.out]; exact hlt
        obtain ⟨c, _, hRd, hq⟩ := CellsG.at j HC.out hl
        obtain ⟨c0, c1, c2, rfl, hd⟩ := hR _ _ hRd
        have q0 : cs[j * 3]? = some c0 := hq 0 (by omega)
        have q1 : cs[j * 3 + 1]? = some c1 := hq 1 (by omega)
        have q2 : cs[j * 3 + 2]? = some c2 := hq 2 (by omega)
        clear hq
        have x0 := Own.own_cell HO.out (j * 3) c0 (by omega) ((hK.out.cell 0).trans q0)
        have x1 := Own.own_cell HO.out (j * 3 + 1) c1 (by omega) ((hK.out.cell 1).trans q1)
        have x2 := Own.own_cell HO.out (j * 3 + 2) c2 (by omega) ((hK.out.cell 2).trans q2)
        have HP := Lib.hid (fun o => Hg.out (fs.getD j default) (getD_memD fs j hl) c0 c1 c2 (wr.alloc o) (HB.out.later (Below.new _ _)) (hd.later (HB.out.later (Below.new _ _))))
        have HKeep := Lib.hid (fun hp => hK.out.keep (by rw [Hlen.out]; exact HL.out) hl hp hRd rfl)
        clear hRd
        have HSkip := Lib.hid (fun hp => hK.out.skip hl hp)
        clear q0 q1 q2 hl
        generalize fs.getD j default = d at *
        generalize hx : p d = x at *
        clear hx
        obtain ⟨rfl, ⟨A1, n1, p1, rfl, _, _⟩, rfl⟩ := hd
        generalize d.name = nm at *
        generalize d.val = vl at *
        go_wp2_with fail
        refine (HP.out _).mono ?_
        rintro e w2 ⟨rfl, hb2⟩
        have b0 := box_at hb2 0
        have b1 := box_at hb2 1
        have b2 := box_at hb2 2
        simp at b0 b1 b2
        have hO2 := Own.own_later (Own.own_later HO.out (Below.new wr _)) hb2
        have HB2 := Lib.hid (HB.out.later ((Below.new wr _).later hb2))
        have HO2 := Lib.hid hO2
        clear x0 x1 x2
        cases x
        · obtain ⟨cur, hblk⟩ := Own.own_blk hO2
          have t0 := Own.own_cell hO2 (i * 3) _ (by omega) (List.getElem?_eq_getElem (show i * 3 < ys.length by omega))
          have t1 := Own.own_cell hO2 (i * 3 + 1) _ (by omega) (List.getElem?_eq_getElem (show i * 3 + 1 < ys.length by omega))
          have t2 := Own.own_cell hO2 (i * 3 + 2) _ (by omega) (List.getElem?_eq_getElem (show i * 3 + 2 < ys.length by omega))
          have f0 := hblk.frozen (i * 3)
          have f1 := hblk.frozen (i * 3 + 1)
          have f2 := hblk.frozen (i * 3 + 2)
          have s1 := hO2.stored (i * 3) (.string nm)
          have s2 := s1.1.stored (i * 3 + 1) (.slice A1 n1 p1)
          have s3 := s2.1.stored (i * 3 + 2) (.string vl)
          have HO3 := Lib.hid s3.1
          rw [set3_put ys i _ _ _ (by omega)] at HO3
          have HB3 := Lib.hid (below_own (below_own (below_own HB2.out hO2 (Nat.le_refl _) s1.2) s1.1 (Nat.le_refl _) s2.2) s2.1 (Nat.le_refl _) s3.2)
          have HK3 := Lib.hid (HKeep.out rfl)
          clear hb2 hblk s1 s2 s3 hO2
          generalize ys[i * 3] = o0 at *
          generalize ys[i * 3 + 1] = o1 at *
          generalize ys[i * 3 + 2] = o2 at *
          have hin : i < n := by omega
          go_wp2_with fail
          go_roundw
          case rel => exact ⟨i + 1, j + 1, _, by go_num, by go_num, HO3.out, HK3.out, HB3.out⟩
          case measure => simp [intOf]; omega
        · have HK3 := Lib.hid (HSkip.out rfl)
          clear hb2 hO2
          go_wp2_with fail
          go_roundw
          case rel => exact ⟨i, j + 1, ys, rfl, by go_num, HO2.out, HK3.out, HB2.out⟩
          case measure => simp [intOf]; omega
      · obtain rfl : j = n := by omega
        have hin : i < j := hij
        obtain ⟨w2, hcl, ho2, hg2⟩ := run_clear_own (P := Tryz.prog) (i := i) HO.out 39 Tryz.underlying39 _ zeroNode rfl (fun u hu => by have := zero_cells_mem hu; simp [Value.cells] at this; rcases this with rfl | rfl | rfl <;> rfl) hin (cap - i)
        have HO2 := Lib.hid ho2
        have HB2 := Lib.hid (below_own HB.out HO.out (Nat.le_refl _) hg2)
        have HE : Hid ((fs.filter fun d => !p d).length = i ∧ CellsG 3 R (fs.filter fun d => !p d) (ys.take (i * 3))) := by
          have hk := hK.out
          have hl := Hlen.out
          subst hl
          exact hk.done
        have hcn : ¬ cap = i := by omega
        clear ho2 hg2
        go_wp2_with (simp only [hcl])
        go_ret
        exact ⟨_, _, rfl, by rw [HE.out.1]; exact HO2.out, HE.out.2, HB2.out⟩
end Go.Proofs.YtalpafaflgddpaaGreatDoor

namespace Go.Proofs.YtalpafaflgddpaaGreatDoor
open Go.RowKit

set_option maxRecDepth 100000 in
set_option maxHeartbeats 1000000 in
theorem isRowNode_any (b0 b1 b2 b3 c0 c1 c2 : Value) (b : TableD) (d : NodeD) (w : World) (hb : TableR w w.heap.size b0 b1 b2 b3 b) (h : NodeR w w.heap.size c0 c1 c2 d) :
    Calls Tryz.prog 77 #[.agg #[b0, b1, b2, b3], .agg #[c0, c1, c2]] w fun e w' => e = .returned (.bool (isRowB b.glob d)) ∧ Below w.heap.size w w' := by
  obtain ⟨rfl, rfl, ⟨A2, n2, p2, rfl, s2, k2⟩, ⟨A3, n3, p3, rfl, s3, k3⟩⟩ := hb
  obtain ⟨rfl, ⟨A1, n1, cap1, rfl, hs1, hcap1⟩, rfl⟩ := h
  have HR : Hid (isRowB b.glob d = (decide (d.name = b.glob) && (decide (d.subs.length = 2) && decide (d.subs.getD 0 ByteArray.empty = ⟨#[114]⟩)))) := rfl
  have HL1 := Lib.hid hs1.1
  have HC1 := Lib.hid hs1.2
  have HB0 := Lib.hid ((Below.new w (.cells #[.string b.name, .string b.glob, .slice A2 n2 p2, .slice A3 n3 p3] 43)).later (Below.new _ (.cells #[.string d.name, .slice A1 n1 cap1, .string d.val] 78)))
  clear s2 s3 hs1
  generalize isRowB b.glob d = R at *
  generalize b.glob = gl at *
  generalize b.name = bn at *
  generalize d.val = vl at *
  by_cases hnm : d.name = gl
  case neg =>
    have HE : Hid (R = false) := by unfold Hid; rw [HR.out, decide_eq_false hnm]; rfl
    have hbe := str_beq hnm
    generalize d.name = dn at *
    clear hnm HR
    go_enter Tryz.func77, Tryz.ntmps77
    go_wp2_with fail
    go_ret
    exact ⟨ret_bool HE.out.symm, HB0.out⟩
  subst hnm
  by_cases hn2 : n1 = 2
  case neg =>
    have HE : Hid (R = false) := by unfold Hid; rw [HR.out, HL1.out, decide_eq_false hn2]; simp
    have hb3 : ((n1 : Int) == 2) = false := by rw [beq_eq_false_iff_ne]; omega
    have hb4 : (n1 == 2) = false := by rw [beq_eq_false_iff_ne]; omega
    generalize d.name = dn at *
    clear hn2 HR
    go_enter Tryz.func77, Tryz.ntmps77
    go_wp2_with fail
    go_ret
    exact ⟨ret_bool HE.out.symm, HB0.out⟩
  subst hn2
  obtain ⟨sb, so, rfl, hsb, hsc⟩ := HC1.out (by omega)
  have hck := hsc 0 (by omega)
  clear hsc
  rw [Nat.add_zero] at hck
  have HE : Hid (R = decide (d.subs.getD 0 ByteArray.empty = ⟨#[114]⟩)) := by unfold Hid; rw [HR.out, HL1.out]; simp
  clear HR
  generalize d.name = dn at *
  generalize d.subs.getD 0 ByteArray.empty = s0 at *
  by_cases hsub : s0 = ⟨#[114]⟩
  case neg =>
    have HE2 : Hid (R = false) := by unfold Hid; rw [HE.out, decide_eq_false hsub]
    have hbe := str_beq hsub
    have hbe3 := ne_bytes hsub
    clear hsub HE
    go_enter Tryz.func77, Tryz.ntmps77
    go_wp2_with fail
    go_ret
    exact ⟨ret_bool HE2.out.symm, HB0.out⟩
  subst hsub
  have HE2 : Hid (R = true) := by unfold Hid; rw [HE.out]; simp
  clear HE
  go_enter Tryz.func77, Tryz.ntmps77
  go_wp2_with fail
  go_ret
  exact ⟨ret_bool HE2.out.symm, HB0.out⟩
set_option maxRecDepth 100000 in
set_option maxHeartbeats 1000000 in
theorem rowNodes1_any (bk : Nat) (b0 b1 b2 b3 c0 c1 c2 : Value) (b : TableD) (d : NodeD) (w : World) (hk : Blk w bk 43 #[b0, b1, b2, b3]) (hb : TableR w w.heap.size b0 b1 b2 b3 b) (h : NodeR w w.heap.size c0 c1 c2 d) :
    Calls Tryz.prog 76 #[.agg #[c0, c1, c2], .pointer (some ⟨bk, 0, none⟩)] w fun e w' => e = .returned (.bool (!isRowB b.glob d)) ∧ Below w.heap.size w w' := by
  have HK := Lib.hid (fun o => isRowNode_any b0 b1 b2 b3 c0 c1 c2 b d (w.alloc o) (hb.later (Below.new _ _)) (h.later (Below.new _ _)))
  obtain ⟨rfl, rfl, ⟨A2, n2, p2, rfl, s2, k2⟩, ⟨A3, n3, p3, rfl, s3, k3⟩⟩ := hb
  obtain ⟨rfl, ⟨A1, n1, cap1, rfl, hs1, hcap1⟩, rfl⟩ := h
  have x0 := hk.cell 0
  have x1 := hk.cell 1
  have x2 := hk.cell 2
  have x3 := hk.cell 3
  simp at x0 x1 x2 x3
  have hlt := hk.lt
  clear hk s2 s3 hs1
  generalize isRowB b.glob d = R at *
  go_enter Tryz.func76, Tryz.ntmps76
  go_wp2_with fail
  refine (HK.out _).mono ?_
  rintro e w1 ⟨rfl, hb1⟩
  have HB := Lib.hid ((Below.new w _).later hb1)
  clear hb1
  go_wp2_with fail
  go_ret
  exact ⟨rfl, HB.out⟩
theorem rows_not (g : ByteArray) (fs : List NodeD) : (fs.filter fun d => !(!isRowB g d)) = rowsN g fs := by
  unfold rowsN
  congr 1
  funext d
  simp
set_option maxRecDepth 100000 in
set_option maxHeartbeats 1000000 in
theorem rowNodes_any (A : Option Addr) (n c : Nat) (b0 b1 b2 b3 : Value) (fs : List NodeD) (b : TableD) (w : World) (h : Nodes w w.heap.size A n fs) (hb : TableR w w.heap.size b0 b1 b2 b3 b) (hs : smallNs fs) :
    Calls Tryz.prog 42 #[.agg #[.slice A n c], .agg #[b0, b1, b2, b3]] w (NodesPost w (rowsN b.glob fs)) := by
  have hn : n ≤ 1048576 := by rw [← h.1]; exact hs.1
  have HKc := Lib.hid (fun W (hW : Below w.heap.size w W) => CloneN_any w A n c fs W h hW hn)
  have HT := Lib.hid (fun W (hW : Below w.heap.size w W) => hb.later hW)
  have HS := Lib.hid hs.1
  have HF := Lib.hid (rows_not b.glob fs)
  obtain ⟨rfl, rfl, ⟨A2, n2, p2, rfl, s2, k2⟩, ⟨A3, n3, p3, rfl, s3, k3⟩⟩ := hb
  clear s2 s3 h hs hn
  have HB0 := Lib.hid ((Below.new w (.cells #[.slice A n c] 41)).later (Below.new _ (.cells #[.string b.name, .string b.glob, .slice A2 n2 p2, .slice A3 n3 p3] 43)))
  go_enter Tryz.func42, Tryz.ntmps42
  go_wp2_with fail
  refine (HKc.out _ HB0.out).mono ?_
  rintro e w1 ⟨v, cs, rfl, ho, hc, hb1⟩
  have HP : Hid (PredNode 76 #[.pointer (some ⟨w.heap.size + 1, 0, none⟩)] (fun d => !isRowB b.glob d) fs ((w.alloc (.cells #[.slice A n c] 41)).alloc (.cells #[.string b.name, .string b.glob, .slice A2 n2 p2, .slice A3 n3 p3] 43))) :=
    fun d _ c0 c1 c2 W hW hr => rowNodes1_any (w.heap.size + 1) _ _ _ _ c0 c1 c2 b d W (Blk.later (heap_two1 w _ _) hW (by simp)) (HT.out W (HB0.out.later hW)) hr
  have HKd := Lib.hid (DeleteFuncN_any 76 #[.pointer (some ⟨w.heap.size + 1, 0, none⟩)] (fun d => !isRowB b.glob d) v fs cs _ w1 (nodeC w w.heap.size) (fun c d ⟨c0, c1, c2, e, hr⟩ => ⟨c0, c1, c2, e, hr.later HB0.out⟩) ho hc hb1 HS.out (enters_of Tryz.func76 (by kernel_rfl) rfl) HP.out)
  rw [HF.out] at HKd
  have HB1 := Lib.hid hb1
  clear ho hc hb1
  go_wp2_with fail
  refine HKd.out.mono ?_
  rintro e w2 ⟨v2, cs2, rfl, ho2, hc2, hb2⟩
  have HO2 := Lib.hid ho2
  have HC2 := Lib.hid hc2
  have HB2 := Lib.hid hb2
  clear ho2 hc2 hb2
  go_wp2_with fail
  go_ret
  exact ⟨_, cs2, rfl, Own.own_base HO2.out (by simp; omega), cellsN_iff.2 HC2.out, HB0.out.later HB2.out⟩
end Go.Proofs.YtalpafaflgddpaaGreatDoor

namespace Go.Proofs.YtalpafaflgddpaaGreatDoor
open Go.RowKit

def costB (fs : List NodeD) (b : TableD) (q : QueryD) (p : PlanD) : Int × Int :=
  if (treeB fs && fitsP b q p) = true then (if p.kind = 1 then (if 0 ≤ atI (rowsN b.glob fs) p.val then 1 else 0) else if p.kind = 2 then ((keysN b.glob p.col p.val fs).length : Int) else ((rowsN b.glob fs).length : Int), 0) else (0, 1)
theorem rows_two {g : ByteArray} {fs : List NodeD} : ∀ d ∈ rowsN g fs, d.subs.length = 2 := by
  intro d hd
  unfold rowsN at hd
  rw [List.mem_filter] at hd
  have h1 := hd.2
  unfold isRowB at h1
  simp only [Bool.and_eq_true, decide_eq_true_eq] at h1
  exact h1.2.1
theorem rows_len {g : ByteArray} {fs : List NodeD} (h : smallNs fs) : (rowsN g fs).length ≤ 1048576 := Nat.le_trans (List.length_filter_le _ _) h.1
theorem keys_len {g c v : ByteArray} {fs : List NodeD} (h : smallNs fs) : (keysN g c v fs).length ≤ 1048576 := by
  unfold keysN
  rw [List.length_map]
  exact Nat.le_trans (List.length_filter_le _ _) h.1
set_option maxRecDepth 100000 in
set_option maxHeartbeats 4000000 in
theorem specPlanCost_any (A : Option Addr) (n c : Nat) (b0 b1 b2 b3 c0 c1 c2 c3 c4 c5 e0 e1 e2 : Value) (fs : List NodeD) (b : TableD) (d : QueryD) (p : PlanD) (w : World) (ht : Nodes w w.heap.size A n fs) (hb : TableR w w.heap.size b0 b1 b2 b3 b) (h : QueryR w w.heap.size c0 c1 c2 c3 c4 c5 d) (hp : PlanR w w.heap.size e0 e1 e2 p) (hts : smallNs fs) (hbs : b.small) (hs : d.small) :
    Calls Tryz.prog 10 #[.agg #[.slice A n c], .agg #[b0, b1, b2, b3], .agg #[c0, c1, c2, c3, c4, c5], .agg #[e0, e1, e2]] w fun e w' => e = .returned (.tuple #[.int .i64 (costB fs b d p).1, .int .i64 (costB fs b d p).2]) ∧ Below w.heap.size w w' := by
  have HK1 := Lib.hid (fun W (hW : Below w.heap.size w W) => specTreeOk_any A n c fs W (ht.later hW) hts)
  have HK2 := Lib.hid (fun W (hW : Below w.heap.size w W) => specPlanFits_any b0 b1 b2 b3 c0 c1 c2 c3 c4 c5 e0 e1 e2 b d p W (hb.later hW) (h.later hW) (hp.later hW) hbs hs)
  have HK3 := Lib.hid (fun W (hW : Below w.heap.size w W) => l29Nodes_any A n c b0 b1 b2 b3 fs b W (ht.later hW) (hb.later hW) hts)
  have HK4 := Lib.hid (fun W (hW : Below w.heap.size w W) => l29Keys_any A n c b0 b1 b2 b3 fs b p.col p.val W (ht.later hW) (hb.later hW) hts)
  have HL := Lib.hid (rows_len (g := b.glob) hts)
  have H2 := Lib.hid (rows_two (g := b.glob) (fs := fs))
  generalize hxt : treeB fs = xt at *
  have HR : Hid (costB fs b d p = if (xt && fitsP b d p) = true then (if p.kind = 1 then (if 0 ≤ atI (rowsN b.glob fs) p.val then 1 else 0) else if p.kind = 2 then ((keysN b.glob p.col p.val fs).length : Int) else ((rowsN b.glob fs).length : Int), 0) else (0, 1)) := by
    unfold Hid; rw [← hxt]; rfl
  clear hxt
  obtain ⟨rfl, rfl, ⟨A2, n2, p2, rfl, s2, k2⟩, ⟨A3, n3, p3, rfl, s3, k3⟩⟩ := hb
  obtain ⟨rfl, ⟨B1, m1, q1, rfl, t1, l1⟩, ⟨B2, m2, q2, rfl, t2, l2⟩, rfl, rfl, rfl⟩ := h
  obtain ⟨rfl, rfl, rfl⟩ := hp
  clear s2 s3 t1 t2 ht hts hbs hs
  generalize costB fs b d p = R at *
  generalize fitsP b d p = xf at *
  generalize b.name = nm at *
  generalize b.glob = gl at *
  generalize d.table = tb at *
  generalize d.order = od at *
  generalize d.desc = ds at *
  generalize d.limit = lm at *
  generalize p.kind = kd at *
  generalize p.col = pc at *
  generalize p.val = pv at *
  have HB0 := Lib.hid (below_new4 w (.cells #[.slice A n c] 41) (.cells #[.string nm, .string gl, .slice A2 n2 p2, .slice A3 n3 p3] 43) (.cells #[.string tb, .slice B1 m1 q1, .slice B2 m2 q2, .string od, .bool ds, .int .i64 lm] 47) (.cells #[.int .i64 kd, .string pc, .string pv] 49))
  have HX0 := Lib.hid (heap_0of4 w (.cells #[.slice A n c] 41) (.cells #[.string nm, .string gl, .slice A2 n2 p2, .slice A3 n3 p3] 43) (.cells #[.string tb, .slice B1 m1 q1, .slice B2 m2 q2, .string od, .bool ds, .int .i64 lm] 47) (.cells #[.int .i64 kd, .string pc, .string pv] 49))
  have HX1 := Lib.hid (heap_1of4 w (.cells #[.slice A n c] 41) (.cells #[.string nm, .string gl, .slice A2 n2 p2, .slice A3 n3 p3] 43) (.cells #[.string tb, .slice B1 m1 q1, .slice B2 m2 q2, .string od, .bool ds, .int .i64 lm] 47) (.cells #[.int .i64 kd, .string pc, .string pv] 49))
  have HX2 := Lib.hid (heap_2of4 w (.cells #[.slice A n c] 41) (.cells #[.string nm, .string gl, .slice A2 n2 p2, .slice A3 n3 p3] 43) (.cells #[.string tb, .slice B1 m1 q1, .slice B2 m2 q2, .string od, .bool ds, .int .i64 lm] 47) (.cells #[.int .i64 kd, .string pc, .string pv] 49))
  have HX3 := Lib.hid (heap_3of4 w (.cells #[.slice A n c] 41) (.cells #[.string nm, .string gl, .slice A2 n2 p2, .slice A3 n3 p3] 43) (.cells #[.string tb, .slice B1 m1 q1, .slice B2 m2 q2, .string od, .bool ds, .int .i64 lm] 47) (.cells #[.int .i64 kd, .string pc, .string pv] 49))
  go_enter Tryz.func10, Tryz.ntmps10
  go_wp2_with fail
  refine (HK1.out _ HB0.out).mono ?_
  rintro e w1 ⟨rfl, hb1⟩
  have HB1 := Lib.hid (HB0.out.later hb1)
  have HY0 := Lib.hid (Blk.later HX0.out hb1 (by first | (simp; done) | (simp; omega)))
  have HY1 := Lib.hid (Blk.later HX1.out hb1 (by first | (simp; done) | (simp; omega)))
  have HY2 := Lib.hid (Blk.later HX2.out hb1 (by first | (simp; done) | (simp; omega)))
  have HY3 := Lib.hid (Blk.later HX3.out hb1 (by first | (simp; done) | (simp; omega)))
  clear hb1 HX0 HX1 HX2 HX3
  cases xt
  · have HE : Hid (R = (0, 1)) := by unfold Hid; rw [HR.out]; rfl
    go_wp2_with fail
    refine bodyPost_ret (v := .tuple #[.int .i64 _, .int .i64 _]) (by simp [results, Tryz.results10, go_sem]; try exact ⟨rfl, rfl⟩) rfl ?_
    exact ⟨by rw [HE.out], HB1.out⟩
  have p0 := HY0.out.cell
  have p1 := HY1.out.cell
  have p2' := HY2.out.cell
  have p3' := HY3.out.cell
  have z3 := HY3.out.lt
  go_wp2_with fail
  refine (HK2.out _ HB1.out).mono ?_
  rintro e w2 ⟨rfl, hb2⟩
  have HB2 := Lib.hid (HB1.out.later hb2)
  have HZ0 := Lib.hid (HY0.out.later hb2 HY0.out.lt)
  have HZ1 := Lib.hid (HY1.out.later hb2 HY1.out.lt)
  have HZ3 := Lib.hid (HY3.out.later hb2 HY3.out.lt)
  clear hb2 p0 p1 p2' p3' z3 HY0 HY1 HY2 HY3
  cases xf
  · have HE : Hid (R = (0, 1)) := by unfold Hid; rw [HR.out]; rfl
    go_wp2_with fail
    refine bodyPost_ret (v := .tuple #[.int .i64 _, .int .i64 _]) (by simp [results, Tryz.results10, go_sem]; try exact ⟨rfl, rfl⟩) rfl ?_
    exact ⟨by rw [HE.out], HB2.out⟩
  have p0 := HZ0.out.cell
  have p1 := HZ1.out.cell
  have p3' := HZ3.out.cell
  have z3 := HZ3.out.lt
  have hRS : R = (if kd = 1 then (if 0 ≤ atI (rowsN gl fs) pv then 1 else 0) else if kd = 2 then ((keysN gl pc pv fs).length : Int) else ((rowsN gl fs).length : Int), 0) := by rw [HR.out]; rfl
  have HRS := Lib.hid hRS
  clear hRS HR
  generalize hk3 : rowsN gl fs = rs at *
  clear hk3
  by_cases h1 : kd = 1
  · have HE : Hid (R = (if 0 ≤ atI rs pv then 1 else 0, 0)) := by unfold Hid; rw [HRS.out, if_pos h1]
    subst h1
    go_wp2_with fail
    have y0 := p0 0
    have y10 := p1 0
    have y11 := p1 1
    have y12 := p1 2
    have y13 := p1 3
    have y3 := p3' 2
    simp at y0 y10 y11 y12 y13 y3
    clear HRS p0 p1 p3'
    go_region_held3 (fun w' => w'.cell? ⟨w.heap.size, 0, none⟩ = some (.slice A n c) ∧ w'.cell? ⟨w.heap.size + 1, 0, none⟩ = some (.string nm) ∧ w'.cell? ⟨w.heap.size + 1, 1, none⟩ = some (.string gl) ∧ w'.cell? ⟨w.heap.size + 1, 2, none⟩ = some (.slice A2 n2 p2) ∧ w'.cell? ⟨w.heap.size + 1, 3, none⟩ = some (.slice A3 n3 p3) ∧ w'.cell? ⟨w.heap.size + 1 + 1 + 1, 2, none⟩ = some (.string pv))
      (first | exact ⟨y0, y10, y11, y12, y13, y3⟩ | exact ⟨cell_later hb4 y0, cell_later hb4 y10, cell_later hb4 y11, cell_later hb4 y12, cell_later hb4 y13, cell_later hb4 y3⟩ | exact ⟨cell_later hb3 y0, cell_later hb3 y10, cell_later hb3 y11, cell_later hb3 y12, cell_later hb3 y13, cell_later hb3 y3⟩)
      (first
        | (go_at_call 35; refine (HK3.out _ (by exact HB2.out.drew)).mono ?_; rintro e w3 ⟨v, cs, rfl, ho, hc, hb3'⟩; obtain ⟨A4, cap4, rfl, _, hN4⟩ := nodes_of_row ho rfl hc hb3'; have hb3 := undrew hb3'; have HN4 := Lib.hid hN4; clear hb3' ho hc hN4)
        | (go_at_call 34; refine (l29At_any A4 rs.length cap4 rs pv _ (by exact HN4.out) HL.out H2.out).mono ?_; rintro e w4 ⟨rfl, hb4'⟩; have hb4 := hb3.later hb4'; clear hb4'))
    have HB4 := Lib.hid (HB2.out.later hb4)
    clear hb3 hb4
    by_cases hi : 0 ≤ atI rs pv
    · have HE2 : Hid (R = (1, 0)) := by unfold Hid; rw [HE.out, if_pos hi]
      go_wp2_with fail
      refine bodyPost_ret (v := .tuple #[.int .i64 _, .int .i64 _]) (by simp [results, Tryz.results10, go_sem]; try exact ⟨rfl, rfl⟩) rfl ?_
      exact ⟨by rw [HE2.out], HB4.out⟩
    · have HE2 : Hid (R = (0, 0)) := by unfold Hid; rw [HE.out, if_neg hi]
      go_wp2_with fail
      refine bodyPost_ret (v := .tuple #[.int .i64 _, .int .i64 _]) (by simp [results, Tryz.results10, go_sem]; try exact ⟨rfl, rfl⟩) rfl ?_
      exact ⟨by rw [HE2.out], HB4.out⟩
  by_cases h2 : kd = 2
  · have HE : Hid (R = (((keysN gl pc pv fs).length : Int), 0)) := by unfold Hid; rw [HRS.out, if_neg h1, if_pos h2]
    subst h2
    clear HRS h1
    generalize keysN gl pc pv fs = ks at *
    go_wp2_with fail
    refine (HK4.out _ HB2.out).mono ?_
    rintro e w4 ⟨v4, rfl, ho4, hb4⟩
    obtain ⟨A4, cap4, rfl, _⟩ := ho4.strs
    have HB4 := Lib.hid (HB2.out.later hb4)
    clear ho4 hb4
    go_wp2_with fail
    refine bodyPost_ret (v := .tuple #[.int .i64 _, .int .i64 _]) (by simp [results, Tryz.results10, go_sem]; try exact ⟨rfl, rfl⟩) rfl ?_
    exact ⟨by rw [HE.out], HB4.out⟩
  · have HE : Hid (R = ((rs.length : Int), 0)) := by unfold Hid; rw [HRS.out, if_neg h1, if_neg h2]
    have i1 := int_beq h1
    have i2 := int_beq h2
    clear HRS h1 h2
    go_wp2_with fail
    refine (HK3.out _ HB2.out).mono ?_
    rintro e w4 ⟨v4, cs4, rfl, ho4, _, hb4⟩
    obtain ⟨A4, cap4, rfl, _⟩ := Own.own_slice ho4
    have HB4 := Lib.hid (HB2.out.later hb4)
    clear ho4 hb4
    go_wp2_with fail
    refine bodyPost_ret (v := .tuple #[.int .i64 _, .int .i64 _]) (by simp [results, Tryz.results10, go_sem]; try exact ⟨rfl, rfl⟩) rfl ?_
    exact ⟨by rw [HE.out], HB4.out⟩
end Go.Proofs.YtalpafaflgddpaaGreatDoor

namespace Go.Proofs.YtalpafaflgddpaaGreatDoor
open Go.RowKit Go.Proofs.YtalpafaflgddpaaGreatDoor.Own

theorem Blk.at {w : World} {g : Nat} {t : TypeId} {cs : Array Value} (h : Blk w g t cs) (i : Nat) {v : Value} (hv : cs[i]? = some v) : w.cell? ⟨g, i, none⟩ = some v := (h.cell i).trans hv
theorem toTree_r (c0 : Value) (d : TreeD) (w : World) (h : TreeR w w.heap.size c0 d) (hs : d.small) :
    Calls Tryz.prog 11 #[.agg #[c0]] w fun e w' => ∃ v0, e = .returned (.agg #[v0]) ∧ TreeR w' w'.heap.size v0 d ∧ Below w.heap.size w w' :=
  (toTree_any c0 d w h hs).mono fun e w' ⟨v0, vs0, he, hO, hb⟩ => by
    obtain ⟨A, cap, rfl, hc, hN⟩ := OwnL.Nodes hO
    exact ⟨_, he, ⟨A, _, cap, rfl, hN, hc⟩, hb⟩
theorem toTable_r (c0 c1 c2 c3 : Value) (d : TableD) (w : World) (h : TableR w w.heap.size c0 c1 c2 c3 d) (hs : d.small) :
    Calls Tryz.prog 12 #[.agg #[c0, c1, c2, c3]] w fun e w' => ∃ v0 v1 v2 v3, e = .returned (.agg #[v0, v1, v2, v3]) ∧ TableR w' w'.heap.size v0 v1 v2 v3 d ∧ Below w.heap.size w w' :=
  (toTable_any c0 c1 c2 c3 d w h hs).mono fun e w' ⟨v2, v3, he, h2, h3, _, hb⟩ => by
    obtain ⟨A, cap, rfl, hc, hN⟩ := h2.strs
    obtain ⟨A', cap', rfl, hc', hN'⟩ := h3.strs
    exact ⟨_, _, _, _, he, ⟨rfl, rfl, ⟨A, _, cap, rfl, hN, hc⟩, ⟨A', _, cap', rfl, hN', hc'⟩⟩, hb⟩
theorem toQuery_r (c0 c1 c2 c3 c4 c5 : Value) (d : QueryD) (w : World) (h : QueryR w w.heap.size c0 c1 c2 c3 c4 c5 d) (hs : d.small) :
    Calls Tryz.prog 13 #[.agg #[c0, c1, c2, c3, c4, c5]] w fun e w' => ∃ v0 v1 v2 v3 v4 v5, e = .returned (.agg #[v0, v1, v2, v3, v4, v5]) ∧ QueryR w' w'.heap.size v0 v1 v2 v3 v4 v5 d ∧ Below w.heap.size w w' :=
  (toQuery_any c0 c1 c2 c3 c4 c5 d w h hs).mono fun e w' ⟨v1, v2, vs2, he, h1, h2, hb⟩ => by
    obtain ⟨A, cap, rfl, hc, hN⟩ := h1.strs
    obtain ⟨A', cap', rfl, hc', hN'⟩ := OwnL.Conds h2
    exact ⟨_, _, _, _, _, _, he, ⟨rfl, ⟨A, _, cap, rfl, hN, hc⟩, ⟨A', _, cap', rfl, hN', hc'⟩, rfl, rfl, rfl⟩, hb⟩
theorem toPlan_r (c0 c1 c2 : Value) (d : PlanD) (w : World) (h : PlanR w w.heap.size c0 c1 c2 d) :
    Calls Tryz.prog 14 #[.agg #[c0, c1, c2]] w fun e w' => ∃ v0 v1 v2, e = .returned (.agg #[v0, v1, v2]) ∧ PlanR w' w'.heap.size v0 v1 v2 d ∧ Below w.heap.size w w' :=
  (toPlan_any c0 c1 c2 d w h).mono fun _ _ ⟨he, hb⟩ => ⟨_, _, _, he, ⟨rfl, rfl, rfl⟩, hb⟩
end Go.Proofs.YtalpafaflgddpaaGreatDoor

namespace Go.Proofs.YtalpafaflgddpaaGreatDoor
open Go.RowKit

theorem cut_piece (s : ByteArray) (f k : Nat) : s.extract f k = ⟨((s.data.toList.drop f).take (k - f)).toArray⟩ := by
  have h : (s.extract f k).data.toList = (s.data.toList.drop f).take (k - f) := by
    rw [ByteArray.data_extract, Array.toList_extract, List.extract_eq_take_drop]
  apply bytes_ext
  rw [toList_data, h, toList_data]
/-- The state of l29Cut: the pieces done, the rest from f on, no mark from f up to k. -/
structure CutI (c : UInt8) (l : List UInt8) (k f : Nat) (done : List ByteArray) : Prop where
  fk : f ≤ k
  kl : k ≤ l.length
  eq : (cutL c l).map (fun x => (⟨x.toArray⟩ : ByteArray)) = done ++ (cutL c (l.drop f)).map (fun x => ⟨x.toArray⟩)
  free : c ∉ (l.drop f).take (k - f)
theorem CutI.start (c : UInt8) (l : List UInt8) : CutI c l 0 0 [] := ⟨Nat.le_refl _, Nat.zero_le _, by simp, by simp⟩
theorem CutI.skip {c : UInt8} {l : List UInt8} {k f : Nat} {done : List ByteArray} (h : CutI c l k f done) (hk : k < l.length) (hc : l[k] ≠ c) : CutI c l (k + 1) f done := by
  have h1 := h.fk
  refine ⟨by omega, by omega, h.eq, ?_⟩
  rw [show k + 1 - f = (k - f) + 1 by omega, List.take_succ_eq_append_getElem (by rw [List.length_drop]; omega)]
  rw [List.mem_append, List.mem_singleton]
  rintro (h2 | h2)
  · exact h.free h2
  · apply hc
    rw [List.getElem_drop] at h2
    rw [h2]
    congr 1
    omega
theorem CutI.hit {l : List UInt8} {s : ByteArray} {k f : Nat} {done : List ByteArray} {c : UInt8} (hs : s.data.toList = l) (h : CutI c l k f done) (hk : k < l.length) (hc : l[k] = c) : CutI c l (k + 1) (k + 1) (done ++ [s.extract f k]) := by
  have h1 := h.fk
  refine ⟨Nat.le_refl _, by omega, ?_, by simp⟩
  have hd : l.drop f = (l.drop f).take (k - f) ++ c :: l.drop (k + 1) := by
    have := List.take_append_drop (k - f) (l.drop f)
    rw [List.drop_drop, show f + (k - f) = k by omega, List.drop_eq_getElem_cons hk, hc] at this
    exact this.symm
  rw [h.eq, hd, cutL_mark _ _ _ h.free, List.map_cons, List.append_assoc, List.singleton_append, cut_piece, hs]
theorem CutI.last {l : List UInt8} {s : ByteArray} {f : Nat} {done : List ByteArray} {c : UInt8} (hs : s.data.toList = l) (h : CutI c l l.length f done) : cutS c s = done ++ [s.extract f l.length] := by
  have h1 := h.fk
  unfold cutS
  rw [hs, h.eq]
  have hf := h.free
  rw [List.take_of_length_le (by rw [List.length_drop]; omega)] at hf
  rw [cutL_free _ _ hf, cut_piece, hs, List.take_of_length_le (by rw [List.length_drop]; omega)]
  rfl
set_option maxRecDepth 100000 in
set_option maxHeartbeats 2000000 in
theorem l29Cut_any (s : ByteArray) (w : World) (hs : s.size ≤ 1048576) :
    Calls Tryz.prog 120 #[.string s] w fun e w' => ∃ v, e = .returned v ∧ Own.SubO w' w.heap.size v (cutS 94 s) ∧ Below w.heap.size w w' := by
  obtain ⟨i0, hi, hz0, hz1, hz2⟩ := info_parts infoS
  have hsz : s.data.toList.length = s.size := (Lib.size_eq s).symm
  have HSZ := Lib.hid hsz
  clear hsz
  go_enter Tryz.func120, Tryz.ntmps120
  go_wp2_with fail
  go_loopw [3, 4, 5] (fun v f i wr => ∃ (k fr : Nat) (done : List ByteArray), i = .int .i64 k ∧ f = .int .i64 fr ∧ fr ≤ k ∧ k ≤ s.size + 1 ∧ done.length ≤ k ∧ wr.ownsRow w.heap.size 9 1 v done.length (done.map Value.string) ∧ Below w.heap.size w wr ∧ Hid ((k ≤ s.size ∧ CutI 94 s.data.toList k fr done) ∨ (k = s.size + 1 ∧ cutS 94 s = done))) (fun _ _ i _ => s.size + 1 - (intOf i).toNat)
  case atStart =>
    refine ⟨0, 0, [], rfl, rfl, Nat.le_refl _, Nat.zero_le _, Nat.le_refl _, ?_, Below.new _ _, .inl ⟨Nat.zero_le _, CutI.start _ _⟩⟩
    simpa using World.ownsRow_lit (e := 9) (size := 1) w #[] 0 (Nat.le_refl _) (by omega) rfl
  case round =>
    obtain ⟨k, f, done, rfl, rfl, hfk, hk, hdl, hown, hb, hI⟩ := hrel
    have HO := Lib.hid hown
    have HB := Lib.hid hb
    clear hown hb
    have hrow : Hid (∀ o, (wr.alloc o).ownsRow w.heap.size 9 1 u3 done.length (done.map Value.string)) := fun o => Own.own_later HO.out (Below.new _ _)
    have hbz := HB.out.size
    by_cases hle : k ≤ s.size
    · have HC : Hid (CutI 94 s.data.toList k f done) := by
        rcases hI.out with h | h
        · exact h.2
        · exact absurd h.1 (by omega)
      clear hI
      by_cases hlt : k < s.size
      · have hkl : k < s.data.toList.length := by rw [HSZ.out]; exact hlt
        have HG : Hid (s.data.toList[k] = s[k]) := rfl
        by_cases h3 : s[k].toNat = 94
        · have HN : Hid (CutI 94 s.data.toList (k + 1) (k + 1) (done ++ [s.extract f k])) := HC.out.hit rfl hkl (by rw [HG.out]; exact UInt8.toNat_inj.1 h3)
          have hb3 : ((s[k].toNat : Int) == 94) = true := by rw [beq_iff_eq]; omega
          have hb4 : (s[k].toNat == 94) = true := by rw [beq_iff_eq]; omega
          have hne : ((k : Int) == (s.size : Int)) = false := by rw [beq_eq_false_iff_ne]; omega
          have hne2 : (k == s.size) = false := by rw [beq_eq_false_iff_ne]; omega
          clear h3
          go_wp2_with (at_builtin; refine wpList_append_own _ rfl (.tmp 23) (.tmp 28) 25 rfl w.heap.size 9 i0 _ 1 16 Tryz.underlying25 hi hz0 hz1 hz2 rfl (by decide) _ done.length _ rfl (hrow.out _) ⟨_, 0, none⟩ 1 1 [.string (s.extract f k)] rfl rfl ?c1 ?c2 ?c3 ?c4 ?c5 ?_)
          all_goals try (first | exact cells_atN _ #[.string (s.extract f k)] _ _ (by simp) | (simp [Value.oneCell']; done) | (unfold maxLen; omega) | omega | (simp; omega))
          intro v1 w2 hown1 hg1 _
          have HO3 : Hid (w2.ownsRow w.heap.size 9 1 v1 (done ++ [s.extract f k]).length ((done ++ [s.extract f k]).map Value.string)) := by
            unfold Hid
            rw [List.length_append, List.length_singleton, List.map_append]
            exact hown1
          have HB3 := Lib.hid (below_own (HB.out.later (Below.new wr _)) (hrow.out _) (Nat.le_refl _) hg1)
          clear hown1 hg1
          go_wp2_with fail
          go_roundw
          case rel => exact ⟨k + 1, k + 1, _, by go_num, by go_num, by omega, by omega, (by first | (simp; done) | (simp; omega)), HO3.out, HB3.out, .inl ⟨by omega, HN.out⟩⟩
          case measure => simp [intOf]; omega
        · have HN : Hid (CutI 94 s.data.toList (k + 1) f done) := HC.out.skip hkl (by rw [HG.out]; intro e; exact h3 (by rw [e]; rfl))
          have hb3 : ((s[k].toNat : Int) == 94) = false := by rw [beq_eq_false_iff_ne]; omega
          have hb4 : (s[k].toNat == 94) = false := by rw [beq_eq_false_iff_ne]; omega
          have hne : ((k : Int) == (s.size : Int)) = false := by rw [beq_eq_false_iff_ne]; omega
          have hne2 : (k == s.size) = false := by rw [beq_eq_false_iff_ne]; omega
          clear h3
          go_wp2_with fail
          go_roundw
          case rel => exact ⟨k + 1, f, done, by go_num, rfl, by omega, by omega, by omega, HO.out, HB.out, .inl ⟨by omega, HN.out⟩⟩
          case measure => simp [intOf]; omega
      · obtain rfl : k = s.size := by omega
        have HN : Hid (cutS 94 s = done ++ [s.extract f s.size]) := by
          have h := HC.out
          have e := HSZ.out
          have h2 : CutI 94 s.data.toList s.data.toList.length f done := by rw [e]; exact h
          have h3 := h2.last rfl
          rw [e] at h3
          exact h3
        go_wp2_with (at_builtin; refine wpList_append_own _ rfl (.tmp 23) (.tmp 28) 25 rfl w.heap.size 9 i0 _ 1 16 Tryz.underlying25 hi hz0 hz1 hz2 rfl (by decide) _ done.length _ rfl (hrow.out _) ⟨_, 0, none⟩ 1 1 [.string (s.extract f s.size)] rfl rfl ?d1 ?d2 ?d3 ?d4 ?d5 ?_)
        all_goals try (first | exact cells_atN _ #[.string (s.extract f s.size)] _ _ (by simp) | (simp [Value.oneCell']; done) | (unfold maxLen; omega) | omega | (simp; omega))
        intro v1 w2 hown1 hg1 _
        have HO3 : Hid (w2.ownsRow w.heap.size 9 1 v1 (done ++ [s.extract f s.size]).length ((done ++ [s.extract f s.size]).map Value.string)) := by
          unfold Hid
          rw [List.length_append, List.length_singleton, List.map_append]
          exact hown1
        have HB3 := Lib.hid (below_own (HB.out.later (Below.new wr _)) (hrow.out _) (Nat.le_refl _) hg1)
        clear hown1 hg1
        go_wp2_with fail
        go_roundw
        case rel => exact ⟨s.size + 1, s.size + 1, _, by go_num, by go_num, by omega, by omega, (by first | (simp; done) | (simp; omega)), HO3.out, HB3.out, .inr ⟨rfl, HN.out⟩⟩
        case measure => first | (simp [intOf]; done) | (simp [intOf]; omega)
    · have HE : Hid (cutS 94 s = done) := by
        rcases hI.out with h | h
        · exact absurd h.1 hle
        · exact h.2
      go_wp2_with fail
      go_ret
      refine ⟨_, rfl, ?_, HB.out⟩
      rw [HE.out]
      exact HO.out
end Go.Proofs.YtalpafaflgddpaaGreatDoor

namespace Go.Proofs.YtalpafaflgddpaaGreatDoor
open Go.RowKit

/-- A row's cell, as it is read. -/
def RowR (w : World) (B : Nat) (c0 : Value) (d : List ByteArray) : Prop := ∃ A n cap, c0 = .slice A n cap ∧ Strs w B A n d ∧ n ≤ cap
theorem RowR.later {w w' : World} {c0 : Value} {d : List ByteArray} (h : RowR w w.heap.size c0 d) (hb : Below w.heap.size w w') : RowR w' w'.heap.size c0 d := by
  obtain ⟨A, n, cap, e, s, k⟩ := h
  exact ⟨A, n, cap, e, s.later hb, k⟩
def smallR (d : List ByteArray) : Prop := d.length ≤ 1048576 ∧ ∀ s ∈ d, s.size ≤ 1048576
def rowB (cols d : List ByteArray) : Bool := decide (d.length = cols.length) && (decide (d.getD 0 ByteArray.empty ≠ ⟨#[]⟩) && d.all cellB)
theorem all_stepR (p : ByteArray → Bool) (l : List ByteArray) (k : Nat) (h : k < l.length) : (l.drop k).all p = (p (l.getD k ByteArray.empty) && (l.drop (k + 1)).all p) := by
  rw [List.drop_eq_getElem_cons h, List.all_cons, List.getD_eq_getElem?_getD, List.getElem?_eq_getElem h]
  rfl
theorem getD_memS (l : List ByteArray) (k : Nat) (h : k < l.length) : l.getD k ByteArray.empty ∈ l := by
  rw [List.getD_eq_getElem?_getD, List.getElem?_eq_getElem h]
  exact List.getElem_mem h
set_option maxRecDepth 100000 in
set_option maxHeartbeats 2000000 in
theorem l29Row_any (b0 b1 b2 b3 r0 : Value) (b : TableD) (d : List ByteArray) (w : World) (hb : TableR w w.heap.size b0 b1 b2 b3 b) (h : RowR w w.heap.size r0 d) (hs : smallR d) (hpos : 0 < b.cols.length) :
    Calls Tryz.prog 121 #[.agg #[b0, b1, b2, b3], .agg #[r0]] w fun e w' => e = .returned (.bool (rowB b.cols d)) ∧ Below w.heap.size w w' := by
  obtain ⟨rfl, rfl, ⟨A2, n2, p2, rfl, s2, k2⟩, ⟨A3, n3, p3, rfl, s3, k3⟩⟩ := hb
  obtain ⟨A, n, cap, rfl, hS, hcap⟩ := h
  have HR : Hid (rowB b.cols d = (decide (n = n2) && (decide (d.getD 0 ByteArray.empty ≠ ⟨#[]⟩) && d.all cellB))) := by unfold Hid rowB; rw [hS.1, s2.1]
  rw [s2.1] at hpos
  have hn : n ≤ 1048576 := by rw [← hS.1]; exact hs.1
  have HSS := Lib.hid hS
  have HK := Lib.hid (fun W k (hk : k < d.length) => l29Cell_any (d.getD k ByteArray.empty) W (hs.2 _ (getD_memS d k hk)))
  have HB0 := Lib.hid ((Below.new w (.cells #[.string b.name, .string b.glob, .slice A2 n2 p2, .slice A3 n3 p3] 43)).later (Below.new _ (.cells #[.slice A n cap] 90)))
  have HX1 := Lib.hid (heap_two1 w (.cells #[.string b.name, .string b.glob, .slice A2 n2 p2, .slice A3 n3 p3] 43) (.cells #[.slice A n cap] 90))
  clear s2 s3 hS hs
  generalize rowB b.cols d = R at *
  generalize b.name = nm at *
  generalize b.glob = gl at *
  go_enter Tryz.func121, Tryz.ntmps121
  by_cases hlen : n = n2
  case neg =>
    have HE : Hid (R = false) := by unfold Hid; rw [HR.out, decide_eq_false hlen]; rfl
    have hb3 : ((n : Int) == (n2 : Int)) = false := by rw [beq_eq_false_iff_ne]; omega
    have hb4 : (n == n2) = false := by rw [beq_eq_false_iff_ne]; omega
    have hb5 : ((n : Int) != (n2 : Int)) = true := by rw [bne, hb3]; rfl
    clear hlen HR
    go_wp2_with fail
    go_ret
    exact ⟨ret_bool HE.out.symm, HB0.out⟩
  subst hlen
  obtain ⟨bk, o, rfl, hbk, hcell⟩ := (HSS.out.later HB0.out).2 hpos
  have hck := hcell 0 hpos
  rw [Nat.add_zero] at hck
  have HC := Lib.hid hcell
  clear hcell
  have hn0 : (0 : Int) < (n : Int) := by omega
  generalize hd0 : d.getD 0 ByteArray.empty = s0 at *
  by_cases h0 : s0 = ⟨#[]⟩
  · have HE : Hid (R = false) := by unfold Hid; rw [HR.out, decide_eq_false (show ¬ (s0 ≠ ⟨#[]⟩) from fun hh => hh h0)]; simp
    subst h0
    clear HR
    go_wp2_with fail
    go_ret
    exact ⟨ret_bool HE.out.symm, HB0.out⟩
  have HE : Hid (R = (d.drop 0).all cellB) := by unfold Hid; rw [HR.out, decide_eq_true h0]; simp
  have hbe := str_beq h0
  have hbe3 := ne_empty h0
  clear h0 HR hd0
  go_wp2_with fail
  go_loopw [5] (fun i wr => ∃ k : Nat, k ≤ n ∧ i = .int .i64 k ∧ wr = ((w.alloc (.cells #[.string nm, .string gl, .slice A2 n p2, .slice A3 n3 p3] 43)).alloc (.cells #[.slice (some ⟨bk, o, none⟩) n cap] 90)) ∧ Hid (R = (d.drop k).all cellB)) (fun i _ => n - (intOf i).toNat)
  case atStart => exact ⟨0, Nat.zero_le _, rfl, rfl, HE.out⟩
  case round =>
    obtain ⟨k, hk, rfl, rfl, hS⟩ := hrel
    by_cases hlt : k < n
    · have hl : k < d.length := by rw [HSS.out.1]; exact hlt
      have HSt := Lib.hid (all_stepR cellB d k hl)
      have hck2 := HC.out k hlt
      have HKk := Lib.hid (fun W => HK.out W k hl)
      clear hl
      generalize d.getD k ByteArray.empty = s at *
      generalize cellB s = x at *
      go_wp2_with fail
      refine (HKk.out _).mono ?_
      rintro e w1 ⟨rfl, rfl⟩
      cases x
      · have HE2 : Hid (R = false) := by unfold Hid; rw [hS.out, HSt.out]; rfl
        go_wp2_with fail
        go_ret
        exact ⟨ret_bool HE2.out.symm, HB0.out⟩
      · have HE2 : Hid (R = (d.drop (k + 1)).all cellB) := by unfold Hid; rw [hS.out, HSt.out]; rfl
        go_wp2_with fail
        go_roundw
        case rel => exact ⟨k + 1, by omega, by go_num, (by first | rfl | trivial), HE2.out⟩
        case measure => simp [intOf]; omega
    · have HE2 : Hid (R = true) := by unfold Hid; rw [hS.out, List.drop_of_length_le (by rw [HSS.out.1]; omega)]; rfl
      go_wp2_with fail
      go_ret
      exact ⟨ret_bool HE2.out.symm, HB0.out⟩

/-- What a condition says of a cell. -/
def condT (cell : ByteArray) (c : CondD) : Bool := if c.op = 1 then decide (cell = c.val) else if c.op = 4 then decide (cell ≠ c.val) else if c.op = 2 then beforeB cell c.val else if c.op = 3 then beforeB c.val cell else false
set_option maxHeartbeats 2000000 in
theorem specCondTrue_any (cell : ByteArray) (c0 c1 c2 : Value) (d : CondD) (w : World) (h : CondR w w.heap.size c0 c1 c2 d) (hs : d.small) (hc : cell.size ≤ 1048576) :
    Calls Tryz.prog 122 #[.string cell, .agg #[c0, c1, c2]] w fun e w' => e = .returned (.bool (condT cell d)) ∧ Below w.heap.size w w' := by
  obtain ⟨rfl, rfl, rfl⟩ := h
  have HR : Hid (condT cell d = (if d.op = 1 then decide (cell = d.val) else if d.op = 4 then decide (cell ≠ d.val) else if d.op = 2 then beforeB cell d.val else if d.op = 3 then beforeB d.val cell else false)) := rfl
  have HK1 := Lib.hid (fun W => specBefore_any cell d.val W hc hs.2)
  have HK2 := Lib.hid (fun W => specBefore_any d.val cell W hs.2 hc)
  have HB0 := Lib.hid (fun o => Below.new w o)
  clear hs hc
  generalize condT cell d = R at *
  generalize d.op = op at *
  generalize d.col = cl at *
  generalize d.val = vl at *
  go_enter Tryz.func122, Tryz.ntmps122
  by_cases h1 : op = 1
  · have HE : Hid (R = decide (cell = vl)) := by unfold Hid; rw [HR.out, if_pos h1]
    subst h1
    clear HR
    by_cases he : cell = vl
    · have HE2 : Hid (R = true) := by unfold Hid; rw [HE.out, decide_eq_true he]
      subst he
      go_wp2_with fail
      go_ret
      exact ⟨ret_bool HE2.out.symm, HB0.out _⟩
    · have HE2 : Hid (R = false) := by unfold Hid; rw [HE.out, decide_eq_false he]
      have hbe := str_beq he
      clear he
      go_wp2_with fail
      go_ret
      exact ⟨ret_bool HE2.out.symm, HB0.out _⟩
  by_cases h4 : op = 4
  · have HE : Hid (R = decide (cell ≠ vl)) := by unfold Hid; rw [HR.out, if_neg h1, if_pos h4]
    subst h4
    clear HR h1
    by_cases he : cell = vl
    · have HE2 : Hid (R = false) := by unfold Hid; rw [HE.out, decide_eq_false (fun h => h he)]
      subst he
      go_wp2_with fail
      go_ret
      exact ⟨ret_bool HE2.out.symm, HB0.out _⟩
    · have HE2 : Hid (R = true) := by unfold Hid; rw [HE.out, decide_eq_true he]
      have hbe := str_beq he
      have hbn := str_bne he
      clear he
      go_wp2_with fail
      go_ret
      exact ⟨ret_bool HE2.out.symm, HB0.out _⟩
  by_cases h2 : op = 2
  · have HE : Hid (R = beforeB cell vl) := by unfold Hid; rw [HR.out, if_neg h1, if_neg h4, if_pos h2]
    subst h2
    clear HR h1 h4
    generalize beforeB cell vl = x at *
    go_wp2_with fail
    refine (HK1.out _).mono ?_
    rintro e w1 ⟨rfl, hb1⟩
    have HB := Lib.hid ((HB0.out _).later hb1)
    clear hb1
    go_wp2_with fail
    go_ret
    exact ⟨ret_bool HE.out.symm, HB.out⟩
  by_cases h3 : op = 3
  · have HE : Hid (R = beforeB vl cell) := by unfold Hid; rw [HR.out, if_neg h1, if_neg h4, if_neg h2, if_pos h3]
    subst h3
    clear HR h1 h4 h2
    generalize beforeB vl cell = x at *
    go_wp2_with fail
    refine (HK2.out _).mono ?_
    rintro e w1 ⟨rfl, hb1⟩
    have HB := Lib.hid ((HB0.out _).later hb1)
    clear hb1
    go_wp2_with fail
    go_ret
    exact ⟨ret_bool HE.out.symm, HB.out⟩
  · have HE : Hid (R = false) := by unfold Hid; rw [HR.out, if_neg h1, if_neg h4, if_neg h2, if_neg h3]
    have i1 := int_beq h1
    have i2 := int_beq h2
    have i3 := int_beq h3
    have i4 := int_beq h4
    clear HR h1 h2 h3 h4
    go_wp2_with fail
    go_ret
    exact ⟨ret_bool HE.out.symm, HB0.out _⟩
end Go.Proofs.YtalpafaflgddpaaGreatDoor

namespace Go.Proofs.YtalpafaflgddpaaGreatDoor
open Go.RowKit

/-- The cells of a row that a key and a value make. -/
def rowOfKV (cols : List ByteArray) (key val : ByteArray) : List ByteArray := key :: (if 1 < cols.length then cutS 94 val else [])
def unpackB (cols : List ByteArray) (key val : ByteArray) : Option (List ByteArray) :=
  if ((decide (cols.length = 1) && decide (val ≠ ⟨#[]⟩)) || !rowB cols (rowOfKV cols key val)) = true then none else some (rowOfKV cols key val)
def codeU (o : Option (List ByteArray)) : Int := if o.isSome = true then 0 else 14
/-- A row and a code are handed back; the row lies in memory of the call's own. -/
def UnpPost (o : Option (List ByteArray)) (w : World) (e : Ending) (w' : World) : Prop := ∃ v, e = .returned (.tuple #[.agg #[v], .int .i64 (codeU o)]) ∧ Own.SubO w' w.heap.size v (o.getD []) ∧ Below w.heap.size w w'
theorem cutS_small (c : UInt8) (s : ByteArray) : (cutS c s).length ≤ s.size + 1 ∧ ∀ x ∈ cutS c s, x.size ≤ s.size := by
  unfold cutS
  constructor
  · rw [List.length_map]
    have := cutL_len c s.data.toList
    rw [← Lib.size_eq] at this
    exact this
  · intro x hx
    obtain ⟨l, hl, rfl⟩ := List.mem_map.1 hx
    have := cutL_small c s.data.toList l hl
    rw [← Lib.size_eq] at this
    rw [Lib.size_eq]
    simpa using this
theorem rowOf_small (cols : List ByteArray) (key val : ByteArray) (hk : key.size ≤ 1048576) (hv : val.size ≤ 64) : smallR (rowOfKV cols key val) := by
  unfold rowOfKV
  have h := cutS_small 94 val
  split
  · refine ⟨by simp; omega, fun s hs => ?_⟩
    rcases List.mem_cons.1 hs with rfl | hs
    · exact hk
    · have := h.2 s hs
      omega
  · exact ⟨by simp, fun s hs => by rw [List.mem_singleton.1 hs]; exact hk⟩
theorem cutS_ne (c : UInt8) (s : ByteArray) : 0 < (cutS c s).length := by
  unfold cutS
  rw [List.length_map]
  exact List.length_pos_iff.2 (cutL_ne _ _)
theorem oneCells_strs (ss : List ByteArray) : ∀ u ∈ ss.map Value.string, u.oneCell' = true := by
  intro u hu
  obtain ⟨s, _, rfl⟩ := List.mem_map.1 hu
  rfl
set_option maxRecDepth 100000 in
set_option maxHeartbeats 4000000 in
theorem l29Unpack_any (b0 b1 b2 b3 : Value) (b : TableD) (key val : ByteArray) (w : World) (hb : TableR w w.heap.size b0 b1 b2 b3 b) (hpos : 0 < b.cols.length) (hn5 : b.cols.length ≤ 5) (hk : key.size ≤ 1048576) (hv : val.size ≤ 64) :
    Calls Tryz.prog 85 #[.agg #[b0, b1, b2, b3], .string key, .string val] w (UnpPost (unpackB b.cols key val) w) := by
  obtain ⟨i0, hi, hz0, hz1, hz2⟩ := info_parts infoS
  have HT := Lib.hid (fun W (hW : Below w.heap.size w W) => hb.later hW)
  have HRS := Lib.hid (rowOf_small b.cols key val hk hv)
  have HKC := Lib.hid (fun W => l29Cut_any val W (by omega))
  have HKR := Lib.hid (fun W (hW : Below w.heap.size w W) r0 (hr : RowR W W.heap.size r0 (rowOfKV b.cols key val)) => l29Row_any b0 b1 b2 b3 r0 b (rowOfKV b.cols key val) W (hb.later hW) hr (rowOf_small b.cols key val hk hv) hpos)
  have HU : Hid (unpackB b.cols key val = (if ((decide (b.cols.length = 1) && decide (val ≠ ⟨#[]⟩)) || !rowB b.cols (rowOfKV b.cols key val)) = true then none else some (rowOfKV b.cols key val))) := rfl
  have HCL := Lib.hid (cutS_small 94 val)
  have HCN := Lib.hid (cutS_ne 94 val)
  obtain ⟨rfl, rfl, ⟨A2, n2, p2, rfl, s2, k2⟩, ⟨A3, n3, p3, rfl, s3, k3⟩⟩ := hb
  have hl2 := s2.1
  have HRV : Hid (rowOfKV b.cols key val = key :: (if 1 < n2 then cutS 94 val else [])) := by unfold Hid rowOfKV; rw [hl2]
  rw [hl2] at hpos hn5
  rw [hl2] at HU
  clear s2 s3 hl2
  generalize unpackB b.cols key val = U at *
  generalize rowB b.cols (rowOfKV b.cols key val) = rb at *
  generalize rowOfKV b.cols key val = ROW at *
  generalize b.name = nm at *
  generalize b.glob = gl at *
  generalize cutS 94 val = CS at *
  have HB0 := Lib.hid (below_new4 w (.cells #[.string nm, .string gl, .slice A2 n2 p2, .slice A3 n3 p3] 43) (.cells #[.slice none 0 0] 90) (.cells #[.string key] 9) (.cells #[.slice (some ⟨w.heap.size + 1 + 1, 0, none⟩) 1 1] 90))
  have HX0 := Lib.hid (heap_0of4 w (.cells #[.string nm, .string gl, .slice A2 n2 p2, .slice A3 n3 p3] 43) (.cells #[.slice none 0 0] 90) (.cells #[.string key] 9) (.cells #[.slice (some ⟨w.heap.size + 1 + 1, 0, none⟩) 1 1] 90))
  have HX1 := Lib.hid (heap_1of4 w (.cells #[.string nm, .string gl, .slice A2 n2 p2, .slice A3 n3 p3] 43) (.cells #[.slice none 0 0] 90) (.cells #[.string key] 9) (.cells #[.slice (some ⟨w.heap.size + 1 + 1, 0, none⟩) 1 1] 90))
  have HX2 := Lib.hid (heap_2of4 w (.cells #[.string nm, .string gl, .slice A2 n2 p2, .slice A3 n3 p3] 43) (.cells #[.slice none 0 0] 90) (.cells #[.string key] 9) (.cells #[.slice (some ⟨w.heap.size + 1 + 1, 0, none⟩) 1 1] 90))
  have HX3 := Lib.hid (heap_3of4 w (.cells #[.string nm, .string gl, .slice A2 n2 p2, .slice A3 n3 p3] 43) (.cells #[.slice none 0 0] 90) (.cells #[.string key] 9) (.cells #[.slice (some ⟨w.heap.size + 1 + 1, 0, none⟩) 1 1] 90))
  go_enter Tryz.func85, Tryz.ntmps85
  by_cases h1 : n2 = 1
  · subst h1
    have HRV2 : Hid (ROW = [key]) := by unfold Hid; rw [HRV.out, if_neg (by omega)]
    clear HRV
    by_cases hve : val = ⟨#[]⟩
    · have HE : Hid (U = if rb = true then some ROW else none) := by
        unfold Hid
        rw [HU.out, decide_eq_false (show ¬ (val ≠ ⟨#[]⟩) from fun h => h hve)]
        cases rb <;> simp
      have HSub : Hid (Own.SubO ((((w.alloc (.cells #[.string nm, .string gl, .slice A2 1 p2, .slice A3 n3 p3] 43)).alloc (.cells #[.slice none 0 0] 90)).alloc (.cells #[.string key] 9)).alloc (.cells #[.slice (some ⟨w.heap.size + 1 + 1, 0, none⟩) 1 1] 90)) w.heap.size (.slice (some ⟨w.heap.size + 1 + 1, 0, none⟩) 1 1) [key]) :=
        Own.sub_of_blk (ss := [key]) HX2.out (by omega) (by simp [maxLen])
      subst hve
      clear HU
      go_wp2_with fail
      refine (HKR.out _ HB0.out _ (by obtain ⟨A, c, e, hc, hs⟩ := HSub.out.strs; rw [HRV2.out]; exact ⟨A, _, c, e, hs, hc⟩)).mono ?_
      rintro e w1 ⟨rfl, hb1⟩
      have HB1 := Lib.hid (HB0.out.later hb1)
      have HY1 := Lib.hid (Blk.later HX1.out hb1 (by first | (simp; done) | (simp; omega)))
      have HY3 := Lib.hid (Blk.later HX3.out hb1 (by first | (simp; done) | (simp; omega)))
      have HS1 := Lib.hid (Own.own_later HSub.out hb1)
      have p1 := HY1.out.cell
      have f1 := HY1.out.frozen
      have z1 := HY1.out.lt
      have p3' := HY3.out.cell
      have z3 := HY3.out.lt
      clear hb1
      cases rb
      · have HE2 : Hid (U = none) := by unfold Hid; rw [HE.out]; rfl
        go_wp2_with fail
        refine bodyPost_ret (v := .tuple #[.agg #[.slice none 0 0], .int .i64 14]) (by simp [results, Tryz.results85, go_sem, p1]) rfl ?_
        rw [HE2.out]
        exact ⟨_, rfl, Own.sub_nil _ _, HB1.out.setCell (by simp) _⟩
      · have HE2 : Hid (U = some [key]) := by unfold Hid; rw [HE.out, HRV2.out]; rfl
        go_wp2_with fail
        refine bodyPost_ret (v := .tuple #[.agg #[.slice (some ⟨w.heap.size + 1 + 1, 0, none⟩) 1 1], .int .i64 0]) (by simp [results, Tryz.results85, go_sem, p1]) rfl ?_
        rw [HE2.out]
        refine ⟨_, rfl, ?_, HB1.out.setCell (by simp) _⟩
        exact World.ownsRow.kept HS1.out (row := some (w.heap.size + 1)) (Own.grown_set _ _ _ _) (.inr (by simp [Value.ownBlock]))
    · have HE : Hid (U = none) := by
        unfold Hid
        rw [HU.out, decide_eq_true hve]
        rfl
      have hbe := str_beq hve
      have hbn := str_bne hve
      have hbe3 := ne_empty hve
      have p1 := Blk.cell HX1.out
      have f1 := Blk.frozen HX1.out
      have z1 := Blk.lt HX1.out
      clear hve HU
      go_wp2_with fail
      refine bodyPost_ret (v := .tuple #[.agg #[.slice none 0 0], .int .i64 14]) (by simp [results, Tryz.results85, go_sem, p1]) rfl ?_
      rw [HE.out]
      first | exact ⟨_, rfl, Own.sub_nil _ _, HB0.out⟩ | exact ⟨_, rfl, Own.sub_nil _ _, HB0.out.setCell (by simp) _⟩
  · have hgt : 1 < n2 := by omega
    have HRV2 : Hid (ROW = key :: CS) := by unfold Hid; rw [HRV.out, if_pos hgt]
    have HE : Hid (U = if rb = true then some ROW else none) := by
      unfold Hid
      rw [HU.out, decide_eq_false h1]
      cases rb <;> simp
    have hg1 : (1 : Int) < (n2 : Int) := by omega
    have hne1 : ((n2 : Int) == 1) = false := by rw [beq_eq_false_iff_ne]; omega
    have hne2 : (n2 == 1) = false := by rw [beq_eq_false_iff_ne]; omega
    clear HRV HU h1
    have p3' := Blk.cell HX3.out 0
    have f3 := Blk.frozen HX3.out 0
    have z3 := Blk.lt HX3.out
    simp at p3'
    have hsz0 : w.heap.size + 1 + 1 + 1 + 1 = ((((w.alloc (.cells #[.string nm, .string gl, .slice A2 n2 p2, .slice A3 n3 p3] 43)).alloc (.cells #[.slice none 0 0] 90)).alloc (.cells #[.string key] 9)).alloc (.cells #[.slice (some ⟨w.heap.size + 1 + 1, 0, none⟩) 1 1] 90)).heap.size := by simp
    have HRA0 : Hid (Own.SubO ((((w.alloc (.cells #[.string nm, .string gl, .slice A2 n2 p2, .slice A3 n3 p3] 43)).alloc (.cells #[.slice none 0 0] 90)).alloc (.cells #[.string key] 9)).alloc (.cells #[.slice (some ⟨w.heap.size + 1 + 1, 0, none⟩) 1 1] 90)) w.heap.size (.slice (some ⟨w.heap.size + 1 + 1, 0, none⟩) 1 1) [key]) :=
      Own.sub_of_blk (ss := [key]) HX2.out (by omega) (by simp [maxLen])
    go_wp2_with fail
    go_region_law (first
      | (refine step_append_lies _ (by rfl) _ _ _ (by rfl) w.heap.size 9 i0 _ 1 16 Tryz.underlying25 hi hz0 hz1 hz2 rfl (by omega) (.slice (some ⟨w.heap.size + 1 + 1, 0, none⟩) 1 1) 1 [.string key] (by rfl) (by exact HRA.out)
            ⟨gc, 0, none⟩ CS.length cc (CS.map Value.string) (by rfl) (by simp) (by exact HCC.out) (by exact oneCells_strs CS)
            (by have := HCN.out; omega) (by unfold maxLen; have := HCL.out.1; omega) (by have := HCL.out.1; omega) (by omega) w4.heap.size rfl ?_
         intro gg cap' w5 hown5 hgrow5 hat hlt2
         have hbg := (Blk.later HX3.out HB4.out (by omega)).grown hgrow5 (by simp [Value.ownBlock])
         have p5 := hbg.cell
         have f5 := hbg.frozen
         have z5 := hbg.lt
         have HBG := Lib.hid hbg
         have HOW := Lib.hid hown5
         have HGR := Lib.hid hgrow5
         clear hbg hown5 hgrow5)
      | (go_simp
         go_at_call 120
         refine (HKC.out _).mono ?_
         rintro e w4 ⟨v', rfl, hsub, hb4⟩
         have HB4 := Lib.hid (undrew hb4)
         obtain ⟨AC, cc, rfl, hcc, hmc, hac⟩ := Own.own_slice hsub
         obtain ⟨gc, rfl, hgc, hgcb⟩ := hac HCN.out
         have HCC := Lib.hid (World.ownsRow.cells (g := gc) hsub rfl)
         clear hsub hb4
         have q2 := (Blk.later HX3.out HB4.out (by omega)).cell 0
         simp at q2
         have z6 := (Blk.later HX3.out HB4.out (by omega)).lt
         have hsz6 := HB4.out.size
         have HRA := Lib.hid (Own.own_later HRA0.out HB4.out)))
    all_goals
      have hgn : gg ≠ w.heap.size + 1 + 1 + 1 := by
        rcases hat with h | h
        · simp [Value.ownBlock] at h; omega
        · omega
      have hgn1 : gg ≠ w.heap.size + 1 := by
        rcases hat with h | h
        · simp [Value.ownBlock] at h; omega
        · omega
      have HS5 : Hid (Own.SubO (w5.setCell ⟨w.heap.size + 1 + 1 + 1, 0, none⟩ (.slice (some ⟨gg, 0, none⟩) (1 + CS.length) cap')) w.heap.size (.slice (some ⟨gg, 0, none⟩) (1 + CS.length) cap') (key :: CS)) := by
        have h := World.ownsRow.kept HOW.out (row := some (w.heap.size + 1 + 1 + 1)) (Own.grown_set w5 (w.heap.size + 1 + 1 + 1) 0 (.slice (some ⟨gg, 0, none⟩) (1 + CS.length) cap')) (.inr (by simpa [Value.ownBlock] using hgn))
        unfold Hid Own.SubO
        rw [List.length_cons, Nat.add_comm CS.length 1]
        exact h
      have HB5 := Lib.hid (((HB0.out.later HB4.out).grown HGR.out (by omega) (fun g hg => by simp [Value.ownBlock] at hg; omega)).setCell (p := ⟨w.heap.size + 1 + 1 + 1, 0, none⟩) (by simp; omega) (.slice (some ⟨gg, 0, none⟩) (1 + CS.length) cap'))
      have HZ0 := Lib.hid (((Blk.later HX0.out HB4.out (by omega)).grown HGR.out (by simp [Value.ownBlock]; omega)).far (p := ⟨w.heap.size + 1 + 1 + 1, 0, none⟩) (by simp; omega) (.slice (some ⟨gg, 0, none⟩) (1 + CS.length) cap'))
      have HZ1 := Lib.hid (((Blk.later HX1.out HB4.out (by omega)).grown HGR.out (by simp [Value.ownBlock])).far (p := ⟨w.heap.size + 1 + 1 + 1, 0, none⟩) (by simp) (.slice (some ⟨gg, 0, none⟩) (1 + CS.length) cap'))
      have HZ3 := Lib.hid (HBG.out.set_ 0 (.slice (some ⟨gg, 0, none⟩) (1 + CS.length) cap'))
      have y0 := HZ0.out.cell 0
      have y1 := HZ0.out.cell 1
      have y2 := HZ0.out.cell 2
      have y3 := HZ0.out.cell 3
      have y4 := HZ3.out.cell 0
      simp at y0 y1 y2 y3 y4
      obtain ⟨W5, hW5⟩ : ∃ W5, W5 = w5.setCell ⟨w.heap.size + 1 + 1 + 1, 0, none⟩ (.slice (some ⟨gg, 0, none⟩) (1 + CS.length) cap') := ⟨_, rfl⟩
      rw [← hW5] at HS5 HB5 HZ0 HZ1 HZ3 y0 y1 y2 y3 y4 ⊢
      clear hW5 p3' f3 z3 p5 f5 z5 q2 z6 HBG HOW HGR
      go_wp2_with fail
      refine (HKR.out _ HB5.out _ (by obtain ⟨A, c, e, hc, hs⟩ := HS5.out.strs; rw [HRV2.out]; exact ⟨A, _, c, e, hs, hc⟩)).mono ?_
      rintro e w6 ⟨rfl, hb6⟩
      have HB6 := Lib.hid (HB5.out.later hb6)
      have HY1 := Lib.hid (HZ1.out.later hb6 HZ1.out.lt)
      have HY3 := Lib.hid (HZ3.out.later hb6 HZ3.out.lt)
      have HS6 := Lib.hid (Own.own_later HS5.out hb6)
      have p1 := HY1.out.cell
      have f1 := HY1.out.frozen
      have z1 := HY1.out.lt
      have p3' := HY3.out.cell 0
      have z3 := HY3.out.lt
      simp at p3'
      clear hb6 y0 y1 y2 y3 y4
      cases rb
      · have HE2 : Hid (U = none) := by unfold Hid; rw [HE.out]; rfl
        go_wp2_with fail
        refine bodyPost_ret (v := .tuple #[.agg #[.slice none 0 0], .int .i64 14]) (by simp [results, Tryz.results85, go_sem, p1]) rfl ?_
        rw [HE2.out]
        exact ⟨_, rfl, Own.sub_nil _ _, HB6.out.setCell (by simp) _⟩
      · have HE2 : Hid (U = some (key :: CS)) := by unfold Hid; rw [HE.out, HRV2.out]; rfl
        go_wp2_with fail
        refine bodyPost_ret (v := .tuple #[.agg #[(.slice (some ⟨gg, 0, none⟩) (1 + CS.length) cap')], .int .i64 0]) (by simp [results, Tryz.results85, go_sem, p1]) rfl ?_
        rw [HE2.out]
        refine ⟨_, rfl, ?_, HB6.out.setCell (by simp) _⟩
        exact World.ownsRow.kept HS6.out (row := some (w.heap.size + 1)) (Own.grown_set _ _ _ _) (.inr (by simpa [Value.ownBlock] using hgn1))
end Go.Proofs.YtalpafaflgddpaaGreatDoor

namespace Go.Proofs.YtalpafaflgddpaaGreatDoor
open Go.RowKit

/-- Rows of the call's own: each has its cell, and a slice of strings of its own. -/
def rowK : Own.Kind (List ByteArray) := ⟨1, fun _ v => [v], fun d => d, fun _ _ => rfl, by decide⟩
def RowsI (w : World) (base : Nat) (v : Value) (rs : List (List ByteArray)) : Prop := ∃ vs, Own.OwnL rowK w base 90 v rs vs
theorem RowsI.later {w w' : World} {base : Nat} {v : Value} {rs : List (List ByteArray)} (h : RowsI w base v rs) (hb : Below w.heap.size w w') : RowsI w' base v rs := by
  obtain ⟨vs, h1⟩ := h
  exact ⟨vs, h1.later hb⟩
theorem RowsI.base {w : World} {base base' : Nat} {v : Value} {rs : List (List ByteArray)} (h : RowsI w base' v rs) (hb : base ≤ base') : RowsI w base v rs := by
  obtain ⟨vs, h1⟩ := h
  exact ⟨vs, h1.base hb⟩
theorem OwnL.fresh' {w W5 : World} {base base' : Nat} {v v' : Value} {fs : List (List ByteArray)} {vs : List Value} {ss : List ByteArray} (h : Own.OwnL rowK W5 base 90 v fs vs) (hs : Own.SubO W5 base' v' ss) (h0 : RowsI w base v fs) (hb : ∀ us, Own.OwnL rowK w base 90 v fs us → us = vs ∧ w.heap.size ≤ base') : ∀ u ∈ vs, Own.apart u v' := by
  obtain ⟨us, h1⟩ := h0
  obtain ⟨rfl, h2⟩ := hb us h1
  exact h1.fresh hs h2
/-- Row by row; none where one of them is none. -/
def unpAll (f : NodeD → Option (List ByteArray)) : List NodeD → Option (List (List ByteArray))
  | [] => some []
  | d :: r => match f d with
    | none => none
    | some x => (unpAll f r).map (x :: ·)
theorem unpAll_none (f : NodeD → Option (List ByteArray)) (l : List NodeD) (k : Nat) (h : k < l.length) (hf : f (l.getD k default) = none) : unpAll f (l.drop k) = none := by
  rw [List.drop_eq_getElem_cons h]
  rw [List.getD_eq_getElem?_getD, List.getElem?_eq_getElem h] at hf
  simp only [Option.getD_some] at hf
  simp [unpAll, hf]
theorem unpAll_some (f : NodeD → Option (List ByteArray)) (l : List NodeD) (k : Nat) (h : k < l.length) {x : List ByteArray} (hf : f (l.getD k default) = some x) : unpAll f (l.drop k) = (unpAll f (l.drop (k + 1))).map (x :: ·) := by
  rw [List.drop_eq_getElem_cons h]
  rw [List.getD_eq_getElem?_getD, List.getElem?_eq_getElem h] at hf
  simp only [Option.getD_some] at hf
  simp [unpAll, hf]
/-- The rows of a table in a tree, with the code. -/
def kvOf (cols : List ByteArray) (d : NodeD) : Option (List ByteArray) := unpackB cols (d.subs.getD 1 ByteArray.empty) d.val
def rowsT (cols : List ByteArray) (ns : List NodeD) : Int × List (List ByteArray) :=
  if 24 < ns.length then (4, []) else match unpAll (kvOf cols) ns with
    | none => (14, [])
    | some rs => (0, rs)
def RowsPost (r : Int × List (List ByteArray)) (w : World) (e : Ending) (w' : World) : Prop := ∃ v, e = .returned (.tuple #[v, .int .i64 r.1]) ∧ RowsI w' w.heap.size v r.2 ∧ Below w.heap.size w w'
theorem infoRowD : (Tryz.prog.info? 90).map (fun i => (i.zero, i.size, i.bytes)) = some (some (.agg #[.slice none 0 0]), 1, 24) := by kernel_rfl
theorem rowsI_lit (w : World) (base : Nat) (h : base ≤ w.heap.size) : RowsI (w.alloc (.cells #[] 90)) base (.slice (some ⟨w.heap.size, 0, none⟩) 0 0) [] :=
  ⟨[], rfl, (by simpa using World.ownsRow_lit (base := base) (e := 90) (size := 1) w #[] 0 h (by omega) rfl : (w.alloc (.cells #[] 90)).ownsRow base 90 1 (.slice (some ⟨w.heap.size, 0, none⟩) 0 0) 0 []), fun j hj => by simp at hj, List.Pairwise.nil⟩
theorem val_small {fs : List NodeD} (h : treeB fs = true) : ∀ d ∈ fs, d.val.size ≤ 64 := by
  intro d hd
  obtain ⟨i, hi, rfl⟩ := List.getElem_of_mem hd
  unfold treeB at h
  rw [Bool.and_eq_true] at h
  have h2 := (allFrom_all (treeAt fs) fs.length 0).1 h.2 i (by omega) (by omega)
  unfold treeAt nodeB at h2
  simp only [Bool.and_eq_true, decide_eq_true_eq] at h2
  rw [List.getD_eq_getElem?_getD, List.getElem?_eq_getElem hi] at h2
  exact h2.1.2
theorem rows_mem {g : ByteArray} {fs : List NodeD} {d : NodeD} (h : d ∈ rowsN g fs) : d ∈ fs := by
  unfold rowsN at h
  exact (List.mem_filter.1 h).1

set_option maxRecDepth 100000 in
set_option maxHeartbeats 4000000 in
theorem l29Rows_any (A : Option Addr) (n c : Nat) (b0 b1 b2 b3 : Value) (fs : List NodeD) (b : TableD) (w : World) (h : Nodes w w.heap.size A n fs) (hb : TableR w w.heap.size b0 b1 b2 b3 b) (hs : smallNs fs) (ht : treeB fs = true) (hpos : 0 < b.cols.length) (hn5 : b.cols.length ≤ 5) :
    Calls Tryz.prog 52 #[.agg #[.slice A n c], .agg #[b0, b1, b2, b3]] w (RowsPost (rowsT b.cols (rowsN b.glob fs)) w) := by
  obtain ⟨i0, hi, hz0, hz1, hz2⟩ := info_parts infoRowD
  have HK3 := Lib.hid (fun W (hW : Below w.heap.size w W) => l29Nodes_any A n c b0 b1 b2 b3 fs b W (h.later hW) (hb.later hW) hs)
  have HKU := Lib.hid (fun W (hW : Below w.heap.size w W) key val hk hv => l29Unpack_any b0 b1 b2 b3 b key val W (hb.later hW) hpos hn5 hk hv)
  have HNV : Hid (∀ d ∈ rowsN b.glob fs, d.subs.length = 2 ∧ (∀ s ∈ d.subs, s.size ≤ 1048576) ∧ d.val.size ≤ 64) := fun d hd => ⟨rows_two d hd, (hs.2 d (rows_mem hd)).2.1.2, val_small ht d (rows_mem hd)⟩
  have HR : Hid (rowsT b.cols (rowsN b.glob fs) = (if 24 < (rowsN b.glob fs).length then ((4 : Int), []) else match unpAll (kvOf b.cols) (rowsN b.glob fs) with | none => ((14 : Int), []) | some rs => ((0 : Int), rs))) := rfl
  have HF : Hid (∀ d, kvOf b.cols d = unpackB b.cols (d.subs.getD 1 ByteArray.empty) d.val) := fun _ => rfl
  obtain ⟨rfl, rfl, ⟨A2, n2, p2, rfl, s2, k2⟩, ⟨A3, n3, p3, rfl, s3, k3⟩⟩ := hb
  clear s2 s3 h hs ht hpos hn5
  generalize rowsT b.cols (rowsN b.glob fs) = R at *
  generalize rowsN b.glob fs = ns at *
  generalize unpackB b.cols = up at *
  generalize kvOf b.cols = kv at *
  generalize b.name = nm at *
  generalize b.glob = gl at *
  have HB0 := Lib.hid ((Below.new w (.cells #[.slice A n c] 41)).later (Below.new _ (.cells #[.string nm, .string gl, .slice A2 n2 p2, .slice A3 n3 p3] 43)))
  have HX1 := Lib.hid (heap_two1 w (.cells #[.slice A n c] 41) (.cells #[.string nm, .string gl, .slice A2 n2 p2, .slice A3 n3 p3] 43))
  go_enter Tryz.func52, Tryz.ntmps52
  go_wp2_with fail
  refine (HK3.out _ HB0.out).mono ?_
  rintro e w3 ⟨v, ncs, rfl, ho, hc, hb3⟩
  obtain ⟨A4, cap4, rfl, _, hN4⟩ := nodes_of_row ho rfl hc hb3
  have HN4 := Lib.hid hN4
  have HB3 := Lib.hid (HB0.out.later hb3)
  have HY1 := Lib.hid (Blk.later HX1.out hb3 (by simp))
  have hw3 := HY1.out.lt
  clear ho hc hb3 hN4
  generalize hm : ns.length = m at *
  have HM := Lib.hid hm
  clear hm
  by_cases hbig : 24 < m
  · have HE : Hid (R = (4, [])) := by unfold Hid; rw [HR.out, if_pos hbig]
    go_wp2_with fail
    go_ret2
    rw [HE.out]
    exact ⟨_, rfl, rowsI_lit w3 w.heap.size HB3.out.size, HB3.out.later (Below.new _ _)⟩
  have HR2 : Hid (R = match unpAll kv ns with | none => ((14 : Int), []) | some rs => ((0 : Int), rs)) := by unfold Hid; rw [HR.out, if_neg hbig]
  clear HR
  go_wp2_with fail
  go_loopw [7, 8] (fun v i wr => ∃ (k : Nat) (acc : List (List ByteArray)), k ≤ m ∧ i = .int .i64 k ∧ acc.length = k ∧ RowsI wr w3.heap.size v acc ∧ Below w3.heap.size w3 wr ∧ Hid (unpAll kv ns = (unpAll kv (ns.drop k)).map (acc ++ ·))) (fun _ i _ => m - (intOf i).toNat)
  case atStart => exact ⟨0, [], Nat.zero_le _, rfl, rfl, rowsI_lit w3 _ (Nat.le_refl _), Below.new _ _, by simp [Hid]⟩
  case round =>
    obtain ⟨k, acc, hk, rfl, hacc, hrows, hb, hS⟩ := hrel
    have HB := Lib.hid hb
    obtain ⟨vs, hrows⟩ := hrows
    have HRW := Lib.hid hrows
    have HBw := Lib.hid (HB3.out.later hb)
    clear hb hrows
    by_cases hlt : k < m
    · have hl : k < ns.length := by rw [HM.out]; exact hlt
      obtain ⟨bb, o, rfl, hbB, hcn⟩ := (HN4.out.later HB.out).2 (by omega)
      obtain ⟨c0, c1, c2, k0, k1, k2', hr⟩ := hcn k hlt
      clear hcn
      obtain ⟨hd2, hds, hdv⟩ := HNV.out _ (getD_memD ns k hl)
      have HN := Lib.hid (unpAll_none kv ns k hl)
      have HSo := Lib.hid (fun x => unpAll_some kv ns k hl (x := x))
      have HFd := Lib.hid (HF.out (ns.getD k default))
      clear hl
      generalize ns.getD k default = d at *
      obtain ⟨rfl, ⟨A1, n1, cap1, rfl, hs1, hcap1⟩, rfl⟩ := hr
      obtain rfl : n1 = 2 := by rw [← hs1.1]; exact hd2
      obtain ⟨sb, so, rfl, hsb, hsc⟩ := hs1.2 (by omega)
      have hck := hsc 1 (by omega)
      have HKK := Lib.hid (fun W hW => HKU.out W hW (d.subs.getD 1 ByteArray.empty) d.val (hds _ (getD_memS _ _ (by omega))) hdv)
      clear hsc hs1 hds hdv hd2 k0
      have y0 := (HY1.out.later HB.out hw3).cell 0
      have y1 := (HY1.out.later HB.out hw3).cell 1
      have y2 := (HY1.out.later HB.out hw3).cell 2
      have y3 := (HY1.out.later HB.out hw3).cell 3
      simp at y0 y1 y2 y3
      have i1 : (k : Int) < (m : Int) := by omega
      generalize d.subs.getD 1 ByteArray.empty = key at *
      generalize d.val = val at *
      generalize up key val = o' at *
      have HQ0 : Hid (Blk (wr.alloc (.cells #[.slice none 0 0] 90)) wr.heap.size 90 #[.slice none 0 0]) := heap_last rfl
      have HBn := Lib.hid (HBw.out.later (Below.new wr (.cells #[.slice none 0 0] 90)))
      have HS : Hid (∀ W', Below wr.heap.size wr W' → (W'.cell? ⟨w.heap.size + 1, 0, none⟩ = some (.string nm) ∧ W'.cell? ⟨w.heap.size + 1, 1, none⟩ = some (.string gl) ∧ W'.cell? ⟨w.heap.size + 1, 2, none⟩ = some (.slice A2 n2 p2) ∧ W'.cell? ⟨w.heap.size + 1, 3, none⟩ = some (.slice A3 n3 p3) ∧ W'.cell? ⟨bb, o + k * 3 + 1, none⟩ = some (.slice (some ⟨sb, so, none⟩) 2 cap1) ∧ W'.cell? ⟨bb, o + k * 3 + 2, none⟩ = some (.string val) ∧ W'.cell? ⟨sb, so + 1, none⟩ = some (.string key))) := fun W' hW => ⟨cell_later hW y0, cell_later hW y1, cell_later hW y2, cell_later hW y3, cell_later hW k1, cell_later hW k2', cell_later hW hck⟩
      go_wp2_with fail
      go_region_held3 (fun w' => w'.cell? ⟨w.heap.size + 1, 0, none⟩ = some (.string nm) ∧ w'.cell? ⟨w.heap.size + 1, 1, none⟩ = some (.string gl) ∧ w'.cell? ⟨w.heap.size + 1, 2, none⟩ = some (.slice A2 n2 p2) ∧ w'.cell? ⟨w.heap.size + 1, 3, none⟩ = some (.slice A3 n3 p3) ∧ w'.cell? ⟨bb, o + k * 3 + 1, none⟩ = some (.slice (some ⟨sb, so, none⟩) 2 cap1) ∧ w'.cell? ⟨bb, o + k * 3 + 2, none⟩ = some (.string val) ∧ w'.cell? ⟨sb, so + 1, none⟩ = some (.string key)) (first | exact HS.out _ (Below.refl _ _).drew | exact HS.out _ (Below.new _ _).drew | exact HS.out _ HBY.out | exact HS.out _ (HBY.out.later (Below.new _ _)) | exact HS.out _ (HBY.out.setCell (Nat.le_refl _) _))
        (first
          | (go_at_call 85; refine (HKK.out _ HBw.out.drew).mono ?_; rintro e w4 ⟨v', rfl, hsub, hb4'⟩; obtain ⟨AC, cc, rfl, hcc, hmc, hac⟩ := Own.own_slice hsub; have HSUB := Lib.hid hsub; have HBX := Lib.hid (undrew hb4'); have HBY := Lib.hid HBX.out; clear hsub hb4' hac)
          | (go_at_call 85; refine (HKK.out _ HBn.out.drew).mono ?_; rintro e w4 ⟨v', rfl, hsub, hb4'⟩; obtain ⟨AC, cc, rfl, hcc, hmc, hac⟩ := Own.own_slice hsub; have HSUB := Lib.hid hsub; have HBX := Lib.hid (undrew hb4'); have HBY := Lib.hid ((Below.new wr (.cells #[.slice none 0 0] 90)).later HBX.out); have HQ := Lib.hid (Blk.later HQ0.out HBX.out (by simp)); have q0 := (Blk.cell HQ.out 0); have qf := Blk.frozen HQ.out 0; have qz := Blk.lt HQ.out; simp at q0; clear hsub hb4' hac))
      · have HBZ := Lib.hid (HBX.out.later (Below.new w4 (.cells #[(.slice AC (o'.getD []).length cc)] 90)))
        have HQ5 : Hid (Blk (w4.alloc (.cells #[(.slice AC (o'.getD []).length cc)] 90)) w4.heap.size 90 #[(.slice AC (o'.getD []).length cc)]) := heap_last rfl
        have HS5 : Hid (Own.SubO (w4.alloc (.cells #[(.slice AC (o'.getD []).length cc)] 90)) wr.heap.size (.slice AC (o'.getD []).length cc) (o'.getD [])) := Own.own_later HSUB.out (Below.new _ _)
        have HAPB : wr.heap.size ≤ wr.heap.size := Nat.le_refl _
        obtain ⟨W5, hW5⟩ : ∃ W5, W5 = w4.alloc (.cells #[(.slice AC (o'.getD []).length cc)] 90) := ⟨_, rfl⟩
        rw [← hW5] at HBZ HQ5 HS5 ⊢
        clear hW5 HBX HBY HSUB HQ0 HBn
        have HB5 := Lib.hid (HB.out.later HBZ.out)
        have HBv := Lib.hid (HB3.out.later HB5.out)
        have HRW5 := Lib.hid (HRW.out.later HBZ.out)
        have q5 := HQ5.out.cell 0
        have qz5 := HQ5.out.lt
        simp at q5
        have z35 := HB5.out.size
        have z36 := HB.out.size
        cases o' with
        | none =>
          have HE : Hid (R = (14, [])) := by unfold Hid; rw [HR2.out, hS.out, HN.out HFd.out]; rfl
          have hcu : codeU (none : Option (List ByteArray)) = 14 := rfl
          rw [hcu]
          clear q5 qz5
          go_wp2_with fail
          go_ret2
          rw [HE.out]
          exact ⟨_, rfl, rowsI_lit _ _ HBv.out.size, HBv.out.later (Below.new _ _)⟩
        | some x =>
          have HE : Hid (unpAll kv ns = (unpAll kv (ns.drop (k + 1))).map ((acc ++ [x]) ++ ·)) := by
            unfold Hid
            rw [hS.out, HSo.out x HFd.out, Option.map_map]
            congr 1
            funext l
            simp
          have hcu : codeU (some x) = 0 := rfl
          rw [hcu]
          have HO := Lib.hid HRW5.out
          have HAP := Lib.hid (Own.OwnL.fresh HRW.out HS5.out HAPB)
          have hrow : Hid (∀ oo, (W5.alloc oo).ownsRow w3.heap.size 90 1 u7 acc.length (Own.flat rowK acc vs)) := fun oo => Own.own_later HO.out.row (Below.new _ _)
          have hx5 : Own.SubO W5 w3.heap.size (.slice AC x.length cc) x := Own.own_base HS5.out (by omega)
          have HX5 := Lib.hid hx5
          clear hx5
          go_wp2_with (at_builtin; refine wpList_append_own _ rfl (.tmp 46) (.tmp 48) 55 rfl w3.heap.size 90 i0 _ 1 24 Tryz.underlying55 hi hz0 hz1 hz2 rfl (by decide) _ acc.length _ rfl (hrow.out _) ⟨_, 0, none⟩ 1 1 [.slice AC x.length cc] rfl rfl ?m1 ?m2 ?m3 ?m4 ?m5 ?_)
          all_goals try (first | exact cells_atN _ #[.slice AC x.length cc] _ _ (by simp) | (simp [Value.oneCell']; done) | (unfold maxLen; omega) | omega | (simp; omega))
          intro v1 w6 hown1 hg1 _
          have HN6 : Hid (RowsI w6 w3.heap.size v1 (acc ++ [x])) := by
            have hX6 : Own.SubO (W5.alloc (.cells #[.slice AC x.length cc] 90)) w3.heap.size (.slice AC x.length cc) x := Own.own_later HX5.out (Below.new _ _)
            refine ⟨vs ++ [.slice AC x.length cc], Own.OwnL.snoc (HO.out.later (Below.new W5 (.cells #[.slice AC x.length cc] 90))) hX6 HAP.out ?_ hg1 (by decide)⟩
            show w6.ownsRow w3.heap.size 90 1 v1 (acc.length + 1) (Own.flat rowK acc vs ++ [.slice AC x.length cc])
            rw [hacc]
            exact hown1
          have HB6 := Lib.hid ((HB5.out.later (Below.new W5 (.cells #[.slice AC x.length cc] 90))).grown hg1 (by simp; omega) (fun g hg' => ((hrow.out (.cells #[] 0)).lt g hg').1))
          clear hown1 hg1
          go_wp2_with fail
          go_roundw
          case rel => exact ⟨k + 1, acc ++ [x], by omega, by go_num, by simp [hacc], HN6.out, HB6.out, HE.out⟩
          case measure => simp [intOf]; omega
      · have HBZ := Lib.hid (HBY.out.setCell (p := ⟨wr.heap.size, 0, none⟩) (Nat.le_refl _) (.slice AC (o'.getD []).length cc))
        have HQ5 : Hid (Blk (w4.setCell ⟨wr.heap.size, 0, none⟩ (.slice AC (o'.getD []).length cc)) wr.heap.size 90 #[(.slice AC (o'.getD []).length cc)]) := by unfold Hid; have h := HQ.out.set_ 0 (.slice AC (o'.getD []).length cc); simpa using h
        have HS5 : Hid (Own.SubO (w4.setCell ⟨wr.heap.size, 0, none⟩ (.slice AC (o'.getD []).length cc)) (wr.alloc (.cells #[.slice none 0 0] 90)).heap.size (.slice AC (o'.getD []).length cc) (o'.getD [])) := Own.sub_far HSUB.out (by simp)
        have HAPB : wr.heap.size ≤ (wr.alloc (.cells #[.slice none 0 0] 90)).heap.size := by simp
        obtain ⟨W5, hW5⟩ : ∃ W5, W5 = w4.setCell ⟨wr.heap.size, 0, none⟩ (.slice AC (o'.getD []).length cc) := ⟨_, rfl⟩
        rw [← hW5] at HBZ HQ5 HS5 ⊢
        clear hW5 HBX HBY HSUB HQ0 HBn q0 qf qz HQ
        have HB5 := Lib.hid (HB.out.later HBZ.out)
        have HBv := Lib.hid (HB3.out.later HB5.out)
        have HRW5 := Lib.hid (HRW.out.later HBZ.out)
        have q5 := HQ5.out.cell 0
        have qz5 := HQ5.out.lt
        simp at q5
        have z35 := HB5.out.size
        have z36 := HB.out.size
        cases o' with
        | none =>
          have HE : Hid (R = (14, [])) := by unfold Hid; rw [HR2.out, hS.out, HN.out HFd.out]; rfl
          have hcu : codeU (none : Option (List ByteArray)) = 14 := rfl
          rw [hcu]
          clear q5 qz5
          go_wp2_with fail
          go_ret2
          rw [HE.out]
          exact ⟨_, rfl, rowsI_lit _ _ HBv.out.size, HBv.out.later (Below.new _ _)⟩
        | some x =>
          have HE : Hid (unpAll kv ns = (unpAll kv (ns.drop (k + 1))).map ((acc ++ [x]) ++ ·)) := by
            unfold Hid
            rw [hS.out, HSo.out x HFd.out, Option.map_map]
            congr 1
            funext l
            simp
          have hcu : codeU (some x) = 0 := rfl
          rw [hcu]
          have HO := Lib.hid HRW5.out
          have HAP := Lib.hid (Own.OwnL.fresh HRW.out HS5.out HAPB)
          have hrow : Hid (∀ oo, (W5.alloc oo).ownsRow w3.heap.size 90 1 u7 acc.length (Own.flat rowK acc vs)) := fun oo => Own.own_later HO.out.row (Below.new _ _)
          have hx5 : Own.SubO W5 w3.heap.size (.slice AC x.length cc) x := Own.own_base HS5.out (by simp; omega)
          have HX5 := Lib.hid hx5
          clear hx5
          go_wp2_with (at_builtin; refine wpList_append_own _ rfl (.tmp 46) (.tmp 48) 55 rfl w3.heap.size 90 i0 _ 1 24 Tryz.underlying55 hi hz0 hz1 hz2 rfl (by decide) _ acc.length _ rfl (hrow.out _) ⟨_, 0, none⟩ 1 1 [.slice AC x.length cc] rfl rfl ?n1 ?n2 ?n3 ?n4 ?n5 ?_)
          all_goals try (first | exact cells_atN _ #[.slice AC x.length cc] _ _ (by simp) | (simp [Value.oneCell']; done) | (unfold maxLen; omega) | omega | (simp; omega))
          intro v1 w6 hown1 hg1 _
          have HN6 : Hid (RowsI w6 w3.heap.size v1 (acc ++ [x])) := by
            have hX6 : Own.SubO (W5.alloc (.cells #[.slice AC x.length cc] 90)) w3.heap.size (.slice AC x.length cc) x := Own.own_later HX5.out (Below.new _ _)
            refine ⟨vs ++ [.slice AC x.length cc], Own.OwnL.snoc (HO.out.later (Below.new W5 (.cells #[.slice AC x.length cc] 90))) hX6 HAP.out ?_ hg1 (by decide)⟩
            show w6.ownsRow w3.heap.size 90 1 v1 (acc.length + 1) (Own.flat rowK acc vs ++ [.slice AC x.length cc])
            rw [hacc]
            exact hown1
          have HB6 := Lib.hid ((HB5.out.later (Below.new W5 (.cells #[.slice AC x.length cc] 90))).grown hg1 (by simp; omega) (fun g hg' => ((hrow.out (.cells #[] 0)).lt g hg').1))
          clear hown1 hg1
          go_wp2_with fail
          go_roundw
          case rel => exact ⟨k + 1, acc ++ [x], by omega, by go_num, by simp [hacc], HN6.out, HB6.out, HE.out⟩
          case measure => simp [intOf]; omega
    · have HE : Hid (R = (0, acc)) := by
        unfold Hid
        rw [HR2.out, hS.out, List.drop_of_length_le (by rw [HM.out]; omega)]
        simp [unpAll]
      go_wp2_with fail
      go_ret2
      rw [HE.out]
      exact ⟨_, rfl, ⟨vs, HRW.out.base HB3.out.size⟩, HBw.out⟩
end Go.Proofs.YtalpafaflgddpaaGreatDoor

namespace Go.Proofs.YtalpafaflgddpaaGreatDoor
open Go.RowKit

def staysB (cols : List ByteArray) (wh : List CondD) (row : List ByteArray) : Bool := wh.all fun c => condT (row.getD (placeI cols c.col).toNat ByteArray.empty) c
theorem all_stepC (p : CondD → Bool) (l : List CondD) (k : Nat) (h : k < l.length) : (l.drop k).all p = (p (l.getD k default) && (l.drop (k + 1)).all p) := by
  rw [List.drop_eq_getElem_cons h, List.all_cons, List.getD_eq_getElem?_getD, List.getElem?_eq_getElem h]
  rfl
set_option maxRecDepth 100000 in
set_option maxHeartbeats 4000000 in
theorem l30Stays_any (b0 b1 b2 b3 c0 c1 c2 c3 c4 c5 r0 : Value) (b : TableD) (d : QueryD) (row : List ByteArray) (w : World) (hb : TableR w w.heap.size b0 b1 b2 b3 b) (h : QueryR w w.heap.size c0 c1 c2 c3 c4 c5 d) (hr : RowR w w.heap.size r0 row) (hbs : b.small) (hs : d.small) (hrs : smallR row)
    (hfit : ∀ c ∈ d.wher, 0 ≤ placeI b.cols c.col) (hlen : row.length = b.cols.length) :
    Calls Tryz.prog 86 #[.agg #[b0, b1, b2, b3], .agg #[c0, c1, c2, c3, c4, c5], .agg #[r0]] w fun e w' => e = .returned (.bool (staysB b.cols d.wher row)) ∧ Below w.heap.size w w' := by
  obtain ⟨rfl, rfl, ⟨A2, n2, p2, rfl, s2, k2⟩, ⟨A3, n3, p3, rfl, s3, k3⟩⟩ := hb
  obtain ⟨rfl, ⟨B1, m1, q1, rfl, t1, l1⟩, ⟨B2, m2, q2, rfl, t2, l2⟩, rfl, rfl, rfl⟩ := h
  obtain ⟨R0, rn, rc, rfl, hS, hrc⟩ := hr
  have hn2 : n2 ≤ 1048576 := by rw [← s2.1]; exact hbs.2.2.1.1
  have hm2 : m2 ≤ 1048576 := by rw [← t2.1]; exact hs.2.2.1.1
  have HKP := Lib.hid (fun x W (hW : Below w.heap.size w W) => (l29Place_any A2 n2 p2 b.cols x W (s2.later hW) hn2).mono (R' := fun e w' => e = .returned (.int .i64 (placeI b.cols x)) ∧ Below W.heap.size W w') (fun e w' ⟨h1, h2⟩ => ⟨h1, h2 ▸ Below.refl _ _⟩))
  have HKC := Lib.hid (fun k (hk : k < d.wher.length) j (hj : j < row.length) c0 c1 c2 W (hW : CondR W W.heap.size c0 c1 c2 (d.wher.getD k default)) => specCondTrue_any (row.getD j ByteArray.empty) c0 c1 c2 (d.wher.getD k default) W hW (hs.2.2.1.2 _ (getD_memD _ k hk)) (hrs.2 _ (getD_memS row j hj)))
  have HFit : Hid (∀ k, k < d.wher.length → ∃ j : Nat, placeI b.cols (d.wher.getD k default).col = j ∧ j < row.length) := fun k hk => by
    have h1 := hfit _ (getD_memD _ k hk)
    have h2 := (placeI_bd b.cols (d.wher.getD k default).col).2
    exact ⟨(placeI b.cols (d.wher.getD k default).col).toNat, by omega, by rw [hlen]; omega⟩
  have HR : Hid (staysB b.cols d.wher row = d.wher.all fun c => condT (row.getD (placeI b.cols c.col).toNat ByteArray.empty) c) := rfl
  have HT := Lib.hid t2
  have HSS := Lib.hid hS
  clear s2 s3 t1 t2 hS hbs hs hrs hfit hlen
  generalize staysB b.cols d.wher row = R at *
  have HB0 := Lib.hid (below_new3 w (.cells #[.string b.name, .string b.glob, .slice A2 n2 p2, .slice A3 n3 p3] 43) (.cells #[.string d.table, .slice B1 m1 q1, .slice B2 m2 q2, .string d.order, .bool d.desc, .int .i64 d.limit] 47) (.cells #[.slice R0 rn rc] 90))
  obtain ⟨WB, hWB⟩ : ∃ WB, WB = ((w.alloc (.cells #[.string b.name, .string b.glob, .slice A2 n2 p2, .slice A3 n3 p3] 43)).alloc (.cells #[.string d.table, .slice B1 m1 q1, .slice B2 m2 q2, .string d.order, .bool d.desc, .int .i64 d.limit] 47)).alloc (.cells #[.slice R0 rn rc] 90) := ⟨_, rfl⟩
  have HX0 : Hid (Blk WB w.heap.size 43 #[.string b.name, .string b.glob, .slice A2 n2 p2, .slice A3 n3 p3]) := by subst hWB; exact heap_new0 _ _ _ _
  have HX1 : Hid (Blk WB (w.heap.size + 1) 47 #[.string d.table, .slice B1 m1 q1, .slice B2 m2 q2, .string d.order, .bool d.desc, .int .i64 d.limit]) := by subst hWB; exact heap_new1 _ _ _ _
  have HX2 : Hid (Blk WB (w.heap.size + 1 + 1) 90 #[.slice R0 rn rc]) := by subst hWB; exact heap_new2 _ _ _ _
  have HBB : Hid (Below w.heap.size w WB) := by subst hWB; exact HB0.out
  have HS1 : Hid (∀ W', Below WB.heap.size WB W' → (W'.cell? ⟨w.heap.size, 2, none⟩ = some (.slice A2 n2 p2) ∧ W'.cell? ⟨w.heap.size + 1, 2, none⟩ = some (.slice B2 m2 q2) ∧ W'.cell? ⟨w.heap.size + 1 + 1, 0, none⟩ = some (.slice R0 rn rc))) := fun W' hW => ⟨(HX0.out.later hW HX0.out.lt).at 2 rfl, (HX1.out.later hW HX1.out.lt).at 2 rfl, (HX2.out.later hW HX2.out.lt).at 0 rfl⟩
  go_enter Tryz.func86, Tryz.ntmps86
  go_wp2_with fail
  rw [← hWB]
  clear hWB HB0
  go_loopw [7] (fun i wr => ∃ k : Nat, k ≤ m2 ∧ i = .int .i64 k ∧ Below WB.heap.size WB wr ∧ Hid (R = (d.wher.drop k).all fun c => condT (row.getD (placeI b.cols c.col).toNat ByteArray.empty) c)) (fun i _ => m2 - (intOf i).toNat)
  case atStart => exact ⟨0, Nat.zero_le _, rfl, Below.refl _ _, HR.out⟩
  case round =>
    obtain ⟨k, hk, rfl, hb, hS⟩ := hrel
    have HB := Lib.hid hb
    have HBw := Lib.hid (HBB.out.later hb)
    clear hb
    obtain ⟨x0, x1, x2⟩ := HS1.out _ HB.out
    by_cases hlt : k < m2
    · have hl : k < d.wher.length := by rw [HT.out.1]; exact hlt
      obtain ⟨bb, o, rfl, hbB, hcn⟩ := (HT.out.later HBw.out).2 (by omega)
      obtain ⟨c0, c1, c2, k0, k1, k2', hr⟩ := hcn k hlt
      clear hcn
      obtain ⟨j, hj1, hj2⟩ := HFit.out k hl
      have HSt := Lib.hid (all_stepC (fun c => condT (row.getD (placeI b.cols c.col).toNat ByteArray.empty) c) d.wher k hl)
      have HKk := Lib.hid (fun W hW => HKC.out k hl j hj2 c0 c1 c2 W hW)
      have HCR := Lib.hid hr
      have hjn : j < rn := by rw [← HSS.out.1]; exact hj2
      obtain ⟨rb, ro, rfl, hrb, hrcell⟩ := (HSS.out.later HBw.out).2 (by omega)
      have hck := hrcell j hjn
      have HPj : Hid (∀ W, Below w.heap.size w W → Calls Tryz.prog 84 #[.slice A2 n2 p2, .string (d.wher.getD k default).col] W fun e w' => e = .returned (.int .i64 (j : Nat)) ∧ Below W.heap.size W w') := fun W hW => by
        have h := HKP.out (d.wher.getD k default).col W hW
        rw [hj1] at h
        exact h
      have HTT : Hid (condT (row.getD (placeI b.cols (d.wher.getD k default).col).toNat ByteArray.empty) (d.wher.getD k default) = condT (row.getD j ByteArray.empty) (d.wher.getD k default)) := by unfold Hid; rw [hj1]; rfl
      clear hrcell hl hj2 hj1
      generalize d.wher.getD k default = cd at *
      generalize row.getD j ByteArray.empty = cell at *
      obtain ⟨rfl, rfl, rfl⟩ := hr
      generalize condT cell cd = y at *
      have hkz : (k : Int) < (m2 : Int) := by omega
      have hjz : (j : Int) < (rn : Int) := by omega
      have HSW : Hid (∀ W', Below wr.heap.size wr W' → ((W'.cell? ⟨w.heap.size, 2, none⟩ = some (.slice A2 n2 p2) ∧ W'.cell? ⟨w.heap.size + 1, 2, none⟩ = some (.slice (some ⟨bb, o, none⟩) m2 q2) ∧ W'.cell? ⟨w.heap.size + 1 + 1, 0, none⟩ = some (.slice (some ⟨rb, ro, none⟩) rn rc)) ∧ W'.cell? ⟨bb, o + k * 3, none⟩ = some (.string cd.col) ∧ W'.cell? ⟨bb, o + k * 3 + 1, none⟩ = some (.int .i64 cd.op) ∧ W'.cell? ⟨bb, o + k * 3 + 2, none⟩ = some (.string cd.val) ∧ W'.cell? ⟨rb, ro + j, none⟩ = some (.string cell))) := fun W' hW => ⟨HS1.out _ (HB.out.later hW), cell_later hW k0, cell_later hW k1, cell_later hW k2', cell_later hW hck⟩
      go_wp2_with fail
      go_region_held3 (fun W' => (W'.cell? ⟨w.heap.size, 2, none⟩ = some (.slice A2 n2 p2) ∧ W'.cell? ⟨w.heap.size + 1, 2, none⟩ = some (.slice (some ⟨bb, o, none⟩) m2 q2) ∧ W'.cell? ⟨w.heap.size + 1 + 1, 0, none⟩ = some (.slice (some ⟨rb, ro, none⟩) rn rc)) ∧ W'.cell? ⟨bb, o + k * 3, none⟩ = some (.string cd.col) ∧ W'.cell? ⟨bb, o + k * 3 + 1, none⟩ = some (.int .i64 cd.op) ∧ W'.cell? ⟨bb, o + k * 3 + 2, none⟩ = some (.string cd.val) ∧ W'.cell? ⟨rb, ro + j, none⟩ = some (.string cell))
        (first | exact HSW.out _ hb2 | exact HSW.out _ hb1 | exact HSW.out _ (Below.refl _ _).drew)
        (first
          | (go_at_call 84; refine (HPj.out _ (by exact HBw.out.drew)).mono ?_; rintro e w1 ⟨rfl, hb1'⟩; have hb1 := undrew hb1'; clear hb1')
          | (go_at_call 122; refine (HKk.out _ (by exact HCR.out.later hb1)).mono ?_; rintro e w2 ⟨rfl, hb2'⟩; have hb2 := hb1.later hb2'; clear hb2'))
      have HB2 := Lib.hid (HB.out.later hb2)
      have HBw2 := Lib.hid (HBw.out.later hb2)
      clear hb1 hb2 x0 x1 x2
      cases y
      · have HE : Hid (R = false) := by unfold Hid; rw [hS.out, HSt.out, HTT.out]; rfl
        go_wp2_with fail
        go_ret
        exact ⟨ret_bool HE.out.symm, HBw2.out⟩
      · have HE : Hid (R = (d.wher.drop (k + 1)).all fun c => condT (row.getD (placeI b.cols c.col).toNat ByteArray.empty) c) := by unfold Hid; rw [hS.out, HSt.out, HTT.out]; rfl
        go_wp2_with fail
        go_roundw
        case rel => exact ⟨k + 1, by omega, by go_num, HB2.out, HE.out⟩
        case measure => simp [intOf]; omega
    · have HE : Hid (R = true) := by unfold Hid; rw [hS.out, List.drop_of_length_le (by rw [HT.out.1]; omega)]; rfl
      go_wp2_with fail
      go_ret
      exact ⟨ret_bool HE.out.symm, HBw.out⟩
end Go.Proofs.YtalpafaflgddpaaGreatDoor

namespace Go.Proofs.YtalpafaflgddpaaGreatDoor
open Go.RowKit

/-- A row as its one cell. -/
def rowC (w : World) (B : Nat) (c : List Value) (d : List ByteArray) : Prop := ∃ v, c = [v] ∧ RowR w B v d
/-- A slice of rows, as it is read. -/
def RowsRd (w : World) (B : Nat) (A : Option Addr) (n : Nat) (rs : List (List ByteArray)) : Prop :=
  rs.length = n ∧ (0 < n → ∃ b o, A = some ⟨b, o, none⟩ ∧ b < B ∧ ∀ j, j < n → ∃ v, w.cell? ⟨b, o + j, none⟩ = some v ∧ RowR w B v (rs.getD j default))
theorem RowR.keep {w w' : World} {B : Nat} {c0 : Value} {d : List ByteArray} (h : RowR w B c0 d) (hk : ∀ p : Addr, p.block < B → w'.cell? p = w.cell? p) : RowR w' B c0 d := by
  obtain ⟨A, n, cap, e, s, k⟩ := h
  exact ⟨A, n, cap, e, s.keep hk, k⟩
theorem RowR.more {w : World} {B B' : Nat} {c0 : Value} {d : List ByteArray} (h : RowR w B c0 d) (hB : B ≤ B') : RowR w B' c0 d := by
  obtain ⟨A, n, cap, e, s, k⟩ := h
  exact ⟨A, n, cap, e, s.more hB, k⟩
theorem RowsRd.later {w w' : World} {A : Option Addr} {n : Nat} {rs : List (List ByteArray)} (h : RowsRd w w.heap.size A n rs) (hb : Below w.heap.size w w') : RowsRd w' w'.heap.size A n rs :=
  ⟨h.1, fun hn => by
    obtain ⟨b, o, e, hbb, hc⟩ := h.2 hn
    refine ⟨b, o, e, Nat.lt_of_lt_of_le hbb hb.size, fun j hj => ?_⟩
    obtain ⟨v, h0, hr⟩ := hc j hj
    exact ⟨v, (hb.cell (p := ⟨b, o + j, none⟩) hbb).trans h0, hr.later hb⟩⟩
/-- The order of rows by a column. -/
def ltK (desc : Bool) (kk : Nat) (x y : List ByteArray) : Bool := if desc = true then beforeB (y.getD kk ByteArray.empty) (x.getD kk ByteArray.empty) else beforeB (x.getD kk ByteArray.empty) (y.getD kk ByteArray.empty)
/-- An array of the call's own; its rows read as in the world w0. -/
def PutPost (w0 : World) (rs : List (List ByteArray)) (w : World) (e : Ending) (w' : World) : Prop := ∃ v cs, e = .returned v ∧ w'.ownsRow w.heap.size 90 1 v rs.length cs ∧ CellsG 1 (rowC w0 w0.heap.size) rs cs ∧ Below w.heap.size w w'
theorem put_ahead {lt : List ByteArray → List ByteArray → Bool} {rs : List (List ByteArray)} {k : Nat} {row : List ByteArray} (h : k < rs.length) (hl : lt row (rs.getD k default) = true) : Stab.mrg lt (rs.drop k) [row] = row :: rs.getD k default :: rs.drop (k + 1) := by
  rw [List.drop_eq_getElem_cons h]
  rw [List.getD_eq_getElem?_getD, List.getElem?_eq_getElem h, Option.getD_some] at hl ⊢
  rw [Stab.mrg_cons, if_pos hl, Stab.mrg_nil_right]
theorem put_behind {lt : List ByteArray → List ByteArray → Bool} {rs : List (List ByteArray)} {k : Nat} {row : List ByteArray} (h : k < rs.length) (hl : lt row (rs.getD k default) = false) : Stab.mrg lt (rs.drop k) [row] = rs.getD k default :: Stab.mrg lt (rs.drop (k + 1)) [row] := by
  rw [List.drop_eq_getElem_cons h]
  rw [List.getD_eq_getElem?_getD, List.getElem?_eq_getElem h, Option.getD_some] at hl ⊢
  rw [Stab.mrg_cons, if_neg (by rw [hl]; simp)]
theorem drop_getD {rs : List (List ByteArray)} {k : Nat} (h : k < rs.length) : rs.drop k = rs.getD k default :: rs.drop (k + 1) := by
  rw [List.drop_eq_getElem_cons h, List.getD_eq_getElem?_getD, List.getElem?_eq_getElem h, Option.getD_some]

set_option maxRecDepth 100000 in
set_option maxHeartbeats 8000000 in
theorem l30Put_asc (A : Option Addr) (n c kk : Nat) (r0 : Value) (rs : List (List ByteArray)) (row : List ByteArray) (w : World) (h : RowsRd w w.heap.size A n rs) (hr : RowR w w.heap.size r0 row) (hn : n ≤ 1048576) (hkr : kk < row.length) (hkl : ∀ x ∈ rs, kk < x.length) (hsr : smallR row) (hsl : ∀ x ∈ rs, smallR x) :
    Calls Tryz.prog 87 #[.slice A n c, .agg #[r0], .int .i64 kk, .bool false] w (PutPost w (Stab.mrg (ltK false kk) rs [row]) w) := by
  obtain ⟨i0, hi, hz0, hz1, hz2⟩ := info_parts infoRowD
  have HRR := Lib.hid hr
  obtain ⟨R0, rn, rc, rfl, hS, hrc⟩ := hr
  have HSS := Lib.hid hS
  have hkn : kk < rn := by rw [← hS.1]; exact hkr
  have Hlen := Lib.hid h.1
  have Hh := Lib.hid h
  have HKB := Lib.hid (fun k (hk : k < rs.length) W => (specBefore_any (row.getD kk ByteArray.empty) ((rs.getD k default).getD kk ByteArray.empty) W (hsr.2 _ (getD_memS row kk hkr)) ((hsl _ (getD_memD rs k hk)).2 _ (getD_memS _ kk (hkl _ (getD_memD rs k hk))))))
  have HKL := Lib.hid hkl
  have HLT : Hid (∀ x, ltK false kk row x = beforeB (row.getD kk ByteArray.empty) (x.getD kk ByteArray.empty)) := fun _ => rfl
  have HX0 : Hid (Blk (w.alloc (.cells #[.slice R0 rn rc] 90)) w.heap.size 90 #[.slice R0 rn rc]) := heap_last rfl
  have HW0 := Lib.hid (Below.new w (.cells #[.slice R0 rn rc] 90))
  have hw0 : (w.alloc (.cells #[.slice R0 rn rc] 90)).heap.size = w.heap.size + 1 := by simp
  obtain ⟨w0, hW0⟩ : ∃ w0, w0 = w.alloc (.cells #[.slice R0 rn rc] 90) := ⟨_, rfl⟩
  clear hS h hsr hsl hkl hkr
  generalize ltK false kk = lt at *
  go_enter Tryz.func87, Tryz.ntmps87
  go_wp2_with fail
  rw [← hW0] at HX0 HW0 hw0 ⊢
  clear hW0
  go_loopw [9, 10, 11] (fun v dn i wr => ∃ (k : Nat) (db : Bool) (out : List (List ByteArray)) (cs : List Value), k ≤ n ∧ i = .int .i64 k ∧ dn = .bool db ∧ Hid (out.length = k + db.toNat) ∧ wr.ownsRow (w.heap.size + 1) 90 1 v out.length cs ∧ Below (w.heap.size + 1) w0 wr ∧ Hid (CellsG 1 (rowC w w.heap.size) out cs) ∧ Hid (Stab.mrg lt rs [row] = out ++ (if db = true then rs.drop k else Stab.mrg lt (rs.drop k) [row]))) (fun _ _ i _ => n - (intOf i).toNat)
  case atStart =>
    refine ⟨0, false, [], [], Nat.zero_le _, rfl, rfl, rfl, ?_, (Below.refl _ _).alloc (by omega) _, rfl, by simp [Hid]⟩
    rw [← hw0]
    simpa using World.ownsRow_lit (e := 90) (size := 1) w0 #[] 0 (Nat.le_refl _) (by omega) rfl
  case round =>
    obtain ⟨k, db, out, cs, hk, rfl, rfl, hol, hown, hb, hC, hM⟩ := hrel
    have hob : out.length ≤ k + 1 := by have h := hol.out; cases db <;> simp at h <;> omega
    have HO := Lib.hid hown
    have HB := Lib.hid hb
    have HBw := Lib.hid (HW0.out.trans (hb.mono (by omega)))
    have hzw := hb.size
    clear hown hb
    have x0 := (HX0.out.later HB.out (by omega)).at 0 rfl
    have zx := (HX0.out.later HB.out (by omega)).lt
    by_cases hlt : k < n
    · have hl : k < rs.length := by rw [Hlen.out]; exact hlt
      obtain ⟨bb, o, rfl, hbb, hcn⟩ := Hh.out.2 (by omega)
      obtain ⟨lv, hv, hlr⟩ := hcn k hlt
      have HLR := Lib.hid hlr
      obtain ⟨L0, ln, lc, rfl, hlS, hlc⟩ := hlr
      have hkln : kk < ln := by rw [← hlS.1]; exact HKL.out _ (getD_memD rs k hl)
      obtain ⟨lb, lo, rfl, hlb, hlcell⟩ := hlS.2 (by omega)
      have hlk := hlcell kk hkln
      obtain ⟨rb, ro, rfl, hrb, hrcell⟩ := HSS.out.2 (by omega)
      have hrk := hrcell kk hkn
      have HKk := Lib.hid (fun W => HKB.out k hl W)
      have HLk := Lib.hid (HLT.out (rs.getD k default))
      have HAh := Lib.hid (fun h => put_ahead (lt := lt) (row := row) hl h)
      have HBh := Lib.hid (fun h => put_behind (lt := lt) (row := row) hl h)
      have HDr := Lib.hid (drop_getD hl)
      clear hcn hlcell hrcell hlS hl
      generalize rs.getD k default = rk at *
      generalize rk.getD kk ByteArray.empty = sl at *
      generalize row.getD kk ByteArray.empty = sr at *
      generalize lt row rk = y at *
      have HRd : Hid (∀ W', Below (w.heap.size + 1) w0 W' → (W'.cell? ⟨w.heap.size, 0, none⟩ = some (.slice (some ⟨rb, ro, none⟩) rn rc) ∧ W'.cell? ⟨bb, o + k, none⟩ = some (.slice (some ⟨lb, lo, none⟩) ln lc) ∧ W'.cell? ⟨rb, ro + kk, none⟩ = some (.string sr) ∧ W'.cell? ⟨lb, lo + kk, none⟩ = some (.string sl))) := fun W' hW => ⟨(HX0.out.later hW (by omega)).at 0 rfl, ((HW0.out.trans (hW.mono (by omega))).cell (p := ⟨bb, o + k, none⟩) hbb).trans hv, ((HW0.out.trans (hW.mono (by omega))).cell (p := ⟨rb, ro + kk, none⟩) hrb).trans hrk, ((HW0.out.trans (hW.mono (by omega))).cell (p := ⟨lb, lo + kk, none⟩) hlb).trans hlk⟩
      have hkz : (k : Int) < (n : Int) := by omega
      have hz1' : (kk : Int) < (rn : Int) := by omega
      have hz2' : (kk : Int) < (ln : Int) := by omega
      obtain ⟨x0, x1, x2, x3⟩ := HRd.out _ HB.out
      go_wp2_with fail
      go_region_held3 (fun W' => W'.cell? ⟨w.heap.size, 0, none⟩ = some (.slice (some ⟨rb, ro, none⟩) rn rc) ∧ W'.cell? ⟨bb, o + k, none⟩ = some (.slice (some ⟨lb, lo, none⟩) ln lc) ∧ W'.cell? ⟨rb, ro + kk, none⟩ = some (.string sr) ∧ W'.cell? ⟨lb, lo + kk, none⟩ = some (.string sl)) (first | exact HRd.out _ (HB.out.trans (hb1.mono hzq)) | exact HRd.out _ HB.out.drew)
        (first | (go_at_call 123; refine (HKk.out _).mono ?_; rintro e w1 ⟨rfl, hb1'⟩; have hb1 := undrew hb1'; have hzq : (w.heap.size + 1) ≤ wr.heap.size := (by omega); clear hb1'))
      have HB1 := Lib.hid (HB.out.trans (hb1.mono hzq))
      have HO1 := Lib.hid (Own.own_later HO.out hb1)
      have hzw1 := HB1.out.size
      clear hb1 x0 x1 x2 x3 zx hzq
      cases db
      · cases y
        · have HE : Hid (Stab.mrg lt rs [row] = (out ++ [rk]) ++ (if false = true then rs.drop (k + 1) else Stab.mrg lt (rs.drop (k + 1)) [row])) := by
            unfold Hid
            rw [hM.out, if_neg (by simp), if_neg (by simp), HBh.out rfl, List.append_assoc]
            rfl
          rw [← HLk.out] at *
          have hrow40 : Hid (∀ oo, (w1.alloc oo).ownsRow (w.heap.size + 1) 90 1 _ out.length cs) := fun oo => Own.own_later HO1.out (Below.new _ _)
          obtain ⟨x0, x1, x2, x3⟩ := HRd.out _ HB1.out
          go_wp2_with (at_builtin; refine wpList_append_own _ rfl (.tmp 58) (.tmp 63) 55 rfl (w.heap.size + 1) 90 i0 _ 1 24 Tryz.underlying55 hi hz0 hz1 hz2 rfl (by decide) _ out.length _ rfl (hrow40.out _) ⟨_, 0, none⟩ 1 1 [.slice (some ⟨lb, lo, none⟩) ln lc] rfl rfl ?a40 ?b40 ?c40 ?d40 ?e40 ?_)
          all_goals try (first | exact cells_atN _ #[.slice (some ⟨lb, lo, none⟩) ln lc] _ _ (by simp) | (simp [Value.oneCell']; done) | (unfold maxLen; omega) | omega | (simp; omega) | (simp only [List.length_append, List.length_singleton]; unfold maxLen; omega) | (simp only [List.length_append, List.length_singleton]; omega))
          intro v5 w5 hown1 hg1 _
          have HO5 : Hid (w5.ownsRow (w.heap.size + 1) 90 1 v5 (out ++ [rk]).length (cs ++ [.slice (some ⟨lb, lo, none⟩) ln lc])) := by
            unfold Hid
            first | (rw [List.length_append, List.length_singleton]; exact hown1) | simpa using hown1
          have HC5 := Lib.hid (CellsG.snoc (R := rowC w w.heap.size) (sz := 1) (d := rk) (c := [.slice (some ⟨lb, lo, none⟩) ln lc]) ⟨_, rfl, HLR.out⟩ rfl hC.out)
          have HB5 := Lib.hid ((HB1.out.alloc (by omega) (.cells #[.slice (some ⟨lb, lo, none⟩) ln lc] 90)).grown hg1 (by simp; omega) (fun g hg' => ((hrow40.out (.cells #[] 0)).lt g hg').1))
          have hzw40 := HB5.out.size
          clear hown1 hg1 x0 x1 x2 x3
          go_wp2_with fail
          go_roundw
          case rel => exact ⟨k + 1, false, _, _, by omega, by go_num, rfl, (by have h := hol.out; unfold Hid; simp at h ⊢; omega), HO5.out, HB5.out, HC5.out, HE.out⟩
          case measure => simp [intOf]; omega
        · have HE : Hid (Stab.mrg lt rs [row] = ((out ++ [row]) ++ [rk]) ++ (if true = true then rs.drop (k + 1) else Stab.mrg lt (rs.drop (k + 1)) [row])) := by
            unfold Hid
            rw [hM.out, if_neg (by simp), if_pos rfl, HAh.out rfl, List.append_assoc, List.append_assoc]
            rfl
          rw [← HLk.out] at *
          have hrow41 : Hid (∀ oo, (w1.alloc oo).ownsRow (w.heap.size + 1) 90 1 _ out.length cs) := fun oo => Own.own_later HO1.out (Below.new _ _)
          obtain ⟨x0, x1, x2, x3⟩ := HRd.out _ HB1.out
          go_wp2_with (at_builtin; refine wpList_append_own _ rfl (.tmp 54) (.tmp 56) 55 rfl (w.heap.size + 1) 90 i0 _ 1 24 Tryz.underlying55 hi hz0 hz1 hz2 rfl (by decide) _ out.length _ rfl (hrow41.out _) ⟨_, 0, none⟩ 1 1 [.slice (some ⟨rb, ro, none⟩) rn rc] rfl rfl ?a41 ?b41 ?c41 ?d41 ?e41 ?_)
          all_goals try (first | exact cells_atN _ #[.slice (some ⟨rb, ro, none⟩) rn rc] _ _ (by simp) | (simp [Value.oneCell']; done) | (unfold maxLen; omega) | omega | (simp; omega) | (simp only [List.length_append, List.length_singleton]; unfold maxLen; omega) | (simp only [List.length_append, List.length_singleton]; omega))
          intro v5 w5 hown1 hg1 _
          have HO5 : Hid (w5.ownsRow (w.heap.size + 1) 90 1 v5 (out ++ [row]).length (cs ++ [.slice (some ⟨rb, ro, none⟩) rn rc])) := by
            unfold Hid
            first | (rw [List.length_append, List.length_singleton]; exact hown1) | simpa using hown1
          have HC5 := Lib.hid (CellsG.snoc (R := rowC w w.heap.size) (sz := 1) (d := row) (c := [.slice (some ⟨rb, ro, none⟩) rn rc]) ⟨_, rfl, HRR.out⟩ rfl hC.out)
          have HB5 := Lib.hid ((HB1.out.alloc (by omega) (.cells #[.slice (some ⟨rb, ro, none⟩) rn rc] 90)).grown hg1 (by simp; omega) (fun g hg' => ((hrow41.out (.cells #[] 0)).lt g hg').1))
          have hzw41 := HB5.out.size
          clear hown1 hg1 x0 x1 x2 x3
          have hrow42 : Hid (∀ oo, (w5.alloc oo).ownsRow (w.heap.size + 1) 90 1 _ (out ++ [row]).length (cs ++ [.slice (some ⟨rb, ro, none⟩) rn rc])) := fun oo => Own.own_later HO5.out (Below.new _ _)
          obtain ⟨x0, x1, x2, x3⟩ := HRd.out _ HB5.out
          go_wp2_with (at_builtin; refine wpList_append_own _ rfl (.tmp 58) (.tmp 63) 55 rfl (w.heap.size + 1) 90 i0 _ 1 24 Tryz.underlying55 hi hz0 hz1 hz2 rfl (by decide) _ (out ++ [row]).length _ rfl (hrow42.out _) ⟨_, 0, none⟩ 1 1 [.slice (some ⟨lb, lo, none⟩) ln lc] rfl rfl ?a42 ?b42 ?c42 ?d42 ?e42 ?_)
          all_goals try (first | exact cells_atN _ #[.slice (some ⟨lb, lo, none⟩) ln lc] _ _ (by simp) | (simp [Value.oneCell']; done) | (unfold maxLen; omega) | omega | (simp; omega) | (simp only [List.length_append, List.length_singleton]; unfold maxLen; omega) | (simp only [List.length_append, List.length_singleton]; omega))
          intro v6 w6 hown1 hg1 _
          have HO6 : Hid (w6.ownsRow (w.heap.size + 1) 90 1 v6 ((out ++ [row]) ++ [rk]).length ((cs ++ [.slice (some ⟨rb, ro, none⟩) rn rc]) ++ [.slice (some ⟨lb, lo, none⟩) ln lc])) := by
            unfold Hid
            first | (rw [List.length_append, List.length_singleton]; exact hown1) | simpa using hown1
          have HC6 := Lib.hid (CellsG.snoc (R := rowC w w.heap.size) (sz := 1) (d := rk) (c := [.slice (some ⟨lb, lo, none⟩) ln lc]) ⟨_, rfl, HLR.out⟩ rfl HC5.out)
          have HB6 := Lib.hid ((HB5.out.alloc (by omega) (.cells #[.slice (some ⟨lb, lo, none⟩) ln lc] 90)).grown hg1 (by simp; omega) (fun g hg' => ((hrow42.out (.cells #[] 0)).lt g hg').1))
          have hzw42 := HB6.out.size
          clear hown1 hg1 x0 x1 x2 x3
          go_wp2_with fail
          go_roundw
          case rel => exact ⟨k + 1, true, _, _, by omega, by go_num, rfl, (by have h := hol.out; unfold Hid; simp at h ⊢; omega), HO6.out, HB6.out, HC6.out, HE.out⟩
          case measure => simp [intOf]; omega
      · have HE : Hid (Stab.mrg lt rs [row] = (out ++ [rk]) ++ (if true = true then rs.drop (k + 1) else Stab.mrg lt (rs.drop (k + 1)) [row])) := by
          unfold Hid
          rw [hM.out, if_pos rfl, if_pos rfl, HDr.out, List.append_assoc]
          rfl
        have hrow43 : Hid (∀ oo, (w1.alloc oo).ownsRow (w.heap.size + 1) 90 1 _ out.length cs) := fun oo => Own.own_later HO1.out (Below.new _ _)
        obtain ⟨x0, x1, x2, x3⟩ := HRd.out _ HB1.out
        go_wp2_with (at_builtin; refine wpList_append_own _ rfl (.tmp 58) (.tmp 63) 55 rfl (w.heap.size + 1) 90 i0 _ 1 24 Tryz.underlying55 hi hz0 hz1 hz2 rfl (by decide) _ out.length _ rfl (hrow43.out _) ⟨_, 0, none⟩ 1 1 [.slice (some ⟨lb, lo, none⟩) ln lc] rfl rfl ?a43 ?b43 ?c43 ?d43 ?e43 ?_)
        all_goals try (first | exact cells_atN _ #[.slice (some ⟨lb, lo, none⟩) ln lc] _ _ (by simp) | (simp [Value.oneCell']; done) | (unfold maxLen; omega) | omega | (simp; omega) | (simp only [List.length_append, List.length_singleton]; unfold maxLen; omega) | (simp only [List.length_append, List.length_singleton]; omega))
        intro v5 w5 hown1 hg1 _
        have HO5 : Hid (w5.ownsRow (w.heap.size + 1) 90 1 v5 (out ++ [rk]).length (cs ++ [.slice (some ⟨lb, lo, none⟩) ln lc])) := by
          unfold Hid
          first | (rw [List.length_append, List.length_singleton]; exact hown1) | simpa using hown1
        have HC5 := Lib.hid (CellsG.snoc (R := rowC w w.heap.size) (sz := 1) (d := rk) (c := [.slice (some ⟨lb, lo, none⟩) ln lc]) ⟨_, rfl, HLR.out⟩ rfl hC.out)
        have HB5 := Lib.hid ((HB1.out.alloc (by omega) (.cells #[.slice (some ⟨lb, lo, none⟩) ln lc] 90)).grown hg1 (by simp; omega) (fun g hg' => ((hrow43.out (.cells #[] 0)).lt g hg').1))
        have hzw43 := HB5.out.size
        clear hown1 hg1 x0 x1 x2 x3
        go_wp2_with fail
        go_roundw
        case rel => exact ⟨k + 1, true, _, _, by omega, by go_num, rfl, (by have h := hol.out; unfold Hid; simp at h ⊢; omega), HO5.out, HB5.out, HC5.out, HE.out⟩
        case measure => simp [intOf]; omega
    · obtain rfl : k = n := by omega
      cases db
      · have HE : Hid (Stab.mrg lt rs [row] = out ++ [row]) := by
          unfold Hid
          rw [hM.out, if_neg (by simp), List.drop_of_length_le (by rw [Hlen.out]; omega), Stab.mrg_nil_left]
        have HRd : Hid (∀ W', Below (w.heap.size + 1) w0 W' → (W'.cell? ⟨w.heap.size, 0, none⟩ = some (.slice R0 rn rc) ∧ True ∧ True ∧ True)) := fun W' hW => ⟨(HX0.out.later hW (by omega)).at 0 rfl, trivial, trivial, trivial⟩
        clear x0
        have hrow44 : Hid (∀ oo, (wr.alloc oo).ownsRow (w.heap.size + 1) 90 1 _ out.length cs) := fun oo => Own.own_later HO.out (Below.new _ _)
        obtain ⟨x0, x1, x2, x3⟩ := HRd.out _ HB.out
        go_wp2_with (at_builtin; refine wpList_append_own _ rfl (.tmp 67) (.tmp 69) 55 rfl (w.heap.size + 1) 90 i0 _ 1 24 Tryz.underlying55 hi hz0 hz1 hz2 rfl (by decide) _ out.length _ rfl (hrow44.out _) ⟨_, 0, none⟩ 1 1 [.slice R0 rn rc] rfl rfl ?a44 ?b44 ?c44 ?d44 ?e44 ?_)
        all_goals try (first | exact cells_atN _ #[.slice R0 rn rc] _ _ (by simp) | (simp [Value.oneCell']; done) | (unfold maxLen; omega) | omega | (simp; omega) | (simp only [List.length_append, List.length_singleton]; unfold maxLen; omega) | (simp only [List.length_append, List.length_singleton]; omega))
        intro v5 w5 hown1 hg1 _
        have HO5 : Hid (w5.ownsRow (w.heap.size + 1) 90 1 v5 (out ++ [row]).length (cs ++ [.slice R0 rn rc])) := by
          unfold Hid
          first | (rw [List.length_append, List.length_singleton]; exact hown1) | simpa using hown1
        have HC5 := Lib.hid (CellsG.snoc (R := rowC w w.heap.size) (sz := 1) (d := row) (c := [.slice R0 rn rc]) ⟨_, rfl, HRR.out⟩ rfl hC.out)
        have HB5 := Lib.hid ((HB.out.alloc (by omega) (.cells #[.slice R0 rn rc] 90)).grown hg1 (by simp; omega) (fun g hg' => ((hrow44.out (.cells #[] 0)).lt g hg').1))
        have hzw44 := HB5.out.size
        clear hown1 hg1 x0 x1 x2 x3
        go_wp2_with fail
        go_ret
        refine ⟨_, cs ++ [.slice R0 rn rc], rfl, ?_, ?_, HW0.out.trans (HB5.out.mono (by omega))⟩
        · rw [HE.out]; exact Own.own_base HO5.out (by omega)
        · rw [HE.out]; exact HC5.out
      · have HE : Hid (Stab.mrg lt rs [row] = out) := by
          unfold Hid
          rw [hM.out, if_pos rfl, List.drop_of_length_le (by rw [Hlen.out]; omega), List.append_nil]
        go_wp2_with fail
        go_ret
        refine ⟨_, cs, rfl, ?_, ?_, HBw.out⟩
        · rw [HE.out]; exact Own.own_base HO.out (by omega)
        · rw [HE.out]; exact hC.out

set_option maxRecDepth 100000 in
set_option maxHeartbeats 8000000 in
theorem l30Put_desc (A : Option Addr) (n c kk : Nat) (r0 : Value) (rs : List (List ByteArray)) (row : List ByteArray) (w : World) (h : RowsRd w w.heap.size A n rs) (hr : RowR w w.heap.size r0 row) (hn : n ≤ 1048576) (hkr : kk < row.length) (hkl : ∀ x ∈ rs, kk < x.length) (hsr : smallR row) (hsl : ∀ x ∈ rs, smallR x) :
    Calls Tryz.prog 87 #[.slice A n c, .agg #[r0], .int .i64 kk, .bool true] w (PutPost w (Stab.mrg (ltK true kk) rs [row]) w) := by
  obtain ⟨i0, hi, hz0, hz1, hz2⟩ := info_parts infoRowD
  have HRR := Lib.hid hr
  obtain ⟨R0, rn, rc, rfl, hS, hrc⟩ := hr
  have HSS := Lib.hid hS
  have hkn : kk < rn := by rw [← hS.1]; exact hkr
  have Hlen := Lib.hid h.1
  have Hh := Lib.hid h
  have HKB := Lib.hid (fun k (hk : k < rs.length) W => (specBefore_any ((rs.getD k default).getD kk ByteArray.empty) (row.getD kk ByteArray.empty) W ((hsl _ (getD_memD rs k hk)).2 _ (getD_memS _ kk (hkl _ (getD_memD rs k hk)))) (hsr.2 _ (getD_memS row kk hkr))))
  have HKA := Lib.hid (fun k (hk : k < rs.length) W => (specBefore_any (row.getD kk ByteArray.empty) ((rs.getD k default).getD kk ByteArray.empty) W (hsr.2 _ (getD_memS row kk hkr)) ((hsl _ (getD_memD rs k hk)).2 _ (getD_memS _ kk (hkl _ (getD_memD rs k hk))))))
  have HKL := Lib.hid hkl
  have HLT : Hid (∀ x, ltK true kk row x = beforeB (x.getD kk ByteArray.empty) (row.getD kk ByteArray.empty)) := fun _ => rfl
  have HX0 : Hid (Blk (w.alloc (.cells #[.slice R0 rn rc] 90)) w.heap.size 90 #[.slice R0 rn rc]) := heap_last rfl
  have HW0 := Lib.hid (Below.new w (.cells #[.slice R0 rn rc] 90))
  have hw0 : (w.alloc (.cells #[.slice R0 rn rc] 90)).heap.size = w.heap.size + 1 := by simp
  obtain ⟨w0, hW0⟩ : ∃ w0, w0 = w.alloc (.cells #[.slice R0 rn rc] 90) := ⟨_, rfl⟩
  clear hS h hsr hsl hkl hkr
  generalize ltK true kk = lt at *
  go_enter Tryz.func87, Tryz.ntmps87
  go_wp2_with fail
  rw [← hW0] at HX0 HW0 hw0 ⊢
  clear hW0
  go_loopw [9, 10, 11] (fun v dn i wr => ∃ (k : Nat) (db : Bool) (out : List (List ByteArray)) (cs : List Value), k ≤ n ∧ i = .int .i64 k ∧ dn = .bool db ∧ Hid (out.length = k + db.toNat) ∧ wr.ownsRow (w.heap.size + 1) 90 1 v out.length cs ∧ Below (w.heap.size + 1) w0 wr ∧ Hid (CellsG 1 (rowC w w.heap.size) out cs) ∧ Hid (Stab.mrg lt rs [row] = out ++ (if db = true then rs.drop k else Stab.mrg lt (rs.drop k) [row]))) (fun _ _ i _ => n - (intOf i).toNat)
  case atStart =>
    refine ⟨0, false, [], [], Nat.zero_le _, rfl, rfl, rfl, ?_, (Below.refl _ _).alloc (by omega) _, rfl, by simp [Hid]⟩
    rw [← hw0]
    simpa using World.ownsRow_lit (e := 90) (size := 1) w0 #[] 0 (Nat.le_refl _) (by omega) rfl
  case round =>
    obtain ⟨k, db, out, cs, hk, rfl, rfl, hol, hown, hb, hC, hM⟩ := hrel
    have hob : out.length ≤ k + 1 := by have h := hol.out; cases db <;> simp at h <;> omega
    have HO := Lib.hid hown
    have HB := Lib.hid hb
    have HBw := Lib.hid (HW0.out.trans (hb.mono (by omega)))
    have hzw := hb.size
    clear hown hb
    have x0 := (HX0.out.later HB.out (by omega)).at 0 rfl
    have zx := (HX0.out.later HB.out (by omega)).lt
    by_cases hlt : k < n
    · have hl : k < rs.length := by rw [Hlen.out]; exact hlt
      obtain ⟨bb, o, rfl, hbb, hcn⟩ := Hh.out.2 (by omega)
      obtain ⟨lv, hv, hlr⟩ := hcn k hlt
      have HLR := Lib.hid hlr
      obtain ⟨L0, ln, lc, rfl, hlS, hlc⟩ := hlr
      have hkln : kk < ln := by rw [← hlS.1]; exact HKL.out _ (getD_memD rs k hl)
      obtain ⟨lb, lo, rfl, hlb, hlcell⟩ := hlS.2 (by omega)
      have hlk := hlcell kk hkln
      obtain ⟨rb, ro, rfl, hrb, hrcell⟩ := HSS.out.2 (by omega)
      have hrk := hrcell kk hkn
      have HKk := Lib.hid (fun W => HKB.out k hl W)
      have HKa := Lib.hid (fun W => HKA.out k hl W)
      have HLk := Lib.hid (HLT.out (rs.getD k default))
      have HAh := Lib.hid (fun h => put_ahead (lt := lt) (row := row) hl h)
      have HBh := Lib.hid (fun h => put_behind (lt := lt) (row := row) hl h)
      have HDr := Lib.hid (drop_getD hl)
      clear hcn hlcell hrcell hlS hl
      generalize rs.getD k default = rk at *
      generalize rk.getD kk ByteArray.empty = sl at *
      generalize row.getD kk ByteArray.empty = sr at *
      generalize lt row rk = y at *
      have HRd : Hid (∀ W', Below (w.heap.size + 1) w0 W' → (W'.cell? ⟨w.heap.size, 0, none⟩ = some (.slice (some ⟨rb, ro, none⟩) rn rc) ∧ W'.cell? ⟨bb, o + k, none⟩ = some (.slice (some ⟨lb, lo, none⟩) ln lc) ∧ W'.cell? ⟨rb, ro + kk, none⟩ = some (.string sr) ∧ W'.cell? ⟨lb, lo + kk, none⟩ = some (.string sl))) := fun W' hW => ⟨(HX0.out.later hW (by omega)).at 0 rfl, ((HW0.out.trans (hW.mono (by omega))).cell (p := ⟨bb, o + k, none⟩) hbb).trans hv, ((HW0.out.trans (hW.mono (by omega))).cell (p := ⟨rb, ro + kk, none⟩) hrb).trans hrk, ((HW0.out.trans (hW.mono (by omega))).cell (p := ⟨lb, lo + kk, none⟩) hlb).trans hlk⟩
      have hkz : (k : Int) < (n : Int) := by omega
      have hz1' : (kk : Int) < (rn : Int) := by omega
      have hz2' : (kk : Int) < (ln : Int) := by omega
      obtain ⟨x0, x1, x2, x3⟩ := HRd.out _ HB.out
      go_wp2_with fail
      go_region_held3 (fun W' => W'.cell? ⟨w.heap.size, 0, none⟩ = some (.slice (some ⟨rb, ro, none⟩) rn rc) ∧ W'.cell? ⟨bb, o + k, none⟩ = some (.slice (some ⟨lb, lo, none⟩) ln lc) ∧ W'.cell? ⟨rb, ro + kk, none⟩ = some (.string sr) ∧ W'.cell? ⟨lb, lo + kk, none⟩ = some (.string sl)) (first | exact HRd.out _ (HB.out.trans (hb1.mono hzq)) | exact HRd.out _ HB.out.drew)
        (first | (go_at_call 123; refine (HKa.out _).mono ?_; rintro e w1 ⟨rfl, hb1'⟩; have hb1 := undrew hb1'; have hzq : (w.heap.size + 1) ≤ wr.heap.size := (by omega); clear hb1'))
      have HB1 := Lib.hid (HB.out.trans (hb1.mono hzq))
      have HO1 := Lib.hid (Own.own_later HO.out hb1)
      have hzw1 := HB1.out.size
      clear hb1 x0 x1 x2 x3 zx hzq
      obtain ⟨x0, x1, x2, x3⟩ := HRd.out _ HB1.out
      go_wp2_with fail
      go_region_held3 (fun W' => W'.cell? ⟨w.heap.size, 0, none⟩ = some (.slice (some ⟨rb, ro, none⟩) rn rc) ∧ W'.cell? ⟨bb, o + k, none⟩ = some (.slice (some ⟨lb, lo, none⟩) ln lc) ∧ W'.cell? ⟨rb, ro + kk, none⟩ = some (.string sr) ∧ W'.cell? ⟨lb, lo + kk, none⟩ = some (.string sl)) (first | exact HRd.out _ (HB1.out.trans (hb2.mono hzq)) | exact HRd.out _ HB1.out.drew)
        (first | (go_at_call 123; refine (HKk.out _).mono ?_; rintro e w2 ⟨rfl, hb2'⟩; have hb2 := undrew hb2'; have hzq : (w.heap.size + 1) ≤ w1.heap.size := (by omega); clear hb2'))
      have HB2 := Lib.hid (HB1.out.trans (hb2.mono hzq))
      have HO2 := Lib.hid (Own.own_later HO1.out hb2)
      have hzw2 := HB2.out.size
      clear hb2 x0 x1 x2 x3 hzq
      cases db
      · cases y
        · have HE : Hid (Stab.mrg lt rs [row] = (out ++ [rk]) ++ (if false = true then rs.drop (k + 1) else Stab.mrg lt (rs.drop (k + 1)) [row])) := by
            unfold Hid
            rw [hM.out, if_neg (by simp), if_neg (by simp), HBh.out rfl, List.append_assoc]
            rfl
          rw [← HLk.out] at *
          have hrow10 : Hid (∀ oo, (w2.alloc oo).ownsRow (w.heap.size + 1) 90 1 _ out.length cs) := fun oo => Own.own_later HO2.out (Below.new _ _)
          obtain ⟨x0, x1, x2, x3⟩ := HRd.out _ HB2.out
          go_wp2_with (at_builtin; refine wpList_append_own _ rfl (.tmp 58) (.tmp 63) 55 rfl (w.heap.size + 1) 90 i0 _ 1 24 Tryz.underlying55 hi hz0 hz1 hz2 rfl (by decide) _ out.length _ rfl (hrow10.out _) ⟨_, 0, none⟩ 1 1 [.slice (some ⟨lb, lo, none⟩) ln lc] rfl rfl ?a10 ?b10 ?c10 ?d10 ?e10 ?_)
          all_goals try (first | exact cells_atN _ #[.slice (some ⟨lb, lo, none⟩) ln lc] _ _ (by simp) | (simp [Value.oneCell']; done) | (unfold maxLen; omega) | omega | (simp; omega) | (simp only [List.length_append, List.length_singleton]; unfold maxLen; omega) | (simp only [List.length_append, List.length_singleton]; omega))
          intro v5 w5 hown1 hg1 _
          have HO5 : Hid (w5.ownsRow (w.heap.size + 1) 90 1 v5 (out ++ [rk]).length (cs ++ [.slice (some ⟨lb, lo, none⟩) ln lc])) := by
            unfold Hid
            first | (rw [List.length_append, List.length_singleton]; exact hown1) | simpa using hown1
          have HC5 := Lib.hid (CellsG.snoc (R := rowC w w.heap.size) (sz := 1) (d := rk) (c := [.slice (some ⟨lb, lo, none⟩) ln lc]) ⟨_, rfl, HLR.out⟩ rfl hC.out)
          have HB5 := Lib.hid ((HB2.out.alloc (by omega) (.cells #[.slice (some ⟨lb, lo, none⟩) ln lc] 90)).grown hg1 (by simp; omega) (fun g hg' => ((hrow10.out (.cells #[] 0)).lt g hg').1))
          have hzw10 := HB5.out.size
          clear hown1 hg1 x0 x1 x2 x3
          go_wp2_with fail
          go_roundw
          case rel => exact ⟨k + 1, false, _, _, by omega, by go_num, rfl, (by have h := hol.out; unfold Hid; simp at h ⊢; omega), HO5.out, HB5.out, HC5.out, HE.out⟩
          case measure => simp [intOf]; omega
        · have HE : Hid (Stab.mrg lt rs [row] = ((out ++ [row]) ++ [rk]) ++ (if true = true then rs.drop (k + 1) else Stab.mrg lt (rs.drop (k + 1)) [row])) := by
            unfold Hid
            rw [hM.out, if_neg (by simp), if_pos rfl, HAh.out rfl, List.append_assoc, List.append_assoc]
            rfl
          rw [← HLk.out] at *
          have hrow11 : Hid (∀ oo, (w2.alloc oo).ownsRow (w.heap.size + 1) 90 1 _ out.length cs) := fun oo => Own.own_later HO2.out (Below.new _ _)
          obtain ⟨x0, x1, x2, x3⟩ := HRd.out _ HB2.out
          go_wp2_with (at_builtin; refine wpList_append_own _ rfl (.tmp 54) (.tmp 56) 55 rfl (w.heap.size + 1) 90 i0 _ 1 24 Tryz.underlying55 hi hz0 hz1 hz2 rfl (by decide) _ out.length _ rfl (hrow11.out _) ⟨_, 0, none⟩ 1 1 [.slice (some ⟨rb, ro, none⟩) rn rc] rfl rfl ?a11 ?b11 ?c11 ?d11 ?e11 ?_)
          all_goals try (first | exact cells_atN _ #[.slice (some ⟨rb, ro, none⟩) rn rc] _ _ (by simp) | (simp [Value.oneCell']; done) | (unfold maxLen; omega) | omega | (simp; omega) | (simp only [List.length_append, List.length_singleton]; unfold maxLen; omega) | (simp only [List.length_append, List.length_singleton]; omega))
          intro v5 w5 hown1 hg1 _
          have HO5 : Hid (w5.ownsRow (w.heap.size + 1) 90 1 v5 (out ++ [row]).length (cs ++ [.slice (some ⟨rb, ro, none⟩) rn rc])) := by
            unfold Hid
            first | (rw [List.length_append, List.length_singleton]; exact hown1) | simpa using hown1
          have HC5 := Lib.hid (CellsG.snoc (R := rowC w w.heap.size) (sz := 1) (d := row) (c := [.slice (some ⟨rb, ro, none⟩) rn rc]) ⟨_, rfl, HRR.out⟩ rfl hC.out)
          have HB5 := Lib.hid ((HB2.out.alloc (by omega) (.cells #[.slice (some ⟨rb, ro, none⟩) rn rc] 90)).grown hg1 (by simp; omega) (fun g hg' => ((hrow11.out (.cells #[] 0)).lt g hg').1))
          have hzw11 := HB5.out.size
          clear hown1 hg1 x0 x1 x2 x3
          have hrow12 : Hid (∀ oo, (w5.alloc oo).ownsRow (w.heap.size + 1) 90 1 _ (out ++ [row]).length (cs ++ [.slice (some ⟨rb, ro, none⟩) rn rc])) := fun oo => Own.own_later HO5.out (Below.new _ _)
          obtain ⟨x0, x1, x2, x3⟩ := HRd.out _ HB5.out
          go_wp2_with (at_builtin; refine wpList_append_own _ rfl (.tmp 58) (.tmp 63) 55 rfl (w.heap.size + 1) 90 i0 _ 1 24 Tryz.underlying55 hi hz0 hz1 hz2 rfl (by decide) _ (out ++ [row]).length _ rfl (hrow12.out _) ⟨_, 0, none⟩ 1 1 [.slice (some ⟨lb, lo, none⟩) ln lc] rfl rfl ?a12 ?b12 ?c12 ?d12 ?e12 ?_)
          all_goals try (first | exact cells_atN _ #[.slice (some ⟨lb, lo, none⟩) ln lc] _ _ (by simp) | (simp [Value.oneCell']; done) | (unfold maxLen; omega) | omega | (simp; omega) | (simp only [List.length_append, List.length_singleton]; unfold maxLen; omega) | (simp only [List.length_append, List.length_singleton]; omega))
          intro v6 w6 hown1 hg1 _
          have HO6 : Hid (w6.ownsRow (w.heap.size + 1) 90 1 v6 ((out ++ [row]) ++ [rk]).length ((cs ++ [.slice (some ⟨rb, ro, none⟩) rn rc]) ++ [.slice (some ⟨lb, lo, none⟩) ln lc])) := by
            unfold Hid
            first | (rw [List.length_append, List.length_singleton]; exact hown1) | simpa using hown1
          have HC6 := Lib.hid (CellsG.snoc (R := rowC w w.heap.size) (sz := 1) (d := rk) (c := [.slice (some ⟨lb, lo, none⟩) ln lc]) ⟨_, rfl, HLR.out⟩ rfl HC5.out)
          have HB6 := Lib.hid ((HB5.out.alloc (by omega) (.cells #[.slice (some ⟨lb, lo, none⟩) ln lc] 90)).grown hg1 (by simp; omega) (fun g hg' => ((hrow12.out (.cells #[] 0)).lt g hg').1))
          have hzw12 := HB6.out.size
          clear hown1 hg1 x0 x1 x2 x3
          go_wp2_with fail
          go_roundw
          case rel => exact ⟨k + 1, true, _, _, by omega, by go_num, rfl, (by have h := hol.out; unfold Hid; simp at h ⊢; omega), HO6.out, HB6.out, HC6.out, HE.out⟩
          case measure => simp [intOf]; omega
      · have HE : Hid (Stab.mrg lt rs [row] = (out ++ [rk]) ++ (if true = true then rs.drop (k + 1) else Stab.mrg lt (rs.drop (k + 1)) [row])) := by
          unfold Hid
          rw [hM.out, if_pos rfl, if_pos rfl, HDr.out, List.append_assoc]
          rfl
        have hrow13 : Hid (∀ oo, (w2.alloc oo).ownsRow (w.heap.size + 1) 90 1 _ out.length cs) := fun oo => Own.own_later HO2.out (Below.new _ _)
        obtain ⟨x0, x1, x2, x3⟩ := HRd.out _ HB2.out
        go_wp2_with (at_builtin; refine wpList_append_own _ rfl (.tmp 58) (.tmp 63) 55 rfl (w.heap.size + 1) 90 i0 _ 1 24 Tryz.underlying55 hi hz0 hz1 hz2 rfl (by decide) _ out.length _ rfl (hrow13.out _) ⟨_, 0, none⟩ 1 1 [.slice (some ⟨lb, lo, none⟩) ln lc] rfl rfl ?a13 ?b13 ?c13 ?d13 ?e13 ?_)
        all_goals try (first | exact cells_atN _ #[.slice (some ⟨lb, lo, none⟩) ln lc] _ _ (by simp) | (simp [Value.oneCell']; done) | (unfold maxLen; omega) | omega | (simp; omega) | (simp only [List.length_append, List.length_singleton]; unfold maxLen; omega) | (simp only [List.length_append, List.length_singleton]; omega))
        intro v5 w5 hown1 hg1 _
        have HO5 : Hid (w5.ownsRow (w.heap.size + 1) 90 1 v5 (out ++ [rk]).length (cs ++ [.slice (some ⟨lb, lo, none⟩) ln lc])) := by
          unfold Hid
          first | (rw [List.length_append, List.length_singleton]; exact hown1) | simpa using hown1
        have HC5 := Lib.hid (CellsG.snoc (R := rowC w w.heap.size) (sz := 1) (d := rk) (c := [.slice (some ⟨lb, lo, none⟩) ln lc]) ⟨_, rfl, HLR.out⟩ rfl hC.out)
        have HB5 := Lib.hid ((HB2.out.alloc (by omega) (.cells #[.slice (some ⟨lb, lo, none⟩) ln lc] 90)).grown hg1 (by simp; omega) (fun g hg' => ((hrow13.out (.cells #[] 0)).lt g hg').1))
        have hzw13 := HB5.out.size
        clear hown1 hg1 x0 x1 x2 x3
        go_wp2_with fail
        go_roundw
        case rel => exact ⟨k + 1, true, _, _, by omega, by go_num, rfl, (by have h := hol.out; unfold Hid; simp at h ⊢; omega), HO5.out, HB5.out, HC5.out, HE.out⟩
        case measure => simp [intOf]; omega
    · obtain rfl : k = n := by omega
      cases db
      · have HE : Hid (Stab.mrg lt rs [row] = out ++ [row]) := by
          unfold Hid
          rw [hM.out, if_neg (by simp), List.drop_of_length_le (by rw [Hlen.out]; omega), Stab.mrg_nil_left]
        have HRd : Hid (∀ W', Below (w.heap.size + 1) w0 W' → (W'.cell? ⟨w.heap.size, 0, none⟩ = some (.slice R0 rn rc) ∧ True ∧ True ∧ True)) := fun W' hW => ⟨(HX0.out.later hW (by omega)).at 0 rfl, trivial, trivial, trivial⟩
        clear x0
        have hrow14 : Hid (∀ oo, (wr.alloc oo).ownsRow (w.heap.size + 1) 90 1 _ out.length cs) := fun oo => Own.own_later HO.out (Below.new _ _)
        obtain ⟨x0, x1, x2, x3⟩ := HRd.out _ HB.out
        go_wp2_with (at_builtin; refine wpList_append_own _ rfl (.tmp 67) (.tmp 69) 55 rfl (w.heap.size + 1) 90 i0 _ 1 24 Tryz.underlying55 hi hz0 hz1 hz2 rfl (by decide) _ out.length _ rfl (hrow14.out _) ⟨_, 0, none⟩ 1 1 [.slice R0 rn rc] rfl rfl ?a14 ?b14 ?c14 ?d14 ?e14 ?_)
        all_goals try (first | exact cells_atN _ #[.slice R0 rn rc] _ _ (by simp) | (simp [Value.oneCell']; done) | (unfold maxLen; omega) | omega | (simp; omega) | (simp only [List.length_append, List.length_singleton]; unfold maxLen; omega) | (simp only [List.length_append, List.length_singleton]; omega))
        intro v5 w5 hown1 hg1 _
        have HO5 : Hid (w5.ownsRow (w.heap.size + 1) 90 1 v5 (out ++ [row]).length (cs ++ [.slice R0 rn rc])) := by
          unfold Hid
          first | (rw [List.length_append, List.length_singleton]; exact hown1) | simpa using hown1
        have HC5 := Lib.hid (CellsG.snoc (R := rowC w w.heap.size) (sz := 1) (d := row) (c := [.slice R0 rn rc]) ⟨_, rfl, HRR.out⟩ rfl hC.out)
        have HB5 := Lib.hid ((HB.out.alloc (by omega) (.cells #[.slice R0 rn rc] 90)).grown hg1 (by simp; omega) (fun g hg' => ((hrow14.out (.cells #[] 0)).lt g hg').1))
        have hzw14 := HB5.out.size
        clear hown1 hg1 x0 x1 x2 x3
        go_wp2_with fail
        go_ret
        refine ⟨_, cs ++ [.slice R0 rn rc], rfl, ?_, ?_, HW0.out.trans (HB5.out.mono (by omega))⟩
        · rw [HE.out]; exact Own.own_base HO5.out (by omega)
        · rw [HE.out]; exact HC5.out
      · have HE : Hid (Stab.mrg lt rs [row] = out) := by
          unfold Hid
          rw [hM.out, if_pos rfl, List.drop_of_length_le (by rw [Hlen.out]; omega), List.append_nil]
        go_wp2_with fail
        go_ret
        refine ⟨_, cs, rfl, ?_, ?_, HBw.out⟩
        · rw [HE.out]; exact Own.own_base HO.out (by omega)
        · rw [HE.out]; exact hC.out
end Go.Proofs.YtalpafaflgddpaaGreatDoor

