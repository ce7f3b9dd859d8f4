/-
  Plain laws of row nodes: in a right tree the nodes of a table's rows with one key are at most one. Trees, plainly: what is put, what is killed, what changes come to; a right tree stays right.
-/
import Derived.Test.YtfpcjhajjejpdaaGreatDoorZ16
import Derived.Test.YtfpcjhajjejpdaaGreatDoorZ15
import Derived.Test.YtfpcjhajjejpdaaGreatDoorZ18
import Derived.Test.YtfpcjhajjejpdaaGreatDoorZ17
namespace Go.Proofs.YtfpcjhajjejpdaaGreatDoor
open Go.RowKit

theorem stepB_trans {a b c : NodeD} (h1 : stepB a b = true) (h2 : stepB b c = true) : stepB a c = true := by
  unfold stepB at *
  rw [aheadB_eq] at *
  exact lessB_trans _ _ _ _ _ _ h1 h2
theorem stepB_irr {a b : NodeD} (hn : a.name = b.name) (hs : a.subs = b.subs) : stepB a b = false := by
  unfold stepB
  rw [aheadB_eq, hn, hs, ← cmpLoc_lt, (cmpLoc_zero _ _ _ _).2 ⟨rfl, rfl⟩]
  rfl
theorem tree_step {l : List NodeD} (h : treeB l = true) (k : Nat) (hk : k + 1 < l.length) : stepB (l.getD k default) (l.getD (k + 1) default) = true := by
  unfold treeB at h
  rw [Bool.and_eq_true] at h
  have h2 := (allFrom_all (treeAt l) l.length 0).1 h.2 (k + 1) (by omega) (by omega)
  unfold treeAt at h2
  simp only [Bool.and_eq_true, Bool.or_eq_true, decide_eq_true_eq] at h2
  rcases h2.2 with h3 | h3
  · omega
  · simpa using h3
theorem tree_far {l : List NodeD} (h : treeB l = true) : ∀ (m i : Nat), i + m + 1 < l.length → stepB (l.getD i default) (l.getD (i + m + 1) default) = true
  | 0, i, hj => tree_step h i hj
  | m + 1, i, hj => stepB_trans (tree_far h m i (by omega)) (tree_step h (i + m + 1) hj)
theorem tree_pw {l : List NodeD} (h : treeB l = true) : l.Pairwise fun a b => stepB a b = true := by
  rw [List.pairwise_iff_getElem]
  intro i j hi hj hij
  have := tree_far h (j - i - 1) i (by omega)
  rw [show i + (j - i - 1) + 1 = j by omega] at this
  rw [List.getD_eq_getElem?_getD, List.getD_eq_getElem?_getD, List.getElem?_eq_getElem hi, List.getElem?_eq_getElem hj] at this
  exact this
theorem two_subs {l : List ByteArray} (h : l.length = 2) : l = [l.getD 0 ByteArray.empty, l.getD 1 ByteArray.empty] := by
  match l, h with
  | [a, b], _ => rfl
theorem rows_key_le {g key : ByteArray} {l : List NodeD} (h : treeB l = true) : ((rowsN g l).filter (keyP key)).length ≤ 1 := by
  have hp : ((rowsN g l).filter (keyP key)).Pairwise (fun a b => stepB a b = true) := ((tree_pw h).filter _).filter _
  have hm : ∀ d ∈ (rowsN g l).filter (keyP key), d.name = g ∧ d.subs = [⟨#[114]⟩, key] := by
    intro d hd
    rw [List.mem_filter] at hd
    obtain ⟨hd, hk⟩ := hd
    unfold rowsN at hd
    rw [List.mem_filter] at hd
    have h1 := hd.2
    unfold isRowB at h1
    unfold keyP at hk
    simp only [Bool.and_eq_true, decide_eq_true_eq] at h1 hk
    obtain ⟨e1, e2, e3⟩ := h1
    exact ⟨e1, by rw [two_subs e2, e3, hk]⟩
  generalize (rowsN g l).filter (keyP key) = r at *
  match r, hp, hm with
  | [], _, _ => simp
  | [_], _, _ => simp
  | a :: b :: r, hp, hm =>
    exfalso
    have h1 := (List.pairwise_cons.1 hp).1 b (by simp)
    have ha := hm a (by simp)
    have hb := hm b (by simp)
    rw [stepB_irr (ha.1.trans hb.1.symm) (ha.2.trans hb.2.symm)] at h1
    cases h1
end Go.Proofs.YtfpcjhajjejpdaaGreatDoor
namespace Go.Proofs.YtfpcjhajjejpdaaGreatDoor
open Go.RowKit
set_option linter.unusedVariables false

def aheadN (nm : ByteArray) (ss : List ByteArray) (d : NodeD) : Bool := aheadB d.name d.subs nm ss
/-- Where a node of a place stands, or would. -/
def atN (fs : List NodeD) (nm : ByteArray) (ss : List ByteArray) : Nat := (fs.takeWhile (aheadN nm ss)).length
def hereN (nm : ByteArray) (ss : List ByteArray) (d : NodeD) : Bool := decide (d.name = nm) && decide (d.subs = ss)
def hasN (fs : List NodeD) (nm : ByteArray) (ss : List ByteArray) : Bool := decide (atN fs nm ss < fs.length) && hereN nm ss (fs.getD (atN fs nm ss) default)
def putN (fs : List NodeD) (nm : ByteArray) (ss : List ByteArray) (v : ByteArray) : List NodeD :=
  fs.take (atN fs nm ss) ++ ⟨nm, ss, v⟩ :: fs.drop (if hasN fs nm ss = true then atN fs nm ss + 1 else atN fs nm ss)
def putB (fs : List NodeD) (nm : ByteArray) (ss : List ByteArray) (v : ByteArray) : Int × List NodeD :=
  if (!hasN fs nm ss && decide (120 ≤ fs.length)) = true then (4, []) else (0, putN fs nm ss v)
/-- At a place, or below it. -/
def inN (nm : ByteArray) (ss : List ByteArray) (d : NodeD) : Bool := decide (d.name = nm) && startsB ss d.subs
def killB (fs : List NodeD) (nm : ByteArray) (ss : List ByteArray) : List NodeD := fs.filter fun d => !inN nm ss d

theorem takeWhile_len {α : Type} [Inhabited α] (p : α → Bool) : ∀ (l : List α) (k : Nat), k ≤ l.length → (∀ j, j < k → p (l.getD j default) = true) → (k = l.length ∨ p (l.getD k default) = false) → (l.takeWhile p).length = k
  | [], k, h, _, _ => by simp at h; simp [h]
  | x :: r, 0, _, _, h2 => by
    rcases h2 with h2 | h2
    · simp at h2
    · simp only [List.getD_cons_zero] at h2
      simp [h2]
  | x :: r, k + 1, h, h1, h2 => by
    have h0 := h1 0 (by omega)
    simp only [List.getD_cons_zero] at h0
    have ih := takeWhile_len p r k (by simpa using h) (fun j hj => by simpa using h1 (j + 1) (by omega)) (by simpa using h2)
    simp [h0, ih]
theorem takeWhile_at {α : Type} [Inhabited α] (p : α → Bool) : ∀ (l : List α), (l.takeWhile p).length ≤ l.length ∧ (∀ j, j < (l.takeWhile p).length → p (l.getD j default) = true) ∧ ((l.takeWhile p).length < l.length → p (l.getD (l.takeWhile p).length default) = false)
  | [] => by simp
  | x :: r => by
    obtain ⟨h1, h2, h3⟩ := takeWhile_at p r
    by_cases h : p x = true
    · rw [List.takeWhile_cons, if_pos h]
      refine ⟨by simpa using h1, fun j hj => ?_, fun hl => ?_⟩
      · match j with
        | 0 => simpa using h
        | j + 1 => simpa using h2 j (by simpa using hj)
      · simpa using h3 (by simpa using hl)
    · rw [List.takeWhile_cons, if_neg h]
      refine ⟨by simp, fun j hj => absurd hj (by simp), fun _ => by simpa using h⟩
theorem atN_eq {fs : List NodeD} {nm : ByteArray} {ss : List ByteArray} {k : Nat} (hk : k ≤ fs.length) (h1 : ∀ j, j < k → aheadN nm ss (fs.getD j default) = true) (h2 : k = fs.length ∨ aheadN nm ss (fs.getD k default) = false) : atN fs nm ss = k := takeWhile_len _ _ _ hk h1 h2
theorem atN_le (fs : List NodeD) (nm : ByteArray) (ss : List ByteArray) : atN fs nm ss ≤ fs.length := (takeWhile_at _ fs).1

theorem tree_iff {l : List NodeD} : treeB l = true ↔ l.length ≤ 120 ∧ (∀ d ∈ l, nodeB d = true) ∧ l.Pairwise fun a b => stepB a b = true := by
  constructor
  · intro h
    refine ⟨?_, fun d hd => ?_, tree_pw h⟩
    · unfold treeB at h
      rw [Bool.and_eq_true] at h
      exact of_decide_eq_true h.1
    · unfold treeB at h
      rw [Bool.and_eq_true] at h
      obtain ⟨i, hi, rfl⟩ := List.getElem_of_mem hd
      have h2 := (allFrom_all (treeAt l) l.length 0).1 h.2 i (by omega) (by omega)
      unfold treeAt at h2
      rw [Bool.and_eq_true, List.getD_eq_getElem?_getD, List.getElem?_eq_getElem hi] at h2
      exact h2.1
  · rintro ⟨h1, h2, h3⟩
    unfold treeB
    rw [Bool.and_eq_true]
    refine ⟨decide_eq_true h1, (allFrom_all (treeAt l) l.length 0).2 fun j _ hj => ?_⟩
    have hj : j < l.length := by omega
    unfold treeAt
    rw [Bool.and_eq_true]
    refine ⟨h2 _ (getD_memD l j hj), ?_⟩
    by_cases h0 : j = 0
    · simp [h0]
    · rw [Bool.or_eq_true]
      refine .inr ?_
      have := List.pairwise_iff_getElem.1 h3 (j - 1) j (by omega) hj (by omega)
      rw [List.getD_eq_getElem?_getD, List.getD_eq_getElem?_getD, List.getElem?_eq_getElem hj, List.getElem?_eq_getElem (show j - 1 < l.length by omega)]
      exact this
theorem lessS_total : ∀ (a b : List ByteArray), a ≠ b → lessS a b = true ∨ lessS b a = true
  | [], [], h => absurd rfl h
  | [], _ :: _, _ => .inl rfl
  | _ :: _, [], _ => .inr rfl
  | x :: r, y :: s, h => by
    unfold lessS
    by_cases e : x = y
    · subst e
      rw [if_pos rfl, if_pos rfl]
      exact lessS_total r s (fun e => h (by rw [e]))
    · rw [if_neg e, if_neg (fun e2 => e e2.symm)]
      exact before_total x y e
theorem lessB_total {n n' : ByteArray} {s s' : List ByteArray} (h : ¬ (n = n' ∧ s = s')) : lessB n s n' s' = true ∨ lessB n' s' n s = true := by
  unfold lessB
  by_cases e : n = n'
  · subst e
    rw [if_pos rfl, if_pos rfl]
    exact lessS_total s s' (fun e => h ⟨rfl, e⟩)
  · rw [if_neg e, if_neg (fun e2 => e e2.symm)]
    cases h1 : Op.bytesLess n.toList n'.toList with
    | true => exact .inl rfl
    | false =>
      cases h2 : Op.bytesLess n'.toList n.toList with
      | true => exact .inr rfl
      | false => exact absurd (bytes_ext (bl_total _ _ h1 h2)) e
theorem stepB_total {a b : NodeD} (h : ¬ (a.name = b.name ∧ a.subs = b.subs)) : stepB a b = true ∨ stepB b a = true := by
  unfold stepB
  rw [aheadB_eq, aheadB_eq]
  exact lessB_total h
/-- The nodes ahead of a place, the node there, those behind. -/
theorem put_parts {fs : List NodeD} (h : treeB fs = true) (nm : ByteArray) (ss : List ByteArray) (v : ByteArray) :
    (∀ d ∈ fs.take (atN fs nm ss), stepB d ⟨nm, ss, v⟩ = true) ∧ (∀ d ∈ fs.drop (if hasN fs nm ss = true then atN fs nm ss + 1 else atN fs nm ss), stepB ⟨nm, ss, v⟩ d = true) := by
  obtain ⟨h1, h2, h3⟩ := takeWhile_at (aheadN nm ss) fs
  obtain ⟨_, _, hp⟩ := tree_iff.1 h
  refine ⟨fun d hd => ?_, ?_⟩
  · obtain ⟨i, hi, rfl⟩ := List.mem_take_iff_getElem.1 hd
    have hi2 : i < fs.length := by omega
    have h4 := h2 i (by unfold atN at hi; omega)
    rw [List.getD_eq_getElem?_getD, List.getElem?_eq_getElem hi2] at h4
    exact h4
  · by_cases hh : hasN fs nm ss = true
    · rw [if_pos hh]
      intro d hd
      unfold hasN hereN at hh
      simp only [Bool.and_eq_true, decide_eq_true_eq] at hh
      obtain ⟨hl, e1, e2⟩ := hh
      obtain ⟨i, hi, rfl⟩ := List.mem_drop_iff_getElem.1 hd
      have := List.pairwise_iff_getElem.1 hp (atN fs nm ss) (atN fs nm ss + 1 + i) hl (by omega) (by omega)
      rw [List.getD_eq_getElem?_getD, List.getElem?_eq_getElem hl, Option.getD_some] at e1 e2
      unfold stepB at this ⊢
      rw [e1, e2] at this
      exact this
    · rw [if_neg hh]
      intro d hd
      obtain ⟨i, hi, rfl⟩ := List.mem_drop_iff_getElem.1 hd
      have hl : atN fs nm ss < fs.length := by omega
      have h4 := h3 (by unfold atN at hl; exact hl)
      have h5 : stepB ⟨nm, ss, v⟩ fs[atN fs nm ss] = true := by
        have hne : ¬ (fs[atN fs nm ss].name = nm ∧ fs[atN fs nm ss].subs = ss) := fun ⟨e1, e2⟩ => hh (by
          unfold hasN hereN
          rw [List.getD_eq_getElem?_getD, List.getElem?_eq_getElem hl, Option.getD_some, e1, e2]
          simp [hl])
        rcases stepB_total (a := fs[atN fs nm ss]) (b := ⟨nm, ss, v⟩) hne with h6 | h6
        · exfalso
          have h7 : aheadN nm ss (fs.getD (atN fs nm ss) default) = false := h4
          rw [List.getD_eq_getElem?_getD, List.getElem?_eq_getElem hl, Option.getD_some] at h7
          have h8 : stepB fs[atN fs nm ss] ⟨nm, ss, v⟩ = aheadN nm ss fs[atN fs nm ss] := rfl
          rw [h8, h7] at h6
          cases h6
        · exact h6
      by_cases h0 : i = 0
      · subst h0; simpa using h5
      · have := List.pairwise_iff_getElem.1 hp (atN fs nm ss) (atN fs nm ss + i) hl (by omega) (by omega)
        exact stepB_trans h5 this
theorem put_tree {fs : List NodeD} {nm : ByteArray} {ss : List ByteArray} {v : ByteArray} (h : treeB fs = true) (hp : thingB nm ss = true) (hv : v.size ≤ 64) (h0 : (putB fs nm ss v).1 = 0) : treeB (putB fs nm ss v).2 = true := by
  unfold putB at h0 ⊢
  split at h0
  · cases h0
  · next hn =>
    rw [if_neg hn]
    obtain ⟨h1, h2⟩ := put_parts h nm ss v
    obtain ⟨g1, g2, g3⟩ := tree_iff.1 h
    have hle := atN_le fs nm ss
    refine tree_iff.2 ⟨?_, fun d hd => ?_, ?_⟩
    · unfold putN
      rw [List.length_append, List.length_cons, List.length_take, List.length_drop]
      by_cases hh : hasN fs nm ss = true
      · rw [if_pos hh]
        have : atN fs nm ss < fs.length := by
          unfold hasN at hh
          rw [Bool.and_eq_true] at hh
          exact of_decide_eq_true hh.1
        omega
      · rw [if_neg hh]
        have h3 : ¬ 120 ≤ fs.length := fun h3 => hn (by simp [hh, h3])
        omega
    · unfold putN at hd
      rcases List.mem_append.1 hd with h3 | h3
      · exact g2 d (List.mem_of_mem_take h3)
      · rcases List.mem_cons.1 h3 with h4 | h4
        · subst h4
          unfold nodeB
          rw [hp, decide_eq_true hv]
          rfl
        · exact g2 d (List.mem_of_mem_drop h4)
    · unfold putN
      rw [List.pairwise_append, List.pairwise_cons]
      refine ⟨g3.sublist (List.take_sublist _ _), ⟨h2, g3.sublist (List.drop_sublist _ _)⟩, fun a ha b hb => ?_⟩
      rcases List.mem_cons.1 hb with h4 | h4
      · subst h4; exact h1 a ha
      · exact stepB_trans (h1 a ha) (h2 b h4)
theorem kill_tree {fs : List NodeD} (nm : ByteArray) (ss : List ByteArray) (h : treeB fs = true) : treeB (killB fs nm ss) = true := by
  obtain ⟨g1, g2, g3⟩ := tree_iff.1 h
  exact tree_iff.2 ⟨Nat.le_trans (List.length_filter_le _ _) g1, fun d hd => g2 d (List.mem_filter.1 hd).1, g3.filter _⟩
theorem tree_nil : treeB [] = true := tree_iff.2 ⟨by simp, fun d hd => by simp at hd, List.Pairwise.nil⟩
theorem tree_small {fs : List NodeD} (h : treeB fs = true) : smallNs fs := by
  obtain ⟨g1, g2, _⟩ := tree_iff.1 h
  refine ⟨by omega, fun d hd => ?_⟩
  have h2 := g2 d hd
  unfold nodeB thingB nameB subsB at h2
  simp only [Bool.and_eq_true, decide_eq_true_eq, List.all_eq_true] at h2
  obtain ⟨⟨⟨a1, _⟩, b1, b2⟩, c1⟩ := h2
  refine ⟨by omega, ⟨by omega, fun s hs => ?_⟩, by omega⟩
  have := b2 s hs
  unfold subB at this
  simp only [Bool.and_eq_true, decide_eq_true_eq] at this
  omega
/-- The nodes that are left where a place has a node put, or not. -/
theorem put_filter {fs : List NodeD} (nm : ByteArray) (ss : List ByteArray) (v : ByteArray) (p : NodeD → Bool) (hp : ∀ d : NodeD, d.name = nm → d.subs = ss → p d = false) : (putN fs nm ss v).filter p = fs.filter p := by
  unfold putN
  rw [List.filter_append, List.filter_cons, hp ⟨nm, ss, v⟩ rfl rfl, if_neg (by simp)]
  conv => rhs; rw [← List.take_append_drop (atN fs nm ss) fs, List.filter_append]
  congr 1
  by_cases hh : hasN fs nm ss = true
  · rw [if_pos hh]
    unfold hasN hereN at hh
    simp only [Bool.and_eq_true, decide_eq_true_eq] at hh
    obtain ⟨hl, e1, e2⟩ := hh
    rw [List.drop_eq_getElem_cons hl, List.filter_cons]
    rw [List.getD_eq_getElem?_getD, List.getElem?_eq_getElem hl, Option.getD_some] at e1 e2
    rw [hp _ e1 e2, if_neg (by simp)]
  · rw [if_neg hh]

/-- A change. -/
structure ChgD where
  kind : Int
  name : ByteArray
  subs : List ByteArray
  val : ByteArray
deriving Inhabited
def changeB (c : ChgD) : Bool := thingB c.name c.subs && ((decide (c.kind = 1) && decide (c.val.size ≤ 64)) || (decide (c.kind = 2) && decide (c.val = ⟨#[]⟩)))
def doB (fs : List NodeD) (c : ChgD) : Int × List NodeD := if c.kind = 1 then putB fs c.name c.subs c.val else (0, killB fs c.name c.subs)
def doOneB (fs : List NodeD) (c : ChgD) : Int × List NodeD := if (treeB fs && changeB c) = true then doB fs c else (1, [])
def doAllB : List NodeD → List ChgD → Int × List NodeD
  | fs, [] => (0, fs)
  | fs, c :: r => if (doOneB fs c).1 = 0 then doAllB (doOneB fs c).2 r else ((doOneB fs c).1, [])
def doChangesB (fs : List NodeD) (cs : List ChgD) : Int × List NodeD := if treeB fs = true then (if 120 < cs.length then (4, []) else doAllB fs cs) else (1, [])
theorem putB_code (fs : List NodeD) (nm : ByteArray) (ss : List ByteArray) (v : ByteArray) : (putB fs nm ss v).1 = 0 ∨ putB fs nm ss v = (4, []) := by
  unfold putB
  split
  · exact .inr rfl
  · exact .inl rfl
theorem doOne_tree {fs : List NodeD} {c : ChgD} (h0 : (doOneB fs c).1 = 0) : treeB (doOneB fs c).2 = true := by
  unfold doOneB at h0 ⊢
  split at h0
  case isFalse => cases h0
  case isTrue h =>
    rw [if_pos h]
    rw [Bool.and_eq_true] at h
    obtain ⟨h1, h2⟩ := h
    unfold changeB at h2
    rw [Bool.and_eq_true] at h2
    unfold doB at h0 ⊢
    split at h0
    · next hk =>
      rw [if_pos hk]
      refine put_tree h1 h2.1 ?_ h0
      have := h2.2
      rw [hk] at this
      simpa using this
    · next hk => rw [if_neg hk]; exact kill_tree _ _ h1
theorem doAll_tree : ∀ (cs : List ChgD) (fs : List NodeD), treeB fs = true → (doAllB fs cs).1 = 0 → treeB (doAllB fs cs).2 = true
  | [], fs, h, _ => h
  | c :: r, fs, h, h0 => by
    unfold doAllB at h0 ⊢
    split at h0
    · next h1 => rw [if_pos h1]; exact doAll_tree r _ (doOne_tree h1) h0
    · next h1 => exact absurd h0 h1
theorem doChanges_tree {fs : List NodeD} {cs : List ChgD} (h0 : (doChangesB fs cs).1 = 0) : treeB (doChangesB fs cs).2 = true := by
  unfold doChangesB at h0 ⊢
  split at h0
  · next h =>
    rw [if_pos h]
    split at h0
    · cases h0
    · next h1 => rw [if_neg h1]; exact doAll_tree cs fs h h0
  · cases h0
end Go.Proofs.YtfpcjhajjejpdaaGreatDoor
