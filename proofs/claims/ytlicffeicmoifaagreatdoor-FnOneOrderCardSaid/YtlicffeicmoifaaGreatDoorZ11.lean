import Derived.Test.YtlicffeicmoifaaGreatDoorZ10
import Derived.Test.YtlicffeicmoifaaGreatDoorZ09
set_option linter.unusedSimpArgs false
namespace Go.Proofs.YtlicffeicmoifaaGreatDoor
open Go.RowKit
set_option linter.unusedVariables false
def aheadN (nm : ByteArray) (ss : List ByteArray) (d : NodeD) : Bool := aheadB d.name d.subs nm ss
def atN (fs : List NodeD) (nm : ByteArray) (ss : List ByteArray) : Nat := (fs.takeWhile (aheadN nm ss)).length
def hereN (nm : ByteArray) (ss : List ByteArray) (d : NodeD) : Bool := decide (d.name = nm) && decide (d.subs = ss)
def hasN (fs : List NodeD) (nm : ByteArray) (ss : List ByteArray) : Bool := decide (atN fs nm ss < fs.length) && hereN nm ss (fs.getD (atN fs nm ss) default)
def putN (fs : List NodeD) (nm : ByteArray) (ss : List ByteArray) (v : ByteArray) : List NodeD :=
 fs.take (atN fs nm ss) ++ ⟨nm, ss, v⟩ :: fs.drop (if hasN fs nm ss = true then atN fs nm ss + 1 else atN fs nm ss)
def putB (fs : List NodeD) (nm : ByteArray) (ss : List ByteArray) (v : ByteArray) : Int × List NodeD :=
 if (!hasN fs nm ss && decide (120 ≤ fs.length)) = true then (4, []) else (0, putN fs nm ss v)
def inN (nm : ByteArray) (ss : List ByteArray) (d : NodeD) : Bool := decide (d.name = nm) && startsB ss d.subs
def killB (fs : List NodeD) (nm : ByteArray) (ss : List ByteArray) : List NodeD := fs.filter fun d => !inN nm ss d
theorem takeWhile_len {α : Type} [Inhabited α] (p : α → Bool) : ∀ (l : List α) (k : Nat), k ≤ l.length → (∀ j, j < k → p (l.getD j default) = true) → (k = l.length ∨ p (l.getD k default) = false) → (l.takeWhile p).length = k
 | [], k, h, _, _ => by simp at h; simp [h]
 | x :: r, 0, _, _, h2 => by
   rcases h2 with h2 | h2
   · simp at h2
   · simp only [List.getD_cons_zero] at h2
     simp [h2]
 | x :: r, k + 1, h, h1, h2 => by
   have h0 := h1 0 (by omega)
   simp only [List.getD_cons_zero] at h0
   have ih := takeWhile_len p r k (by simpa using h) (fun j hj => by simpa using h1 (j + 1) (by omega)) (by simpa using h2)
   simp [h0, ih]
theorem takeWhile_at {α : Type} [Inhabited α] (p : α → Bool) : ∀ (l : List α), (l.takeWhile p).length ≤ l.length ∧ (∀ j, j < (l.takeWhile p).length → p (l.getD j default) = true) ∧ ((l.takeWhile p).length < l.length → p (l.getD (l.takeWhile p).length default) = false)
 | [] => by simp
 | x :: r => by
   obtain ⟨h1, h2, h3⟩ := takeWhile_at p r
   by_cases h : p x = true
   · rw [List.takeWhile_cons, if_pos h]
     refine ⟨by simpa using h1, fun j hj => ?_, fun hl => ?_⟩
     · match j with
       | 0 => simpa using h
       | j + 1 => simpa using h2 j (by simpa using hj)
     · simpa using h3 (by simpa using hl)
   · rw [List.takeWhile_cons, if_neg h]
     refine ⟨by simp, fun j hj => absurd hj (by simp), fun _ => by simpa using h⟩
theorem atN_eq {fs : List NodeD} {nm : ByteArray} {ss : List ByteArray} {k : Nat} (hk : k ≤ fs.length) (h1 : ∀ j, j < k → aheadN nm ss (fs.getD j default) = true) (h2 : k = fs.length ∨ aheadN nm ss (fs.getD k default) = false) : atN fs nm ss = k := takeWhile_len _ _ _ hk h1 h2
theorem atN_le (fs : List NodeD) (nm : ByteArray) (ss : List ByteArray) : atN fs nm ss ≤ fs.length := (takeWhile_at _ fs).1
theorem tree_iff {l : List NodeD} : treeB l = true ↔ l.length ≤ 120 ∧ (∀ d ∈ l, nodeB d = true) ∧ l.Pairwise fun a b => stepB a b = true := by
 constructor
 · intro h
   refine ⟨?_, fun d hd => ?_, tree_pw h⟩
   · unfold treeB at h
     rw [Bool.and_eq_true] at h
     exact of_decide_eq_true h.1
   · unfold treeB at h
     rw [Bool.and_eq_true] at h
     obtain ⟨i, hi, rfl⟩ := List.getElem_of_mem hd
     have h2 := (allFrom_all (treeAt l) l.length 0).1 h.2 i (by omega) (by omega)
     unfold treeAt at h2
     rw [Bool.and_eq_true, List.getD_eq_getElem?_getD, List.getElem?_eq_getElem hi] at h2
     exact h2.1
 · rintro ⟨h1, h2, h3⟩
   unfold treeB
   rw [Bool.and_eq_true]
   refine ⟨decide_eq_true h1, (allFrom_all (treeAt l) l.length 0).2 fun j _ hj => ?_⟩
   have hj : j < l.length := by omega
   unfold treeAt
   rw [Bool.and_eq_true]
   refine ⟨h2 _ (getD_memD l j hj), ?_⟩
   by_cases h0 : j = 0
   · simp [h0]
   · rw [Bool.or_eq_true]
     refine .inr ?_
     have := List.pairwise_iff_getElem.1 h3 (j - 1) j (by omega) hj (by omega)
     rw [List.getD_eq_getElem?_getD, List.getD_eq_getElem?_getD, List.getElem?_eq_getElem hj, List.getElem?_eq_getElem (show j - 1 < l.length by omega)]
     exact this
theorem ahead_trans {a b c : NodeD} (h1 : stepB a b = true) (h2 : stepB b c = true) : stepB a c = true := stepB_trans h1 h2
theorem lessS_total : ∀ (a b : List ByteArray), a ≠ b → lessS a b = true ∨ lessS b a = true
 | [], [], h => absurd rfl h
 | [], _ :: _, _ => .inl rfl
 | _ :: _, [], _ => .inr rfl
 | x :: r, y :: s, h => by
   unfold lessS
   by_cases e : x = y
   · subst e
     rw [if_pos rfl, if_pos rfl]
     exact lessS_total r s (fun e => h (by rw [e]))
   · rw [if_neg e, if_neg (fun e2 => e e2.symm)]
     exact before_total x y e
theorem lessB_total {n n' : ByteArray} {s s' : List ByteArray} (h : ¬ (n = n' ∧ s = s')) : lessB n s n' s' = true ∨ lessB n' s' n s = true := by
 unfold lessB
 by_cases e : n = n'
 · subst e
   rw [if_pos rfl, if_pos rfl]
   exact lessS_total s s' (fun e => h ⟨rfl, e⟩)
 · rw [if_neg e, if_neg (fun e2 => e e2.symm)]
   cases h1 : Op.bytesLess n.toList n'.toList with
   | true => exact .inl rfl
   | false =>
     cases h2 : Op.bytesLess n'.toList n.toList with
     | true => exact .inr rfl
     | false => exact absurd (bytes_ext (bl_total _ _ h1 h2)) e
theorem stepB_total {a b : NodeD} (h : ¬ (a.name = b.name ∧ a.subs = b.subs)) : stepB a b = true ∨ stepB b a = true := by
 unfold stepB
 rw [aheadB_eq, aheadB_eq]
 exact lessB_total h
theorem stepB_asym {a b : NodeD} (h : stepB a b = true) : stepB b a = false := by
 cases h2 : stepB b a with
 | false => rfl
 | true =>
   have h3 := stepB_trans h h2
   rw [stepB_irr rfl rfl] at h3
   cases h3
theorem put_parts {fs : List NodeD} (h : treeB fs = true) (nm : ByteArray) (ss : List ByteArray) (v : ByteArray) :
 (∀ d ∈ fs.take (atN fs nm ss), stepB d ⟨nm, ss, v⟩ = true) ∧ (∀ d ∈ fs.drop (if hasN fs nm ss = true then atN fs nm ss + 1 else atN fs nm ss), stepB ⟨nm, ss, v⟩ d = true) := by
 obtain ⟨h1, h2, h3⟩ := takeWhile_at (aheadN nm ss) fs
 obtain ⟨_, _, hp⟩ := tree_iff.1 h
 refine ⟨fun d hd => ?_, ?_⟩
 · obtain ⟨i, hi, rfl⟩ := List.mem_take_iff_getElem.1 hd
   have hi2 : i < fs.length := by omega
   have h4 := h2 i (by unfold atN at hi; omega)
   rw [List.getD_eq_getElem?_getD, List.getElem?_eq_getElem hi2] at h4
   exact h4
 · by_cases hh : hasN fs nm ss = true
   · rw [if_pos hh]
     intro d hd
     unfold hasN hereN at hh
     simp only [Bool.and_eq_true, decide_eq_true_eq] at hh
     obtain ⟨hl, e1, e2⟩ := hh
     obtain ⟨i, hi, rfl⟩ := List.mem_drop_iff_getElem.1 hd
     have := List.pairwise_iff_getElem.1 hp (atN fs nm ss) (atN fs nm ss + 1 + i) hl (by omega) (by omega)
     rw [List.getD_eq_getElem?_getD, List.getElem?_eq_getElem hl, Option.getD_some] at e1 e2
     unfold stepB at this ⊢
     rw [e1, e2] at this
     exact this
   · rw [if_neg hh]
     intro d hd
     obtain ⟨i, hi, rfl⟩ := List.mem_drop_iff_getElem.1 hd
     have hl : atN fs nm ss < fs.length := by omega
     have h4 := h3 (by unfold atN at hl; exact hl)
     have h5 : stepB ⟨nm, ss, v⟩ fs[atN fs nm ss] = true := by
      have hne : ¬ (fs[atN fs nm ss].name = nm ∧ fs[atN fs nm ss].subs = ss) := fun ⟨e1, e2⟩ => hh (by
       unfold hasN hereN
       rw [List.getD_eq_getElem?_getD, List.getElem?_eq_getElem hl, Option.getD_some, e1, e2]
       simp [hl])
      rcases stepB_total (a := fs[atN fs nm ss]) (b := ⟨nm, ss, v⟩) hne with h6 | h6
      · exfalso
        have h7 : aheadN nm ss (fs.getD (atN fs nm ss) default) = false := h4
        rw [List.getD_eq_getElem?_getD, List.getElem?_eq_getElem hl, Option.getD_some] at h7
        have h8 : stepB fs[atN fs nm ss] ⟨nm, ss, v⟩ = aheadN nm ss fs[atN fs nm ss] := rfl
        rw [h8, h7] at h6
        cases h6
      · exact h6
     by_cases h0 : i = 0
     · subst h0; simpa using h5
     · have := List.pairwise_iff_getElem.1 hp (atN fs nm ss) (atN fs nm ss + i) hl (by omega) (by omega)
       exact stepB_trans h5 this
theorem put_tree {fs : List NodeD} {nm : ByteArray} {ss : List ByteArray} {v : ByteArray} (h : treeB fs = true) (hp : thingB nm ss = true) (hv : v.size ≤ 64) (h0 : (putB fs nm ss v).1 = 0) : treeB (putB fs nm ss v).2 = true := by
 unfold putB at h0 ⊢
 split at h0
 · cases h0
 · next hn =>
   rw [if_neg hn]
   obtain ⟨h1, h2⟩ := put_parts h nm ss v
   obtain ⟨g1, g2, g3⟩ := tree_iff.1 h
   have hle := atN_le fs nm ss
   refine tree_iff.2 ⟨?_, fun d hd => ?_, ?_⟩
   · unfold putN
     rw [List.length_append, List.length_cons, List.length_take, List.length_drop]
     by_cases hh : hasN fs nm ss = true
     · rw [if_pos hh]
       have : atN fs nm ss < fs.length := by
        unfold hasN at hh
        rw [Bool.and_eq_true] at hh
        exact of_decide_eq_true hh.1
       omega
     · rw [if_neg hh]
       have h3 : ¬ 120 ≤ fs.length := fun h3 => hn (by simp [hh, h3])
       omega
   · unfold putN at hd
     rcases List.mem_append.1 hd with h3 | h3
     · exact g2 d (List.mem_of_mem_take h3)
     · rcases List.mem_cons.1 h3 with h4 | h4
       · subst h4
         unfold nodeB
         rw [hp, decide_eq_true hv]
         rfl
       · exact g2 d (List.mem_of_mem_drop h4)
   · unfold putN
     rw [List.pairwise_append, List.pairwise_cons]
     refine ⟨g3.sublist (List.take_sublist _ _), ⟨h2, g3.sublist (List.drop_sublist _ _)⟩, fun a ha b hb => ?_⟩
     rcases List.mem_cons.1 hb with h4 | h4
     · subst h4; exact h1 a ha
     · exact stepB_trans (h1 a ha) (h2 b h4)
theorem kill_tree {fs : List NodeD} (nm : ByteArray) (ss : List ByteArray) (h : treeB fs = true) : treeB (killB fs nm ss) = true := by
 obtain ⟨g1, g2, g3⟩ := tree_iff.1 h
 exact tree_iff.2 ⟨Nat.le_trans (List.length_filter_le _ _) g1, fun d hd => g2 d (List.mem_filter.1 hd).1, g3.filter _⟩
theorem tree_nil : treeB [] = true := tree_iff.2 ⟨by simp, fun d hd => by simp at hd, List.Pairwise.nil⟩
theorem tree_small {fs : List NodeD} (h : treeB fs = true) : smallNs fs := by
 obtain ⟨g1, g2, _⟩ := tree_iff.1 h
 refine ⟨by omega, fun d hd => ?_⟩
 have h2 := g2 d hd
 unfold nodeB thingB nameB subsB at h2
 simp only [Bool.and_eq_true, decide_eq_true_eq, List.all_eq_true] at h2
 obtain ⟨⟨⟨a1, _⟩, b1, b2⟩, c1⟩ := h2
 refine ⟨by omega, ⟨by omega, fun s hs => ?_⟩, by omega⟩
 have := b2 s hs
 unfold subB at this
 simp only [Bool.and_eq_true, decide_eq_true_eq] at this
 omega
theorem put_filter {fs : List NodeD} (nm : ByteArray) (ss : List ByteArray) (v : ByteArray) (p : NodeD → Bool) (hp : ∀ d : NodeD, d.name = nm → d.subs = ss → p d = false) : (putN fs nm ss v).filter p = fs.filter p := by
 unfold putN
 rw [List.filter_append, List.filter_cons, hp ⟨nm, ss, v⟩ rfl rfl, if_neg (by simp)]
 conv => rhs; rw [← List.take_append_drop (atN fs nm ss) fs, List.filter_append]
 congr 1
 by_cases hh : hasN fs nm ss = true
 · rw [if_pos hh]
   unfold hasN hereN at hh
   simp only [Bool.and_eq_true, decide_eq_true_eq] at hh
   obtain ⟨hl, e1, e2⟩ := hh
   rw [List.drop_eq_getElem_cons hl, List.filter_cons]
   rw [List.getD_eq_getElem?_getD, List.getElem?_eq_getElem hl, Option.getD_some] at e1 e2
   rw [hp _ e1 e2, if_neg (by simp)]
 · rw [if_neg hh]
structure ChgD where
 kind : Int
 name : ByteArray
 subs : List ByteArray
 val : ByteArray
deriving Inhabited
def changeB (c : ChgD) : Bool := thingB c.name c.subs && ((decide (c.kind = 1) && decide (c.val.size ≤ 64)) || (decide (c.kind = 2) && decide (c.val = ⟨#[]⟩)))
def doB (fs : List NodeD) (c : ChgD) : Int × List NodeD := if c.kind = 1 then putB fs c.name c.subs c.val else (0, killB fs c.name c.subs)
def doOneB (fs : List NodeD) (c : ChgD) : Int × List NodeD := if (treeB fs && changeB c) = true then doB fs c else (1, [])
theorem doOne_tree {fs : List NodeD} {c : ChgD} (h0 : (doOneB fs c).1 = 0) : treeB (doOneB fs c).2 = true := by
 unfold doOneB at h0 ⊢
 split at h0
 case isFalse => cases h0
 case isTrue h =>
  rw [if_pos h]
  rw [Bool.and_eq_true] at h
  obtain ⟨h1, h2⟩ := h
  unfold changeB at h2
  rw [Bool.and_eq_true] at h2
  unfold doB at h0 ⊢
  split at h0
  · next hk =>
    rw [if_pos hk]
    refine put_tree h1 h2.1 ?_ h0
    have := h2.2
    rw [hk] at this
    simpa using this
  · next hk => rw [if_neg hk]; exact kill_tree _ _ h1
end Go.Proofs.YtlicffeicmoifaaGreatDoor
namespace Go.Proofs.YtlicffeicmoifaaGreatDoor
open Go.RowKit
def dataN (nm : ByteArray) (ss : List ByteArray) (d : NodeD) (out : Int) : Int := if inN nm ss d = true then (if d.subs.length = ss.length then out + 1 else if out < 10 then out + 10 else out) else out
def dataF (nm : ByteArray) (ss : List ByteArray) (fs : List NodeD) : Int := fs.foldl (fun out d => dataN nm ss d out) 0
def dataB (fs : List NodeD) (nm : ByteArray) (ss : List ByteArray) : Int := if (treeB fs && thingB nm ss) = true then dataF nm ss fs else 0
end Go.Proofs.YtlicffeicmoifaaGreatDoor
namespace Go.Proofs.YtlicffeicmoifaaGreatDoor
open Go.RowKit
set_option linter.unusedVariables false
def be8 (n : Nat) : List UInt8 := [56, 48, 40, 32, 24, 16, 8, 0].map fun s => UInt8.ofNat ((n / 2 ^ s) % 256)
def encN (s : ByteArray) : Nat := (numS s.data.toList + 1000000000000000000).toNat
def subE (s : ByteArray) : List UInt8 := if canonB s = true then 1 :: be8 (encN s) else 2 :: (s.data.toList ++ [0, 0])
def pureS (s : ByteArray) : Prop := (0 : UInt8) ∉ s.data.toList
theorem be8_len (n : Nat) : (be8 n).length = 8 := by unfold be8; rw [List.length_map]; rfl
theorem encN_bd (s : ByteArray) : 0 < encN s ∧ encN s < 2000000000000000000 ∧ (encN s : Int) = numS s.data.toList + 1000000000000000000 := by
 have h := numS_bd' s.data.toList
 unfold encN
 omega
theorem be_step (N : Nat) : ∀ k, k < 8 → (be8 N).take (k + 1) = (be8 N).take k ++ [UInt8.ofNat ((N / 2 ^ (56 - 8 * k)) % 256)] := by
 intro k hk
 have hcs : k = 0 ∨ k = 1 ∨ k = 2 ∨ k = 3 ∨ k = 4 ∨ k = 5 ∨ k = 6 ∨ k = 7 := by omega
 rcases hcs with rfl | rfl | rfl | rfl | rfl | rfl | rfl | rfl
 all_goals rfl
def putE (ss : List ByteArray) : ByteArray := ⟨(ss.flatMap subE).toArray⟩
def PutOf (v : ByteArray) (ss : List ByteArray) : Prop := subsB ss = true ∧ (∀ s ∈ ss, pureS s) ∧ v = putE ss
open Classical in
noncomputable def getOkB (v : ByteArray) : Bool := decide (∃ ss, PutOf v ss)
def headBad (v : ByteArray) : Prop := ∃ c r, v.data.toList = c :: r ∧ c ≠ 1 ∧ c ≠ 2
def okV (v : ByteArray) : Prop := (∃ ss, PutOf v ss) ∨ headBad v
theorem subE_head (s : ByteArray) : ∃ c r, subE s = c :: r ∧ (c = 1 ∨ c = 2) := by
 unfold subE
 split
 · exact ⟨1, _, rfl, .inl rfl⟩
 · exact ⟨2, _, rfl, .inr rfl⟩
theorem putE_list (ss : List ByteArray) : (putE ss).data.toList = ss.flatMap subE := by simp [putE]
theorem headBad_not {v : ByteArray} (h : headBad v) : ¬ ∃ ss, PutOf v ss := by
 rintro ⟨ss, _, _, rfl⟩
 obtain ⟨c, r, e, h1, h2⟩ := h
 rw [putE_list] at e
 cases ss with
 | nil => simp at e
 | cons s t =>
   obtain ⟨c', r', e', h'⟩ := subE_head s
   rw [List.flatMap_cons, e', List.cons_append] at e
   injection e with e1 _
   subst e1
   rcases h' with h' | h'
   · exact h1 h'
   · exact h2 h'
open Classical in
theorem getOk_of {v : ByteArray} {ss : List ByteArray} (h : PutOf v ss) : getOkB v = true := by
 unfold getOkB
 exact decide_eq_true ⟨ss, h⟩
open Classical in
theorem getOk_bad {v : ByteArray} (h : headBad v) : getOkB v = false := by
 unfold getOkB
 exact decide_eq_false (headBad_not h)
theorem okV_nil : okV ⟨#[]⟩ := .inl ⟨[], by decide, (fun s hs => by cases hs), rfl⟩
end Go.Proofs.YtlicffeicmoifaaGreatDoor
namespace Go.Proofs.YtlicffeicmoifaaGreatDoor
open Go.RowKit
set_option linter.unusedVariables false
structure EvD where
 kind : Int
 name : ByteArray
 subs : List ByteArray
 val : ByteArray
 n : Int
deriving Inhabited
def sameE (a b : EvD) : Bool := decide (a.kind = b.kind) && (decide (a.name = b.name) && (decide (a.subs = b.subs) && (decide (a.val = b.val) && decide (a.n = b.n))))
def readsB (e : EvD) : Bool := decide (e.kind = 1) || (decide (e.kind = 4) || (decide (e.kind = 5) || decide (e.kind = 6)))
def turnsB (e : EvD) : Bool := decide (e.kind = 2) || decide (e.kind = 3)
def cntB (n : Int) : Bool := decide (n = 0) || (decide (n = 1) || (decide (n = 10) || decide (n = 11)))
noncomputable def resB (e : EvD) : Bool :=
 if e.kind = 1 then cntB e.n && (decide (e.val.size ≤ 64) && (decide (e.n = 1 ∨ e.n = 11) || decide (e.val = ⟨#[]⟩)))
 else if e.kind = 4 then cntB e.n && decide (e.val = ⟨#[]⟩)
 else if e.kind = 5 then (decide (e.n = 1) || decide (e.n = -1)) && (decide (e.val = ⟨#[]⟩) || subB e.val)
 else if e.kind = 6 then (decide (e.n = 1) && getOkB e.val) || (decide (e.n = 0) && decide (e.val = ⟨#[]⟩))
 else if e.kind = 2 then decide (e.n = 0) && decide (e.val.size ≤ 64)
 else decide (e.kind = 3) && (decide (e.n = 0) && decide (e.val = ⟨#[]⟩))
def lastS (ss : List ByteArray) : ByteArray := ss.getD (ss.length - 1) ByteArray.empty
def levelB (ss : List ByteArray) : Bool := decide (0 < ss.length) && (decide (ss.length ≤ 4) && (subsB (ss.take (ss.length - 1)) && (decide (lastS ss = ⟨#[]⟩) || subB (lastS ss))))
def whereB (e : EvD) : Bool := nameB e.name && (if e.kind = 5 then levelB e.subs else subsB e.subs)
noncomputable def noteB (e : EvD) : Bool := whereB e && resB e
noncomputable def notesB (l : List EvD) : Bool := decide (l.length ≤ 60) && l.all noteB
def getF (fs : List NodeD) (nm : ByteArray) (ss : List ByteArray) : ByteArray := if hasN fs nm ss = true then (fs.getD (atN fs nm ss) default).val else ⟨#[]⟩
def ordN (nm : ByteArray) (ss : List ByteArray) (back : Bool) (d : NodeD) (best : ByteArray) : ByteArray :=
 if (inN nm (ss.take (ss.length - 1)) d && decide (ss.length ≤ d.subs.length)) = true then
  (if (if back = true then (decide (lastS ss = ⟨#[]⟩) || beforeB (d.subs.getD (ss.length - 1) ByteArray.empty) (lastS ss)) && (decide (best = ⟨#[]⟩) || beforeB best (d.subs.getD (ss.length - 1) ByteArray.empty))
    else (decide (lastS ss = ⟨#[]⟩) || beforeB (lastS ss) (d.subs.getD (ss.length - 1) ByteArray.empty)) && (decide (best = ⟨#[]⟩) || beforeB (d.subs.getD (ss.length - 1) ByteArray.empty) best)) = true
  then d.subs.getD (ss.length - 1) ByteArray.empty else best)
 else best
def ordF (nm : ByteArray) (ss : List ByteArray) (back : Bool) (fs : List NodeD) : ByteArray := fs.foldl (fun best d => ordN nm ss back d best) ⟨#[]⟩
def qryP (nm : ByteArray) (ss : List ByteArray) (d : NodeD) : Bool := decide (d.name = nm) && lessS ss d.subs
def qryI (nm : ByteArray) (ss : List ByteArray) (fs : List NodeD) : Int := idxF (qryP nm ss) fs 0
def qryN (nm : ByteArray) (ss : List ByteArray) (fs : List NodeD) : Int := if 0 ≤ qryI nm ss fs then 1 else 0
def qryV (nm : ByteArray) (ss : List ByteArray) (fs : List NodeD) : ByteArray := if 0 ≤ qryI nm ss fs then putE (fs.getD (qryI nm ss fs).toNat default).subs else ⟨#[]⟩
def againB (fs : List NodeD) (e : EvD) : EvD :=
 if e.kind = 1 then ⟨e.kind, e.name, e.subs, getF fs e.name e.subs, dataF e.name e.subs fs⟩
 else if e.kind = 4 then ⟨e.kind, e.name, e.subs, e.val, dataF e.name e.subs fs⟩
 else if e.kind = 5 then ⟨e.kind, e.name, e.subs, ordF e.name e.subs (decide (e.n < 0)) fs, e.n⟩
 else ⟨e.kind, e.name, e.subs, qryV e.name e.subs fs, qryN e.name e.subs fs⟩
def chgOf (e : EvD) : ChgD := ⟨if e.kind = 3 then 2 else 1, e.name, e.subs, e.val⟩
def applyB (fs : List NodeD) (e : EvD) : Int × List NodeD := if turnsB e = true then doB fs (chgOf e) else if sameE (againB fs e) e = true then (0, fs) else (5, fs)
def repB : List NodeD → List EvD → Nat → Int × Nat × List NodeD
 | fs, [], _ => (0, 0, fs)
 | fs, e :: r, i => if (applyB fs e).1 = 0 then repB (applyB fs e).2 r (i + 1) else ((applyB fs e).1, i, [])
theorem NodeD.ext_ {a b : NodeD} (h0 : a.name = b.name) (h1 : a.subs = b.subs) (h2 : a.val = b.val) : a = b := by
 cases a; cases b; simp only at h0 h1 h2; subst h0 h1 h2; rfl
instance decNodeD : DecidableEq NodeD := fun a b => decidable_of_iff (a.name = b.name ∧ a.subs = b.subs ∧ a.val = b.val) ⟨fun ⟨h0, h1, h2⟩ => NodeD.ext_ h0 h1 h2, fun h => by subst h; exact ⟨rfl, rfl, rfl⟩⟩
end Go.Proofs.YtlicffeicmoifaaGreatDoor
namespace Go.Proofs.YtlicffeicmoifaaGreatDoor
open Go.RowKit
set_option linter.unusedVariables false
def cleanN (d : NodeD) : Prop := (∀ s ∈ d.subs, pureS s) ∧ okV d.val
def cleanT (fs : List NodeD) : Prop := ∀ d ∈ fs, cleanN d
def cleanE (e : EvD) : Prop := (∀ s ∈ e.subs, pureS s) ∧ okV e.val
def cleanEs (l : List EvD) : Prop := ∀ e ∈ l, cleanE e
theorem clean_put {fs : List NodeD} {nm : ByteArray} {ss : List ByteArray} {v : ByteArray} (h : cleanT fs) (hs : ∀ s ∈ ss, pureS s) (hv : okV v) : cleanT (putB fs nm ss v).2 := by
 unfold putB
 split
 · exact fun d hd => by cases hd
 · intro d hd
   have hd : d ∈ putN fs nm ss v := hd
   unfold putN at hd
   rcases List.mem_append.1 hd with h1 | h1
   · exact h d (List.mem_of_mem_take h1)
   · rcases List.mem_cons.1 h1 with h2 | h2
     · subst h2; exact ⟨hs, hv⟩
     · exact h d (List.mem_of_mem_drop h2)
theorem clean_kill {fs : List NodeD} {nm : ByteArray} {ss : List ByteArray} (h : cleanT fs) : cleanT (killB fs nm ss) := fun d hd => h d (List.mem_filter.1 hd).1
theorem clean_do {fs : List NodeD} {e : EvD} (h : cleanT fs) (he : cleanE e) : cleanT (doB fs (chgOf e)).2 := by
 unfold doB
 split
 · exact clean_put h he.1 he.2
 · exact clean_kill h
theorem clean_apply {fs : List NodeD} {e : EvD} (h : cleanT fs) (he : cleanE e) : cleanT (applyB fs e).2 := by
 unfold applyB
 split
 · exact clean_do h he
 · split <;> exact h
theorem note_parts {e : EvD} (h : noteB e = true) : whereB e = true ∧ resB e = true := by
 unfold noteB at h
 rw [Bool.and_eq_true] at h
 exact h
theorem note_chg {e : EvD} (h : noteB e = true) (ht : turnsB e = true) : changeB (chgOf e) = true := by
 obtain ⟨h1, h2⟩ := note_parts h
 unfold turnsB at ht
 rw [Bool.or_eq_true, decide_eq_true_eq, decide_eq_true_eq] at ht
 unfold whereB at h1
 rw [if_neg (by omega), Bool.and_eq_true] at h1
 unfold resB at h2
 rw [if_neg (by omega), if_neg (by omega), if_neg (by omega), if_neg (by omega)] at h2
 have hth : thingB e.name e.subs = true := by
  unfold thingB
  rw [h1.1, h1.2]
  rfl
 unfold changeB chgOf
 dsimp only
 rw [hth]
 rcases ht with hk | hk
 · rw [if_pos hk, Bool.and_eq_true, decide_eq_true_eq, decide_eq_true_eq] at h2
   rw [if_neg (by omega)]
   simp [h2.2]
 · rw [if_neg (by omega), Bool.and_eq_true, Bool.and_eq_true, decide_eq_true_eq, decide_eq_true_eq, decide_eq_true_eq] at h2
   rw [if_pos hk, decide_eq_true h2.2.2]
   simp
theorem do_tree {fs : List NodeD} {e : EvD} (ht : treeB fs = true) (h : noteB e = true) (hk : turnsB e = true) (h0 : (doB fs (chgOf e)).1 = 0) : treeB (doB fs (chgOf e)).2 = true := by
 have h1 : doOneB fs (chgOf e) = doB fs (chgOf e) := by
  unfold doOneB
  rw [ht, note_chg h hk]
  rfl
 rw [← h1] at h0 ⊢
 exact doOne_tree h0
theorem apply_tree {fs : List NodeD} {e : EvD} (ht : treeB fs = true) (h : noteB e = true) (h0 : (applyB fs e).1 = 0) : treeB (applyB fs e).2 = true := by
 by_cases hk : turnsB e = true
 · have e1 : applyB fs e = doB fs (chgOf e) := by unfold applyB; rw [if_pos hk]
   rw [e1] at h0 ⊢
   exact do_tree ht h hk h0
 · unfold applyB at h0 ⊢
   rw [if_neg hk] at h0 ⊢
   split <;> exact ht
theorem notes_all {l : List EvD} (h : notesB l = true) : l.length ≤ 60 ∧ ∀ e ∈ l, noteB e = true := by
 unfold notesB at h
 rw [Bool.and_eq_true, decide_eq_true_eq, List.all_eq_true] at h
 exact h
theorem rep_tree : ∀ (l : List EvD) (fs : List NodeD) (i : Nat), treeB fs = true → (∀ e ∈ l, noteB e = true) → (repB fs l i).1 = 0 → treeB (repB fs l i).2.2 = true
 | [], fs, i, h, _, _ => h
 | e :: r, fs, i, h, he, h0 => by
   unfold repB at h0 ⊢
   split
   · next ha =>
     rw [if_pos ha] at h0
     exact rep_tree r _ _ (apply_tree h (he e (by simp)) ha) (fun x hx => he x (List.mem_cons_of_mem _ hx)) h0
   · next ha =>
     rw [if_neg ha] at h0
     exact absurd h0 ha
theorem rep_nil {fs : List NodeD} {l : List EvD} {i : Nat} (h : (repB fs l i).1 ≠ 0) : (repB fs l i).2.2 = [] := by
 induction l generalizing fs i with
 | nil => exact absurd rfl h
 | cons e r ih =>
   unfold repB at h ⊢
   split
   · next ha =>
     rw [if_pos ha] at h
     exact ih h
   · rfl
end Go.Proofs.YtlicffeicmoifaaGreatDoor
