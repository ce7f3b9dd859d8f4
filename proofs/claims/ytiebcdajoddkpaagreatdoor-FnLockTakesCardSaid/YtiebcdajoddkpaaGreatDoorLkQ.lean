/-
  Plain laws of TakeLock: the program's answers and the reference's are the same on locks that are right.
-/
import Derived.Test.YtiebcdajoddkpaaGreatDoorLkTL
namespace Go.Proofs.YtiebcdajoddkpaaGreatDoor
open Go.RowKit

theorem blkR_neg (own : Int) (p : ItD → Bool) (h : own < 0) : ∀ (l : List ItD) (k : Nat), blkR own p l k = l.any p
  | [], _ => rfl
  | a :: r, k => by
    rw [blkR, blkR_neg own p h r (k + 1), decide_eq_false (show ¬ 0 ≤ own by omega)]
    simp
theorem blkR_past (own : Int) (p : ItD → Bool) (h0 : 0 ≤ own) : ∀ (l : List ItD) (k : Nat), own < (k : Int) → blkR own p l k = false
  | [], _, _ => rfl
  | a :: r, k, h => by
    rw [blkR, blkR_past own p h0 r (k + 1) (by omega), decide_eq_true h0, decide_eq_true h]; rfl
theorem blkR_take (own : Int) (p : ItD → Bool) (h0 : 0 ≤ own) : ∀ (l : List ItD) (k : Nat), (k : Int) ≤ own + 1 → blkR own p l k = (l.take (own.toNat + 1 - k)).any p
  | [], _, _ => by simp [blkR]
  | a :: r, k, h => by
    by_cases e : own < (k : Int)
    · rw [blkR_past own p h0 _ _ e, show own.toNat + 1 - k = 0 by omega]; rfl
    · rw [blkR, blkR_take own p h0 r (k + 1) (by omega), decide_eq_false e, show own.toNat + 1 - k = (own.toNat + 1 - (k + 1)) + 1 by omega, List.take_succ_cons, List.any_cons]
      simp
theorem idxF_hit (p : ItD → Bool) : ∀ (l : List ItD) (k : Nat), 0 ≤ idxF p l k → ∃ j, j < l.length ∧ idxF p l k = ((k + j : Nat) : Int) ∧ p (l.getD j default) = true
  | [], _, h => by simp [idxF] at h
  | d :: r, k, h => by
    unfold idxF at h ⊢
    by_cases hd : p d = true
    · exact ⟨0, by simp, by rw [if_pos hd]; rfl, by simpa using hd⟩
    · rw [if_neg hd] at h ⊢
      obtain ⟨j, hj, he, hp⟩ := idxF_hit p r (k + 1) h
      exact ⟨j + 1, by simp; omega, by rw [he]; congr 1; omega, by simpa using hp⟩
theorem idxF_none (p : ItD → Bool) : ∀ (l : List ItD) (k : Nat), (∀ j, j < l.length → p (l.getD j default) = false) → idxF p l k = -1
  | [], _, _ => rfl
  | d :: r, k, h => by
    unfold idxF
    have h0 := h 0 (by simp)
    rw [List.getD_cons_zero] at h0
    rw [if_neg (by simp [h0]), idxF_none p r (k + 1) (fun j hj => by simpa using h (j + 1) (by simp; omega))]
theorem frontI_eq (held asks : List ItD) (job : Int) (nm : ByteArray) (ss : List ByteArray) : frontI held asks job nm ss = blocksB held asks job nm ss := by
  unfold frontI blocksB earlier
  congr 1
  by_cases h : 0 ≤ askAt asks job
  · rw [if_pos h, blkR_take _ _ h asks 0 (by omega)]
    obtain ⟨j, hj, he, hp⟩ := idxF_hit _ _ _ h
    have he' : askAt asks job = (j : Int) := by unfold askAt; rw [he]; simp
    rw [he']
    simp only [Int.toNat_natCast, Nat.sub_zero]
    rw [take_any_succ asks j _ hj]
    have : aBlkP held job nm ss (asks.getD j default) = false := by
      unfold jobP at hp
      rw [decide_eq_true_iff] at hp
      unfold aBlkP
      rw [decide_eq_false (fun hc => hc hp)]
      rfl
    rw [this, Bool.or_false]
  · rw [if_neg h, blkR_neg _ _ (by omega)]

theorem posI_cons (d : ItD) (r : List ItD) (t : ItD) : posI (d :: r) t = if cmpIt d t < 0 then posI r t + 1 else 0 := by
  unfold posI
  rw [List.takeWhile_cons]
  by_cases h : cmpIt d t < 0 <;> simp [h]
theorem posI_spec : ∀ (held : List ItD) (t : ItD), (∀ j, j < posI held t → cmpIt (held.getD j default) t < 0) ∧ (posI held t < held.length → ¬ cmpIt (held.getD (posI held t) default) t < 0)
  | [], t => ⟨fun j h => by simp [posI] at h, fun h => by simp at h⟩
  | d :: r, t => by
    have ih := posI_spec r t
    rw [posI_cons]
    by_cases h : cmpIt d t < 0
    · rw [if_pos h]
      refine ⟨fun j hj => ?_, fun hl => ?_⟩
      · cases j with
        | zero => simpa using h
        | succ j => simpa using ih.1 j (by omega)
      · simpa using ih.2 (by simpa using hl)
    · rw [if_neg h]
      exact ⟨fun j hj => by omega, fun _ => by simpa using h⟩

theorem atP_iff (job : Int) (nm : ByteArray) (ss : List ByteArray) (d : ItD) : atP job nm ss d = true ↔ cmpIt d (tgt job nm ss) = 0 := by
  rw [cmpIt_zero]
  unfold atP eqS tgt
  simp only [Bool.and_eq_true, decide_eq_true_iff]
  exact ⟨fun h => ⟨h.1.1, h.1.2, h.2⟩, fun h => ⟨⟨h.1, h.2.1⟩, h.2.2⟩⟩
theorem hOrd_irr (x : ItD) : hOrd x x = false := by
  rw [← cmpIt_lt, (cmpIt_zero x x).2 ⟨rfl, rfl, rfl⟩]; rfl
theorem hOrd_right {x d t : ItD} (h : cmpIt d t = 0) : hOrd x d = hOrd x t := by
  obtain ⟨h1, h2, h3⟩ := (cmpIt_zero d t).1 h
  unfold hOrd
  rw [h1, h2, h3]
theorem lessS_total : ∀ (a b : List ByteArray), a ≠ b → lessS a b = true ∨ lessS b a = true
  | [], [], h => absurd rfl h
  | [], _ :: _, _ => .inl rfl
  | _ :: _, [], _ => .inr rfl
  | x :: r, y :: s, h => by
    unfold lessS
    by_cases e : x = y
    · subst e
      rw [if_pos rfl, if_pos rfl]
      exact lessS_total r s (fun e => h (by rw [e]))
    · rw [if_neg e, if_neg (fun e' => e e'.symm)]
      exact before_total x y e
theorem lessB_total (n n' : ByteArray) (s s' : List ByteArray) (h : ¬ (n = n' ∧ s = s')) : lessB n s n' s' = true ∨ lessB n' s' n s = true := by
  unfold lessB
  by_cases e : n = n'
  · subst e
    rw [if_pos rfl, if_pos rfl]
    exact lessS_total s s' (fun e => h ⟨rfl, e⟩)
  · rw [if_neg e, if_neg (fun e' => e e'.symm)]
    cases h1 : Op.bytesLess n.toList n'.toList
    · cases h2 : Op.bytesLess n'.toList n.toList
      · exact absurd (bytes_ext (bl_total _ _ h1 h2)) e
      · exact .inr rfl
    · exact .inl rfl
theorem hOrd_total (x y : ItD) (h : cmpIt x y ≠ 0) : hOrd x y = true ∨ hOrd y x = true := by
  have h' : ¬ (x.a = y.a ∧ x.name = y.name ∧ x.subs = y.subs) := fun e => h ((cmpIt_zero x y).2 e)
  unfold hOrd
  simp only [Bool.or_eq_true, Bool.and_eq_true, decide_eq_true_iff]
  by_cases e : x.a = y.a
  · rcases lessB_total x.name y.name x.subs y.subs (fun hh => h' ⟨e, hh.1, hh.2⟩) with h1 | h1
    · exact .inl (.inr ⟨e, h1⟩)
    · exact .inr (.inr ⟨e.symm, h1⟩)
  · rcases Int.lt_or_gt_of_ne e with h1 | h1
    · exact .inl (.inl h1)
    · exact .inr (.inl h1)

/-- The list is in order. -/
def sortedH (held : List ItD) : Prop := ∀ i j, i < j → j < held.length → hOrd (held.getD i default) (held.getD j default) = true

theorem at_found (held : List ItD) (job : Int) (nm : ByteArray) (ss : List ByteArray) (h : foundI held (tgt job nm ss) = true) : lockAt held job nm ss = (posI held (tgt job nm ss) : Int) := by
  unfold foundI at h
  rw [Bool.and_eq_true, decide_eq_true_iff, decide_eq_true_iff] at h
  have hb := idxF_before (atP job nm ss) held 0 _ h.1 ((atP_iff job nm ss _).2 h.2)
  rw [Nat.zero_add] at hb
  refine hb.2 ?_
  rw [List.any_eq_false]
  intro d hd hp
  obtain ⟨j, hj, rfl⟩ := List.getElem_of_mem hd
  rw [List.length_take] at hj
  have h1 := (posI_spec held (tgt job nm ss)).1 j (by omega)
  rw [List.getElem_take, atP_iff] at hp
  rw [List.getD_eq_getElem?_getD, List.getElem?_eq_getElem (by omega)] at h1
  simp only [Option.getD_some] at h1
  omega
theorem at_lost (held : List ItD) (job : Int) (nm : ByteArray) (ss : List ByteArray) (hso : sortedH held) (h : foundI held (tgt job nm ss) = false) : lockAt held job nm ss = -1 := by
  have hsp := posI_spec held (tgt job nm ss)
  refine idxF_none _ _ _ fun j hj => ?_
  cases hp : atP job nm ss (held.getD j default)
  · rfl
  · exfalso
    rw [atP_iff] at hp
    rcases Nat.lt_trichotomy j (posI held (tgt job nm ss)) with hl | hl | hl
    · have := hsp.1 j hl; omega
    · unfold foundI at h
      rw [← hl, decide_eq_true hj, decide_eq_true hp] at h
      cases h
    · have h1 := hso _ _ hl hj
      rw [hOrd_right hp, ← cmpIt_lt, decide_eq_true_iff] at h1
      exact hsp.2 (by omega) h1
theorem roomI_eq (held : List ItD) (job : Int) (nm : ByteArray) (ss : List ByteArray) (hso : sortedH held) : roomI held (tgt job nm ss) = roomB held job nm ss := by
  unfold roomI roomB
  cases h : foundI held (tgt job nm ss)
  · rw [at_lost held job nm ss hso h, if_neg (by decide), if_neg (by decide)]
  · rw [at_found held job nm ss h, if_pos rfl, if_pos (by omega), Int.toNat_natCast]
theorem okB_so {held asks : List ItD} (h : okB held asks = true) : sortedH held := okB_sorted h

/-- The answer of the reference's TakeLock. -/
def tlB (held asks : List ItD) (job : Int) (nm : ByteArray) (ss : List ByteArray) (t : Int) : Bool × Int × List ItD × List ItD :=
  if (okB held asks && inB job 1 4 && thingB nm ss && inB t 0 999999) = true then
    (if 0 ≤ askAt asks job then (false, 5, [], []) else if roomB held job nm ss = false then (false, 4, [], [])
     else if blocksB held asks job nm ss = true then (false, 0, held, asks ++ [⟨job, t, nm, ss⟩]) else (true, 0, acqI held (tgt job nm ss), asks))
  else (false, 1, [], [])
theorem tl_eq (held asks : List ItD) (job : Int) (nm : ByteArray) (ss : List ByteArray) (t : Int) : tlI held asks job nm ss t = tlB held asks job nm ss t := by
  unfold tlI tlB resI takeI
  rw [locksI_eq]
  cases hok : okB held asks
  · simp
  · rw [roomI_eq held job nm ss (okB_so hok), frontI_eq]
    change (if (true && inB job 1 4 && thingB nm ss && inB t 0 999999) = true then _ else _) = (if (true && inB job 1 4 && thingB nm ss && inB t 0 999999) = true then _ else _)
    split
    · by_cases h1 : 0 ≤ askAt asks job
      · rw [if_pos h1, if_pos h1]; rfl
      · rw [if_neg h1, if_neg h1]
        cases hr : roomB held job nm ss
        · rfl
        · cases hbk : blocksB held asks job nm ss <;> rfl
    · rfl
end Go.Proofs.YtiebcdajoddkpaaGreatDoor
