/-
  Plain law of l24Hold: what it makes of the list, in closed form; and that the result is the call's own.
-/
import Derived.Test.YtiebcdajoddkpaaGreatDoorLkQ
import Derived.Test.YtiebcdajoddkpaaGreatDoorLkH
namespace Go.Proofs.YtiebcdajoddkpaaGreatDoor
open Go.RowKit

theorem take_snocD {α : Type} (l : List α) (k : Nat) (dd : α) (h : k < l.length) : l.take (k + 1) = l.take k ++ [l.getD k dd] := by
  rw [List.take_succ_eq_append_getElem h, List.getD_eq_getElem?_getD, List.getElem?_eq_getElem h]
  rfl
theorem condH_eq (nd d : ItD) : condH nd d = hOrd nd d := by
  unfold condH hOrd
  rw [show decide (d.a = nd.a) = decide (nd.a = d.a) from by rw [decide_eq_decide]; exact eq_comm]
theorem insAt_snoc {α : Type} (l : List α) (k i : Nat) (x dd : α) (hk : k < l.length) (hi : i ≤ k) : insAt (l.take k) i x ++ [l.getD k dd] = insAt (l.take (k + 1)) i x := by
  unfold insAt
  rw [List.append_assoc]
  congr 1
  · rw [List.take_take, List.take_take, Nat.min_eq_left hi, Nat.min_eq_left (by omega)]
  · rw [take_snocD l k dd hk, List.drop_append_of_le_length (by rw [List.length_take]; omega)]

theorem holdSt_found (held : List ItD) (vs : List Value) (i : Nat) (nd : ItD) (nv : Value) (hl : vs.length = held.length) (hi : i < held.length) : ∀ k, k ≤ held.length →
    holdSt held vs (i : Int) nd nv k = (true, (held.set i { held.getD i default with b := (held.getD i default).b + 1 }).take k, vs.take k)
  | 0, _ => by
    rw [holdSt, decide_eq_true (show (0 : Int) ≤ (i : Int) by omega)]; rfl
  | k + 1, hk => by
    rw [holdSt, holdSt_found held vs i nd nv hl hi k (by omega)]
    unfold stepH
    rw [if_neg (by simp), take_snocD _ k default (by rw [List.length_set]; omega), take_snocD vs k (.slice none 0 0) (by omega)]
    congr 3
    unfold bumpIf
    by_cases e : k = i
    · subst e
      rw [if_pos rfl, List.getD_eq_getElem?_getD (l := held.set _ _), List.getElem?_set_self (by omega)]
      rfl
    · rw [if_neg (by omega), List.getD_eq_getElem?_getD, List.getD_eq_getElem?_getD, List.getElem?_set_ne (fun h => e h.symm)]
theorem holdSt_before (held : List ItD) (vs : List Value) (nd : ItD) (nv : Value) (p : Nat) (hl : vs.length = held.length) (hp : p ≤ held.length) (h1 : ∀ j, j < p → hOrd nd (held.getD j default) = false) : ∀ k, k ≤ p →
    holdSt held vs (-1) nd nv k = (false, held.take k, vs.take k)
  | 0, _ => rfl
  | k + 1, hk => by
    rw [holdSt, holdSt_before held vs nd nv p hl hp h1 k (by omega)]
    unfold stepH
    rw [condH_eq, h1 k (by omega), if_neg (by simp), take_snocD held k default (by omega), take_snocD vs k (.slice none 0 0) (by omega)]
    unfold bumpIf
    rw [if_neg (by omega)]
theorem holdSt_behind (held : List ItD) (vs : List Value) (nd : ItD) (nv : Value) (p : Nat) (hl : vs.length = held.length) (hp : p < held.length) (h1 : ∀ j, j < p → hOrd nd (held.getD j default) = false) (h2 : hOrd nd (held.getD p default) = true) : ∀ k, p + 1 + k ≤ held.length →
    holdSt held vs (-1) nd nv (p + 1 + k) = (true, insAt (held.take (p + 1 + k)) p nd, insAt (vs.take (p + 1 + k)) p nv)
  | 0, _ => by
    rw [Nat.add_zero, holdSt, holdSt_before held vs nd nv p hl (by omega) h1 p (Nat.le_refl _)]
    unfold stepH
    rw [condH_eq, h2, if_pos (by simp)]
    dsimp only
    unfold bumpIf
    rw [if_neg (by omega)]
    have e1 := insAt_snoc held p p nd default hp (Nat.le_refl _)
    have e2 := insAt_snoc vs p p nv (.slice none 0 0) (by omega) (Nat.le_refl _)
    rw [← e1, ← e2]
    unfold insAt
    simp [List.take_take]
  | k + 1, hk => by
    rw [show p + 1 + (k + 1) = (p + 1 + k) + 1 by omega, holdSt, holdSt_behind held vs nd nv p hl hp h1 h2 k (by omega)]
    unfold stepH
    rw [if_neg (by simp)]
    unfold bumpIf
    rw [if_neg (by omega)]
    dsimp only
    rw [insAt_snoc held _ p nd default (by omega) (by omega), insAt_snoc vs _ p nv _ (by omega) (by omega)]

/-- The list and the subscripts' slices behind l24Hold. -/
theorem hold_closed (held : List ItD) (vs : List Value) (job : Int) (nm : ByteArray) (ss : List ByteArray) (nv : Value) (hl : vs.length = held.length) (hso : sortedH held) :
    holdEnd ⟨job, 1, nm, ss⟩ nv (holdSt held vs (lockAt held job nm ss) ⟨job, 1, nm, ss⟩ nv held.length)
      = (acqI held (tgt job nm ss), if foundI held (tgt job nm ss) = true then vs else insAt vs (posI held (tgt job nm ss)) nv) := by
  have hsp := posI_spec held (tgt job nm ss)
  have hle := posI_le held (tgt job nm ss)
  cases h : foundI held (tgt job nm ss)
  · rw [at_lost held job nm ss hso h]
    unfold acqI
    rw [h, if_neg (by decide), if_neg (by decide)]
    have hk : ∀ x : ItD, hOrd ⟨job, 1, nm, ss⟩ x = hOrd (tgt job nm ss) x := fun x => rfl
    have h1 : ∀ j, j < posI held (tgt job nm ss) → hOrd ⟨job, 1, nm, ss⟩ (held.getD j default) = false := fun j hj => by
      have hc := hsp.1 j hj
      have hc' : hOrd (held.getD j default) (tgt job nm ss) = true := by rw [← cmpIt_lt]; simpa using hc
      rw [hk]
      cases hx : hOrd (tgt job nm ss) (held.getD j default)
      · rfl
      · have := hOrd_trans _ _ _ hc' hx
        rw [hOrd_irr] at this
        exact this.symm
    generalize hp : posI held (tgt job nm ss) = p at *
    by_cases hlt : p < held.length
    · have h2 : hOrd ⟨job, 1, nm, ss⟩ (held.getD p default) = true := by
        rw [hk]
        have hn0 : cmpIt (held.getD p default) (tgt job nm ss) ≠ 0 := fun e => by
          unfold foundI at h
          rw [hp, decide_eq_true hlt, decide_eq_true e] at h
          cases h
        rcases hOrd_total _ _ hn0 with h3 | h3
        · rw [← cmpIt_lt, decide_eq_true_iff] at h3
          exact absurd h3 (hsp.2 hlt)
        · exact h3
      have := holdSt_behind held vs ⟨job, 1, nm, ss⟩ nv p hl hlt h1 h2 (held.length - (p + 1)) (by omega)
      rw [show p + 1 + (held.length - (p + 1)) = held.length by omega] at this
      rw [this]
      unfold holdEnd
      rw [if_pos rfl, List.take_of_length_le (Nat.le_refl _), List.take_of_length_le (by omega)]
      rfl
    · obtain rfl : p = held.length := by omega
      rw [holdSt_before held vs ⟨job, 1, nm, ss⟩ nv held.length hl (Nat.le_refl _) h1 held.length (Nat.le_refl _)]
      unfold holdEnd insAt
      rw [if_neg (by simp)]
      dsimp only
      rw [List.take_of_length_le (Nat.le_refl _), List.take_of_length_le (show vs.length ≤ held.length by omega), List.drop_of_length_le (Nat.le_refl _), List.drop_of_length_le (show vs.length ≤ held.length by omega), List.append_nil, List.append_nil]
      rfl
  · rw [at_found held job nm ss h]
    unfold acqI
    rw [h, if_pos rfl, if_pos rfl]
    have hlt : posI held (tgt job nm ss) < held.length := by
      unfold foundI at h
      rw [Bool.and_eq_true, decide_eq_true_iff] at h
      exact h.1
    rw [holdSt_found held vs _ _ nv hl hlt held.length (Nat.le_refl _)]
    unfold holdEnd
    rw [if_pos rfl, List.take_of_length_le (by rw [List.length_set]; exact Nat.le_refl _), List.take_of_length_le (show vs.length ≤ held.length by omega)]

theorem acqI_subs_set (held : List ItD) (i j : Nat) (hi : i < held.length) (b : Int) : ((held.set i { held.getD i default with b := b }).getD j default).subs = (held.getD j default).subs := by
  simp only [List.getD_eq_getElem?_getD, List.getElem?_set]
  by_cases he : i = j
  · subst he; simp [hi]
  · simp [he]

/-- The locks behind l24Hold, of the caller's own. -/
def HeldPost (base : Nat) (v1 : Value) (held' asks : List ItD) (us : List Value) (w : World) (e : Ending) (w' : World) : Prop :=
  ∃ v vs', e = .returned (.agg #[v, v1]) ∧ OwnIts w' base 37 v held' vs' ∧ OwnIts w' base 42 v1 asks us ∧ (∀ x ∈ vs', ∀ y ∈ us, apart x y) ∧ Below w.heap.size w w'

theorem insAt_mem {α : Type} {l : List α} {i : Nat} {x y : α} (h : y ∈ insAt l i x) : y ∈ l ∨ y = x := by
  unfold insAt at h
  rw [List.append_assoc, List.mem_append, List.mem_append, List.mem_singleton] at h
  rcases h with h | h | h
  · exact .inl (List.mem_of_mem_take h)
  · exact .inr h
  · exact .inl (List.mem_of_mem_drop h)

theorem hold_own {base : Nat} {w w' : World} {e : Ending} {v v1 : Value} {held asks : List ItD} {vs us : List Value} {job : Int} {nm : ByteArray} {ss : List ByteArray} (hbase : base ≤ w.heap.size) (h : OwnIts w base 37 v held vs) (ha : OwnIts w base 42 v1 asks us) (hx : ∀ x ∈ vs, ∀ y ∈ us, apart x y) (hso : sortedH held)
    (hp : HoldPost v1 ss (fun nv => holdEnd ⟨job, 1, nm, ss⟩ nv (holdSt held vs (lockAt held job nm ss) ⟨job, 1, nm, ss⟩ nv held.length)) w e w') :
    HeldPost base v1 (acqI held (tgt job nm ss)) asks us w e w' := by
  obtain ⟨v2, nv, rfl, hsub, hlen, hrow, hb⟩ := hp
  dsimp only at hlen hrow
  rw [hold_closed held vs job nm ss nv h.len hso] at hlen hrow
  dsimp only at hlen hrow
  have hle := posI_le held (tgt job nm ss)
  refine ⟨v2, _, rfl, ⟨hlen, own_base hrow hbase, ?_, ?_⟩, ha.later hb, ?_, hb⟩
  · intro j hj
    unfold acqI at hj ⊢
    cases hf : foundI held (tgt job nm ss)
    · rw [hf, if_neg (by decide)] at hj
      rw [insAt_len _ _ _ hle] at hj
      rw [if_neg (by decide), if_neg (by decide), insAt_getD _ _ _ hle, insAt_getD _ _ _ (by rw [h.len]; exact hle)]
      by_cases h1 : j < posI held (tgt job nm ss)
      · rw [if_pos h1, if_pos h1]
        exact own_later (h.subs j (by omega)) hb
      · rw [if_neg h1, if_neg h1]
        by_cases h2 : j = posI held (tgt job nm ss)
        · rw [if_pos h2, if_pos h2]
          exact own_base hsub hbase
        · rw [if_neg h2, if_neg h2]
          exact own_later (h.subs (j - 1) (by omega)) hb
    · rw [hf, if_pos rfl, List.length_set] at hj
      rw [if_pos rfl, if_pos rfl]
      have hlt : posI held (tgt job nm ss) < held.length := by
        unfold foundI at hf
        rw [Bool.and_eq_true, decide_eq_true_iff] at hf
        exact hf.1
      rw [acqI_subs_set held _ j hlt]
      exact own_later (h.subs j hj) hb
  · cases hf : foundI held (tgt job nm ss)
    · rw [if_neg (by decide)]
      unfold insAt
      have hperm : (vs.take (posI held (tgt job nm ss)) ++ [nv] ++ vs.drop (posI held (tgt job nm ss))).Perm (nv :: vs) := by
        rw [List.append_assoc]
        have := List.perm_middle (a := nv) (l₁ := vs.take (posI held (tgt job nm ss))) (l₂ := vs.drop (posI held (tgt job nm ss)))
        rwa [List.take_append_drop] at this
      refine hperm.symm.pairwise ?_ (fun hab => apart_symm hab)
      exact List.Pairwise.cons (fun u hu => apart_symm (h.fresh hsub (Nat.le_refl _) u hu)) h.aprt
    · rw [if_pos rfl]
      exact h.aprt
  · intro x hxm y hy
    cases hf : foundI held (tgt job nm ss)
    · rw [hf, if_neg (by decide)] at hxm
      rcases insAt_mem hxm with h1 | rfl
      · exact hx x h1 y hy
      · exact apart_symm (ha.fresh hsub (Nat.le_refl _) y hy)
    · rw [hf, if_pos rfl] at hxm
      exact hx x hxm y hy
end Go.Proofs.YtiebcdajoddkpaaGreatDoor
