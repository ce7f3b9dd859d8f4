/-
  Plain law of the order of locks: the program's comparison and the reference's order are one and the same; it is a strict order.
-/
import Derived.Test.YtiebcdajoddkpaaGreatDoorLkI3
namespace Go.Proofs.YtiebcdajoddkpaaGreatDoor
open Go.RowKit

theorem bl_irr : ∀ (l : List UInt8), Op.bytesLess l l = false
  | [] => rfl
  | a :: x => by simp [Op.bytesLess, bl_irr x]
theorem bl_trans : ∀ (a b c : List UInt8), Op.bytesLess a b = true → Op.bytesLess b c = true → Op.bytesLess a c = true
  | _, [], _, h, _ => by simp [Op.bytesLess] at h
  | _, _ :: _, [], _, h => by simp [Op.bytesLess] at h
  | [], _ :: _, _ :: _, _, _ => rfl
  | a :: x, b :: y, c :: z, h1, h2 => by
    simp only [Op.bytesLess, Bool.or_eq_true, Bool.and_eq_true, decide_eq_true_iff, beq_iff_eq] at h1 h2 ⊢
    rcases h1 with h1 | ⟨rfl, h1⟩
    · rcases h2 with h2 | ⟨rfl, h2⟩
      · exact .inl (UInt8.lt_trans h1 h2)
      · exact .inl h1
    · rcases h2 with h2 | ⟨rfl, h2⟩
      · exact .inl h2
      · exact .inr ⟨rfl, bl_trans x y z h1 h2⟩
theorem bl_total : ∀ (a b : List UInt8), Op.bytesLess a b = false → Op.bytesLess b a = false → a = b
  | [], [], _, _ => rfl
  | [], _ :: _, h, _ => by simp [Op.bytesLess] at h
  | _ :: _, [], _, h => by simp [Op.bytesLess] at h
  | a :: x, b :: y, h1, h2 => by
    simp only [Op.bytesLess, Bool.or_eq_false_iff, Bool.and_eq_false_iff, decide_eq_false_iff_not, beq_eq_false_iff_ne] at h1 h2
    have e : a = b := UInt8.le_antisymm (UInt8.not_lt.1 h2.1) (UInt8.not_lt.1 h1.1)
    subst e
    have r1 := h1.2.resolve_left (fun h => h rfl)
    have r2 := h2.2.resolve_left (fun h => h rfl)
    rw [bl_total x y r1 r2]
theorem canon_inj {a b : ByteArray} (ha : canonB a = true) (hb : canonB b = true) (h : numS a.data.toList = numS b.data.toList) : a = b := by
  unfold canonB at ha hb
  rw [decide_eq_true_iff] at ha hb
  apply bytes_ext
  rw [toList_data, toList_data, ← ha, ← hb, h]
theorem colI_lt (a b : ByteArray) : decide (colI a b < 0) = beforeB a b := by
  unfold colI beforeB
  cases ha : canonB a <;> cases hb : canonB b
  · simp only [Bool.false_and, if_neg (show ¬ (false = true) by decide), bne_self_eq_false]
    unfold cmpS
    cases h : Op.bytesLess a.toList b.toList
    · by_cases he : a = b <;> simp [he]
    · simp
  · simp
  · simp
  · simp only [Bool.and_self, if_pos]
    unfold cmpI
    by_cases h1 : numS a.data.toList < numS b.data.toList
    · simp [h1]
    · by_cases h2 : numS b.data.toList < numS a.data.toList <;> simp [h1, h2]
theorem colI_zero (a b : ByteArray) : colI a b = 0 ↔ a = b := by
  constructor
  · intro h
    unfold colI at h
    cases ha : canonB a <;> cases hb : canonB b
    · rw [ha, hb] at h
      simp at h
      unfold cmpS at h
      split at h
      · omega
      · split at h
        · assumption
        · omega
    · rw [ha, hb] at h; simp at h
    · rw [ha, hb] at h; simp at h
    · rw [ha, hb] at h
      simp at h
      unfold cmpI at h
      split at h
      · omega
      · split at h
        · omega
        · exact canon_inj ha hb (by omega)
  · rintro rfl
    unfold colI
    cases ha : canonB a
    · simp; unfold cmpS; rw [bl_irr]; simp
    · simp; unfold cmpI; simp
theorem before_irr (a : ByteArray) : beforeB a a = false := by
  rw [← colI_lt, (colI_zero a a).2 rfl]; rfl
theorem before_trans (a b c : ByteArray) (h1 : beforeB a b = true) (h2 : beforeB b c = true) : beforeB a c = true := by
  unfold beforeB at h1 h2 ⊢
  cases ha : canonB a <;> cases hb : canonB b <;> cases hc : canonB c <;> rw [ha, hb] at h1 <;> rw [hb, hc] at h2 <;> simp at h1 h2 ⊢
  · exact bl_trans _ _ _ h1 h2
  · omega
theorem before_total (a b : ByteArray) (h : a ≠ b) : beforeB a b = true ∨ beforeB b a = true := by
  rcases Int.lt_trichotomy (colI a b) 0 with h1 | h1 | h1
  · exact .inl (by rw [← colI_lt]; simpa using h1)
  · exact absurd ((colI_zero a b).1 h1) h
  · right
    unfold colI at h1
    unfold beforeB
    cases ha : canonB a <;> cases hb : canonB b <;> rw [ha, hb] at h1 <;> simp at h1 ⊢
    · unfold cmpS at h1
      cases hx : Op.bytesLess b.toList a.toList
      · cases hy : Op.bytesLess a.toList b.toList
        · exact absurd (bytes_ext (bl_total _ _ hy hx)) h
        · rw [hy] at h1; simp at h1
      · rfl
    · unfold cmpI at h1
      split at h1
      · omega
      · split at h1
        · assumption
        · omega
theorem colL_lt : ∀ (a b : List ByteArray), decide (colL a b < 0) = lessS a b
  | [], [] => rfl
  | [], _ :: _ => rfl
  | _ :: _, [] => rfl
  | x :: r, y :: s => by
    unfold colL lessS
    by_cases h : x = y
    · subst h
      rw [if_pos ((colI_zero x x).2 rfl), if_pos rfl, colL_lt r s]
    · rw [if_neg (fun e => h ((colI_zero x y).1 e)), if_neg h, colI_lt]
theorem colL_zero : ∀ (a b : List ByteArray), colL a b = 0 ↔ a = b
  | [], [] => by simp [colL]
  | [], _ :: _ => by simp [colL]
  | _ :: _, [] => by simp [colL]
  | x :: r, y :: s => by
    unfold colL
    by_cases h : x = y
    · subst h
      rw [if_pos ((colI_zero x x).2 rfl), colL_zero r s]
      simp
    · have ht : ¬ colI x y = 0 := fun e => h ((colI_zero x y).1 e)
      rw [if_neg ht]
      simp [h]
      exact ht
theorem cmpS_zero (a b : ByteArray) : cmpS a b = 0 ↔ a = b := by
  unfold cmpS
  constructor
  · intro h
    split at h
    · omega
    · split at h
      · assumption
      · omega
  · rintro rfl
    rw [bl_irr]; simp
theorem cmpS_lt (a b : ByteArray) : decide (cmpS a b < 0) = Op.bytesLess a.toList b.toList := by
  unfold cmpS
  cases h : Op.bytesLess a.toList b.toList
  · by_cases he : a = b <;> simp [he]
  · simp
theorem cmpLoc_lt (n n' : ByteArray) (s s' : List ByteArray) : decide (cmpLoc n s n' s' < 0) = lessB n s n' s' := by
  unfold cmpLoc lessB orI
  by_cases h : n = n'
  · subst h
    rw [if_pos ((cmpS_zero n n).2 rfl), if_pos rfl, colL_lt]
  · rw [if_neg (fun e => h ((cmpS_zero n n').1 e)), if_neg h, cmpS_lt]
theorem cmpLoc_zero (n n' : ByteArray) (s s' : List ByteArray) : cmpLoc n s n' s' = 0 ↔ n = n' ∧ s = s' := by
  unfold cmpLoc orI
  by_cases h : n = n'
  · subst h
    rw [if_pos ((cmpS_zero n n).2 rfl), colL_zero]
    simp
  · rw [if_neg (fun e => h ((cmpS_zero n n').1 e)), cmpS_zero]
    simp [h]
theorem cmpI_zero (a b : Int) : cmpI a b = 0 ↔ a = b := by
  unfold cmpI
  constructor
  · intro h
    split at h
    · omega
    · split at h <;> omega
  · rintro rfl; simp
theorem cmpIt_lt (x y : ItD) : decide (cmpIt x y < 0) = hOrd x y := by
  unfold cmpIt hOrd orI
  by_cases h : x.a = y.a
  · rw [if_pos ((cmpI_zero _ _).2 h), cmpLoc_lt]
    simp [h]
  · rw [if_neg (fun e => h ((cmpI_zero _ _).1 e))]
    unfold cmpI
    by_cases h1 : x.a < y.a
    · simp [h1]
    · have h2 : y.a < x.a := by omega
      simp [h1, h2, h]
theorem cmpIt_zero (x y : ItD) : cmpIt x y = 0 ↔ x.a = y.a ∧ x.name = y.name ∧ x.subs = y.subs := by
  unfold cmpIt orI
  by_cases h : x.a = y.a
  · rw [if_pos ((cmpI_zero _ _).2 h), cmpLoc_zero]
    simp [h]
  · rw [if_neg (fun e => h ((cmpI_zero _ _).1 e)), cmpI_zero]
    simp [h]
theorem lessS_trans : ∀ (a b c : List ByteArray), lessS a b = true → lessS b c = true → lessS a c = true
  | _, [], [], _, h => by simp [lessS] at h
  | [], [], _ :: _, h, _ => by simp [lessS] at h
  | _ :: _, [], _ :: _, h, _ => by simp [lessS] at h
  | _, _ :: _, [], _, h => by simp [lessS] at h
  | [], _ :: _, _ :: _, _, _ => rfl
  | x :: r, y :: s, z :: t, h1, h2 => by
    unfold lessS at h1 h2 ⊢
    by_cases e1 : x = y
    · subst e1
      rw [if_pos rfl] at h1
      by_cases e2 : x = z
      · subst e2
        rw [if_pos rfl] at h2 ⊢
        exact lessS_trans r s t h1 h2
      · rw [if_neg e2] at h2 ⊢
        exact h2
    · rw [if_neg e1] at h1
      by_cases e2 : y = z
      · subst e2
        rw [if_neg e1]
        exact h1
      · rw [if_neg e2] at h2
        have h3 := before_trans x y z h1 h2
        by_cases e3 : x = z
        · subst e3
          rw [before_irr] at h3; cases h3
        · rw [if_neg e3]; exact h3
theorem lessB_trans (n1 n2 n3 : ByteArray) (s1 s2 s3 : List ByteArray) (h1 : lessB n1 s1 n2 s2 = true) (h2 : lessB n2 s2 n3 s3 = true) : lessB n1 s1 n3 s3 = true := by
  unfold lessB at h1 h2 ⊢
  by_cases e1 : n1 = n2
  · subst e1
    rw [if_pos rfl] at h1
    by_cases e2 : n1 = n3
    · subst e2
      rw [if_pos rfl] at h2 ⊢
      exact lessS_trans _ _ _ h1 h2
    · rw [if_neg e2] at h2 ⊢
      exact h2
  · rw [if_neg e1] at h1
    by_cases e2 : n2 = n3
    · subst e2
      rw [if_neg e1]
      exact h1
    · rw [if_neg e2] at h2
      have h3 := bl_trans _ _ _ h1 h2
      by_cases e3 : n1 = n3
      · subst e3
        rw [bl_irr] at h3; cases h3
      · rw [if_neg e3]; exact h3
theorem hOrd_trans (x y z : ItD) (h1 : hOrd x y = true) (h2 : hOrd y z = true) : hOrd x z = true := by
  unfold hOrd at h1 h2 ⊢
  simp only [Bool.or_eq_true, Bool.and_eq_true, decide_eq_true_iff] at h1 h2 ⊢
  rcases h1 with h1 | ⟨e1, h1⟩ <;> rcases h2 with h2 | ⟨e2, h2⟩
  · exact .inl (by omega)
  · exact .inl (by omega)
  · exact .inl (by omega)
  · exact .inr ⟨by omega, lessB_trans _ _ _ _ _ _ h1 h2⟩

theorem heldIAt_eq (l : List ItD) (k : Nat) : heldIAt l k = heldAt l k := by
  unfold heldIAt heldAt
  rw [cmpIt_lt]
theorem allFrom_congr {p q : Nat → Bool} (h : ∀ k, p k = q k) : ∀ (n k : Nat), allFrom p k n = allFrom q k n
  | 0, _ => rfl
  | n + 1, k => by unfold allFrom; rw [h k, allFrom_congr h n (k + 1)]
theorem allFrom_at {p : Nat → Bool} : ∀ (n k : Nat), allFrom p k n = true → ∀ j, k ≤ j → j < k + n → p j = true
  | 0, k, _, j, h1, h2 => by omega
  | n + 1, k, h, j, h1, h2 => by
    unfold allFrom at h
    rw [Bool.and_eq_true] at h
    by_cases e : j = k
    · subst e; exact h.1
    · exact allFrom_at n (k + 1) h.2 j (by omega) (by omega)
theorem allFrom_of {p : Nat → Bool} : ∀ (n k : Nat), (∀ j, k ≤ j → j < k + n → p j = true) → allFrom p k n = true
  | 0, _, _ => rfl
  | n + 1, k, h => by
    unfold allFrom
    rw [h k (Nat.le_refl _) (by omega), allFrom_of n (k + 1) (fun j h1 h2 => h j (by omega) (by omega))]
    rfl
theorem idxF_before (p : ItD → Bool) : ∀ (l : List ItD) (k j : Nat), j < l.length → p (l.getD j default) = true → (idxF p l k = ((k + j : Nat) : Int) ↔ (l.take j).any p = false)
  | [], _, _, hj, _ => by simp at hj
  | d :: r, k, 0, _, hp => by
    simp only [List.getD_cons_zero] at hp
    simp [idxF, hp]
  | d :: r, k, j + 1, hj, hp => by
    have ih := idxF_before p r (k + 1) j (by simpa using hj) (by simpa using hp)
    unfold idxF
    rw [List.take_succ_cons, List.any_cons]
    by_cases hd : p d = true
    · rw [if_pos hd, hd]
      simp
      omega
    · rw [if_neg hd, Bool.not_eq_true _ |>.mp hd, Bool.false_or, ← ih]
      rw [show k + 1 + j = k + (j + 1) from by omega]
theorem askOk_eq (l : List ItD) (k : Nat) (h : k < l.length) : askOkAt l k = askIAt l k := by
  unfold askOkAt askIAt
  have hb := idxF_before (jobP (l.getD k default).a) l 0 k h (by simp [jobP])
  rw [Nat.zero_add] at hb
  have he : decide (askAt l (l.getD k default).a = (k : Int)) = !((l.take k).any (jobP (l.getD k default).a)) := by
    unfold askAt
    cases hx : (l.take k).any (jobP (l.getD k default).a)
    · rw [decide_eq_true (hb.2 hx)]; rfl
    · rw [decide_eq_false (fun e => by rw [hb.1 e] at hx; cases hx)]; rfl
  rw [he]
  cases inB (l.getD k default).a 1 4 <;> cases inB (l.getD k default).b 0 999999 <;> cases thingB (l.getD k default).name (l.getD k default).subs <;> simp
theorem allFrom_congr_lt {p q : Nat → Bool} : ∀ (n k : Nat), (∀ j, k ≤ j → j < k + n → p j = q j) → allFrom p k n = allFrom q k n
  | 0, _, _ => rfl
  | n + 1, k, h => by unfold allFrom; rw [h k (Nat.le_refl _) (by omega), allFrom_congr_lt n (k + 1) (fun j h1 h2 => h j (by omega) (by omega))]
theorem any_take_false {l : List ItD} {p : ItD → Bool} {k : Nat} (h : (l.take k).any p = false) (j : Nat) (hj : j < k) (hk : j < l.length) : p (l.getD j default) = false := by
  rw [List.any_eq_false] at h
  have := h (l.getD j default) (by
    rw [← take_getD l k j hj]
    exact getD_mem _ _ (by rw [List.length_take]; omega))
  simpa using this
theorem five (x0 x1 x2 x3 x4 : Int) (h0 : 1 ≤ x0 ∧ x0 ≤ 4) (h1 : 1 ≤ x1 ∧ x1 ≤ 4) (h2 : 1 ≤ x2 ∧ x2 ≤ 4) (h3 : 1 ≤ x3 ∧ x3 ≤ 4) (h4 : 1 ≤ x4 ∧ x4 ≤ 4) (n01 : x0 ≠ x1) (n02 : x0 ≠ x2) (n03 : x0 ≠ x3) (n04 : x0 ≠ x4) (n12 : x1 ≠ x2) (n13 : x1 ≠ x3) (n14 : x1 ≠ x4) (n23 : x2 ≠ x3) (n24 : x2 ≠ x4) (n34 : x3 ≠ x4) : False := by
  have hx : x0 = 1 ∨ x0 = 2 ∨ x0 = 3 ∨ x0 = 4 := by omega
  have hy : x1 = 1 ∨ x1 = 2 ∨ x1 = 3 ∨ x1 = 4 := by omega
  rcases hx with rfl | rfl | rfl | rfl <;> rcases hy with rfl | rfl | rfl | rfl <;> first | exact absurd rfl n01 | omega
theorem asks_four (l : List ItD) (h : allFrom (askIAt l) 0 l.length = true) : l.length ≤ 4 := by
  rcases Nat.lt_or_ge 4 l.length with hlt | hge
  · exfalso
    have hat := allFrom_at l.length 0 h
    have hr : ∀ j, j < l.length → 1 ≤ (l.getD j default).a ∧ (l.getD j default).a ≤ 4 := fun j hj => by
      have := hat j (by omega) (by omega)
      unfold askIAt at this
      rw [Bool.and_eq_true] at this
      simpa [inB] using this.1
    have hne : ∀ i j, i < j → j < l.length → (l.getD i default).a ≠ (l.getD j default).a := fun i j hij hj => by
      have := hat j (by omega) (by omega)
      unfold askIAt at this
      rw [Bool.and_eq_true, Bool.and_eq_true, Bool.not_eq_true'] at this
      have := any_take_false this.2.1 i hij (by omega)
      simpa [jobP] using this
    exact five _ _ _ _ _ (hr 0 (by omega)) (hr 1 (by omega)) (hr 2 (by omega)) (hr 3 (by omega)) (hr 4 (by omega)) (hne 0 1 (by omega) (by omega)) (hne 0 2 (by omega) (by omega)) (hne 0 3 (by omega) (by omega)) (hne 0 4 (by omega) (by omega)) (hne 1 2 (by omega) (by omega)) (hne 1 3 (by omega) (by omega)) (hne 1 4 (by omega) (by omega)) (hne 2 3 (by omega) (by omega)) (hne 2 4 (by omega) (by omega)) (hne 3 4 (by omega) (by omega))
  · exact hge
/-- The program and the reference find the same locks right. -/
theorem locksI_eq (held asks : List ItD) : locksI held asks = okB held asks := by
  unfold locksI okB heldI
  rw [allFrom_congr (heldIAt_eq held), allFrom_congr_lt (p := askOkAt asks) (q := askIAt asks) asks.length 0 (fun j _ h => askOk_eq asks j (by omega))]
  cases h : allFrom (askIAt asks) 0 asks.length
  · simp
  · rw [decide_eq_true (asks_four asks h)]
    simp
theorem okB_sorted {held asks : List ItD} (h : okB held asks = true) : ∀ i j, i < j → j < held.length → hOrd (held.getD i default) (held.getD j default) = true := by
  unfold okB at h
  rw [Bool.and_eq_true, Bool.and_eq_true] at h
  have hat := allFrom_at held.length 0 h.1.2
  have hadj : ∀ k, k + 1 < held.length → hOrd (held.getD k default) (held.getD (k + 1) default) = true := fun k hk => by
    have := hat (k + 1) (by omega) (by omega)
    unfold heldAt at this
    rw [Bool.and_eq_true, Bool.and_eq_true] at this
    simpa using this.1.2
  intro i j hij
  induction j with
  | zero => omega
  | succ j ih =>
    intro hj
    by_cases e : i = j
    · subst e; exact hadj i hj
    · exact hOrd_trans _ _ _ (ih (by omega) (by omega)) (hadj j hj)
theorem okB_mono {held asks : List ItD} (h : okB held asks = true) (t : ItD) (i j : Nat) (hij : i ≤ j) (hj : j < held.length) (hc : cmpIt (held.getD j default) t < 0) : cmpIt (held.getD i default) t < 0 := by
  by_cases e : i = j
  · subst e; exact hc
  · have h1 := okB_sorted h i j (by omega) hj
    have h2 : hOrd (held.getD j default) t = true := by rw [← cmpIt_lt]; simpa using hc
    have h3 := hOrd_trans _ _ _ h1 h2
    rw [← cmpIt_lt] at h3
    simpa using h3
end Go.Proofs.YtiebcdajoddkpaaGreatDoor
