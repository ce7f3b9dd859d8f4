import Derived.Test.YtgmaamnofhmecaaGreatDoorZ07
set_option linter.unusedSimpArgs false
namespace Go.Proofs.YtgmaamnofhmecaaGreatDoor
open Go.RowKit
theorem bl_irr : ∀ (l : List UInt8), Op.bytesLess l l = false
 | [] => rfl
 | a :: x => by simp [Op.bytesLess, bl_irr x]
theorem bl_trans : ∀ (a b c : List UInt8), Op.bytesLess a b = true → Op.bytesLess b c = true → Op.bytesLess a c = true
 | _, [], _, h, _ => by simp [Op.bytesLess] at h
 | _, _ :: _, [], _, h => by simp [Op.bytesLess] at h
 | [], _ :: _, _ :: _, _, _ => rfl
 | a :: x, b :: y, c :: z, h1, h2 => by
   simp only [Op.bytesLess, Bool.or_eq_true, Bool.and_eq_true, decide_eq_true_iff, beq_iff_eq] at h1 h2 ⊢
   rcases h1 with h1 | ⟨rfl, h1⟩
   · rcases h2 with h2 | ⟨rfl, h2⟩
     · exact .inl (UInt8.lt_trans h1 h2)
     · exact .inl h1
   · rcases h2 with h2 | ⟨rfl, h2⟩
     · exact .inl h2
     · exact .inr ⟨rfl, bl_trans x y z h1 h2⟩
theorem bl_total : ∀ (a b : List UInt8), Op.bytesLess a b = false → Op.bytesLess b a = false → a = b
 | [], [], _, _ => rfl
 | [], _ :: _, h, _ => by simp [Op.bytesLess] at h
 | _ :: _, [], _, h => by simp [Op.bytesLess] at h
 | a :: x, b :: y, h1, h2 => by
   simp only [Op.bytesLess, Bool.or_eq_false_iff, Bool.and_eq_false_iff, decide_eq_false_iff_not, beq_eq_false_iff_ne] at h1 h2
   have e : a = b := UInt8.le_antisymm (UInt8.not_lt.1 h2.1) (UInt8.not_lt.1 h1.1)
   subst e
   have r1 := h1.2.resolve_left (fun h => h rfl)
   have r2 := h2.2.resolve_left (fun h => h rfl)
   rw [bl_total x y r1 r2]
theorem canon_inj {a b : ByteArray} (ha : canonB a = true) (hb : canonB b = true) (h : numS a.data.toList = numS b.data.toList) : a = b := by
 unfold canonB at ha hb
 rw [decide_eq_true_iff] at ha hb
 apply bytes_ext
 rw [toList_data, toList_data, ← ha, ← hb, h]
theorem colI_lt (a b : ByteArray) : decide (colI a b < 0) = beforeB a b := by
 unfold colI beforeB
 cases ha : canonB a <;> cases hb : canonB b
 · simp only [Bool.false_and, if_neg (show ¬ (false = true) by decide), bne_self_eq_false]
   unfold cmpS
   cases h : Op.bytesLess a.toList b.toList
   · by_cases he : a = b <;> simp [he]
   · simp
 · simp
 · simp
 · simp only [Bool.and_self, if_pos]
   unfold cmpI
   by_cases h1 : numS a.data.toList < numS b.data.toList
   · simp [h1]
   · by_cases h2 : numS b.data.toList < numS a.data.toList <;> simp [h1, h2]
theorem colI_zero (a b : ByteArray) : colI a b = 0 ↔ a = b := by
 constructor
 · intro h
   unfold colI at h
   cases ha : canonB a <;> cases hb : canonB b
   · rw [ha, hb] at h
     simp at h
     unfold cmpS at h
     split at h
     · omega
     · split at h
       · assumption
       · omega
   · rw [ha, hb] at h; simp at h
   · rw [ha, hb] at h; simp at h
   · rw [ha, hb] at h
     simp at h
     unfold cmpI at h
     split at h
     · omega
     · split at h
       · omega
       · exact canon_inj ha hb (by omega)
 · rintro rfl
   unfold colI
   cases ha : canonB a
   · simp; unfold cmpS; rw [bl_irr]; simp
   · simp; unfold cmpI; simp
theorem before_irr (a : ByteArray) : beforeB a a = false := by
 rw [← colI_lt, (colI_zero a a).2 rfl]; rfl
theorem before_trans (a b c : ByteArray) (h1 : beforeB a b = true) (h2 : beforeB b c = true) : beforeB a c = true := by
 unfold beforeB at h1 h2 ⊢
 cases ha : canonB a <;> cases hb : canonB b <;> cases hc : canonB c <;> rw [ha, hb] at h1 <;> rw [hb, hc] at h2 <;> simp at h1 h2 ⊢
 · exact bl_trans _ _ _ h1 h2
 · omega
theorem before_total (a b : ByteArray) (h : a ≠ b) : beforeB a b = true ∨ beforeB b a = true := by
 rcases Int.lt_trichotomy (colI a b) 0 with h1 | h1 | h1
 · exact .inl (by rw [← colI_lt]; simpa using h1)
 · exact absurd ((colI_zero a b).1 h1) h
 · right
   unfold colI at h1
   unfold beforeB
   cases ha : canonB a <;> cases hb : canonB b <;> rw [ha, hb] at h1 <;> simp at h1 ⊢
   · unfold cmpS at h1
     cases hx : Op.bytesLess b.toList a.toList
     · cases hy : Op.bytesLess a.toList b.toList
       · exact absurd (bytes_ext (bl_total _ _ hy hx)) h
       · rw [hy] at h1; simp at h1
     · rfl
   · unfold cmpI at h1
     split at h1
     · omega
     · split at h1
       · assumption
       · omega
theorem colL_lt : ∀ (a b : List ByteArray), decide (colL a b < 0) = lessS a b
 | [], [] => rfl
 | [], _ :: _ => rfl
 | _ :: _, [] => rfl
 | x :: r, y :: s => by
   unfold colL lessS
   by_cases h : x = y
   · subst h
     rw [if_pos ((colI_zero x x).2 rfl), if_pos rfl, colL_lt r s]
   · rw [if_neg (fun e => h ((colI_zero x y).1 e)), if_neg h, colI_lt]
theorem colL_zero : ∀ (a b : List ByteArray), colL a b = 0 ↔ a = b
 | [], [] => by simp [colL]
 | [], _ :: _ => by simp [colL]
 | _ :: _, [] => by simp [colL]
 | x :: r, y :: s => by
   unfold colL
   by_cases h : x = y
   · subst h
     rw [if_pos ((colI_zero x x).2 rfl), colL_zero r s]
     simp
   · have ht : ¬ colI x y = 0 := fun e => h ((colI_zero x y).1 e)
     rw [if_neg ht]
     simp [h]
     exact ht
theorem cmpS_zero (a b : ByteArray) : cmpS a b = 0 ↔ a = b := by
 unfold cmpS
 constructor
 · intro h
   split at h
   · omega
   · split at h
     · assumption
     · omega
 · rintro rfl
   rw [bl_irr]; simp
theorem cmpS_lt (a b : ByteArray) : decide (cmpS a b < 0) = Op.bytesLess a.toList b.toList := by
 unfold cmpS
 cases h : Op.bytesLess a.toList b.toList
 · by_cases he : a = b <;> simp [he]
 · simp
theorem cmpLoc_lt (n n' : ByteArray) (s s' : List ByteArray) : decide (cmpLoc n s n' s' < 0) = lessB n s n' s' := by
 unfold cmpLoc lessB orI
 by_cases h : n = n'
 · subst h
   rw [if_pos ((cmpS_zero n n).2 rfl), if_pos rfl, colL_lt]
 · rw [if_neg (fun e => h ((cmpS_zero n n').1 e)), if_neg h, cmpS_lt]
theorem cmpLoc_zero (n n' : ByteArray) (s s' : List ByteArray) : cmpLoc n s n' s' = 0 ↔ n = n' ∧ s = s' := by
 unfold cmpLoc orI
 by_cases h : n = n'
 · subst h
   rw [if_pos ((cmpS_zero n n).2 rfl), colL_zero]
   simp
 · rw [if_neg (fun e => h ((cmpS_zero n n').1 e)), cmpS_zero]
   simp [h]
theorem lessS_trans : ∀ (a b c : List ByteArray), lessS a b = true → lessS b c = true → lessS a c = true
 | _, [], [], _, h => by simp [lessS] at h
 | [], [], _ :: _, h, _ => by simp [lessS] at h
 | _ :: _, [], _ :: _, h, _ => by simp [lessS] at h
 | _, _ :: _, [], _, h => by simp [lessS] at h
 | [], _ :: _, _ :: _, _, _ => rfl
 | x :: r, y :: s, z :: t, h1, h2 => by
   unfold lessS at h1 h2 ⊢
   by_cases e1 : x = y
   · subst e1
     rw [if_pos rfl] at h1
     by_cases e2 : x = z
     · subst e2
       rw [if_pos rfl] at h2 ⊢
       exact lessS_trans r s t h1 h2
     · rw [if_neg e2] at h2 ⊢
       exact h2
   · rw [if_neg e1] at h1
     by_cases e2 : y = z
     · subst e2
       rw [if_neg e1]
       exact h1
     · rw [if_neg e2] at h2
       have h3 := before_trans x y z h1 h2
       by_cases e3 : x = z
       · subst e3
         rw [before_irr] at h3; cases h3
       · rw [if_neg e3]; exact h3
theorem lessB_trans (n1 n2 n3 : ByteArray) (s1 s2 s3 : List ByteArray) (h1 : lessB n1 s1 n2 s2 = true) (h2 : lessB n2 s2 n3 s3 = true) : lessB n1 s1 n3 s3 = true := by
 unfold lessB at h1 h2 ⊢
 by_cases e1 : n1 = n2
 · subst e1
   rw [if_pos rfl] at h1
   by_cases e2 : n1 = n3
   · subst e2
     rw [if_pos rfl] at h2 ⊢
     exact lessS_trans _ _ _ h1 h2
   · rw [if_neg e2] at h2 ⊢
     exact h2
 · rw [if_neg e1] at h1
   by_cases e2 : n2 = n3
   · subst e2
     rw [if_neg e1]
     exact h1
   · rw [if_neg e2] at h2
     have h3 := bl_trans _ _ _ h1 h2
     by_cases e3 : n1 = n3
     · subst e3
       rw [bl_irr] at h3; cases h3
     · rw [if_neg e3]; exact h3
end Go.Proofs.YtgmaamnofhmecaaGreatDoor
