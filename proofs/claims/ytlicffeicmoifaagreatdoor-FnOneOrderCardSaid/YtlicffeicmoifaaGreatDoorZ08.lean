import Derived.Test.YtlicffeicmoifaaGreatDoorZ07
import Derived.Test.YtlicffeicmoifaaGreatDoorZ00
set_option linter.unusedSimpArgs false
namespace Go.Proofs.YtlicffeicmoifaaGreatDoor
open Go.RowKit
def allFrom (p : Nat → Bool) : Nat → Nat → Bool
 | _, 0 => true
 | k, f + 1 => p k && allFrom p (k + 1) f
theorem allFrom_step (p : Nat → Bool) (k n : Nat) (h : k < n) : allFrom p k (n - k) = (p k && allFrom p (k + 1) (n - (k + 1))) := by
 rw [show n - k = (n - (k + 1)) + 1 from by omega]; rfl
theorem allFrom_end (p : Nat → Bool) (k n : Nat) (h : ¬ k < n) : allFrom p k (n - k) = true := by
 rw [show n - k = 0 from by omega]; rfl
theorem allFrom_all (p : Nat → Bool) : ∀ (f k : Nat), allFrom p k f = true ↔ ∀ j, k ≤ j → j < k + f → p j = true
 | 0, k => by simp [allFrom]; intro j h1 h2; omega
 | f + 1, k => by
   rw [allFrom, Bool.and_eq_true, allFrom_all p f (k + 1)]
   constructor
   · rintro ⟨h0, h1⟩ j hj hj2
     by_cases e : j = k
     · subst e; exact h0
     · exact h1 j (by omega) (by omega)
   · exact fun h => ⟨h k (Nat.le_refl _) (by omega), fun j h1 h2 => h j (by omega) (by omega)⟩
def stepB (p d : NodeD) : Bool := aheadB p.name p.subs d.name d.subs
def treeAt (l : List NodeD) (k : Nat) : Bool := nodeB (l.getD k default) && (decide (k = 0) || stepB (l.getD (k - 1) default) (l.getD k default))
def treeB (l : List NodeD) : Bool := decide (l.length ≤ 120) && allFrom (treeAt l) 0 l.length
def smallNs (l : List NodeD) : Prop := l.length ≤ 1048576 ∧ ∀ d ∈ l, d.small
set_option maxRecDepth 100000 in
set_option maxHeartbeats 4000000 in
theorem specTreeOk_any (A : Option Addr) (n c : Nat) (fs : List NodeD) (w : World) (h : Nodes w w.heap.size A n fs) (hs : smallNs fs) :
 Calls Tryz.prog 39 #[.agg #[.slice A n c]] w fun e w' => e = .returned (.bool (treeB fs)) ∧ Below w.heap.size w w' := by
 have Hh := Lib.hid h
 have Hlen := Lib.hid h.1
 have hn : n ≤ 1048576 := by rw [← h.1]; exact hs.1
 have Hs := Lib.hid hs
 have hR : treeB fs = (decide (n ≤ 120) && allFrom (treeAt fs) 0 n) := by unfold treeB; rw [h.1]
 clear h hs
 generalize treeB fs = R at *
 by_cases h120 : 120 < n
 · have HE : Hid (R = false) := by unfold Hid; rw [hR, decide_eq_false (by omega)]; rfl
   clear hR
   go_enter Tryz.func39, Tryz.ntmps39
   go_wp2_with fail
   go_ret
   exact ⟨ret_bool HE.out.symm, Below.new _ _⟩
 have HR : Hid (R = allFrom (treeAt fs) 0 (n - 0)) := by unfold Hid; rw [hR, decide_eq_true (show n ≤ 120 by omega)]; rfl
 clear hR
 go_enter Tryz.func39, Tryz.ntmps39
 go_wp2_with fail
 go_loopw [3] (fun i wr => ∃ (k : Nat), k ≤ n ∧ i = .int .i64 k ∧ Below (w.heap.size + 1) (w.alloc (.cells #[.slice A n c] 26)) wr ∧ Hid (R = allFrom (treeAt fs) k (n - k))) (fun i _ => n - (intOf i).toNat)
 case atStart => exact ⟨0, Nat.zero_le _, rfl, Below.refl _ _, HR.out⟩
 case round =>
  obtain ⟨k, hk, rfl, hb, hS⟩ := hrel
  have p0 := (Blk.later (heap_alloc_new w _) hb (by omega)).cell 0
  have hz0 : w.heap.size < wr.heap.size := by have := hb.size; simp at this; omega
  have HB := Lib.hid hb
  have HBw := Lib.hid ((Below.new _ _).trans (hb.mono (by omega)))
  clear hb
  by_cases hlt : k < n
  · obtain ⟨bb, o, rfl, hbB, hc⟩ := (Hh.out.later HBw.out).2 (by omega)
    obtain ⟨c0, c1, c2, k0, k1, k2, hr⟩ := hc k hlt
    have HC := Lib.hid hc
    clear hc
    have hl1 : k < fs.length := by rw [Hlen.out]; exact hlt
    have hsm := Hs.out.2 _ (getD_memD fs k hl1)
    have HA0 : Hid (treeAt fs k = (nodeB (fs.getD k default) && (decide (k = 0) || stepB (fs.getD (k - 1) default) (fs.getD k default)))) := rfl
    have HStep := Lib.hid (allFrom_step (treeAt fs) k n hlt)
    clear hl1
    generalize fs.getD k default = d at *
    obtain ⟨e0, ⟨A1, n1, cap1, e1, hs1, hcap1⟩, e2⟩ := hr
    subst e0 e1 e2
    have HS1 := Lib.hid hs1
    have HSM := Lib.hid hsm
    have HKN := Lib.hid (fun W (hW : Below wr.heap.size wr W) => l03Node_any _ _ _ d W ⟨rfl, ⟨A1, n1, cap1, rfl, hs1.later hW, hcap1⟩, rfl⟩ hsm)
    clear hs1 hsm
    generalize nodeB d = x at *
    have hW := Below.new wr (.cells #[.string d.name, .slice A1 n1 cap1, .string d.val] 89)
    have r0 := (show Blk _ _ _ _ from heap_alloc_new wr (.cells #[.string d.name, .slice A1 n1 cap1, .string d.val] 89)).cell
    have q1 := cell_later hW (show wr.cell? ⟨w.heap.size, 0, none⟩ = some (.slice (some ⟨bb, o, none⟩) n c) from p0)
    have q5 := r0 0
    have q6 := r0 1
    have q7 := r0 2
    have HWW := Lib.hid hW
    have HBW2 := Lib.hid (HBw.out.later hW)
    clear r0 hW
    cases x
    · have HE : Hid (R = false) := by unfold Hid; rw [hS.out, HStep.out, HA0.out]; rfl
      clear HC
      go_wp2_with fail
      refine wp_region_held_drew (S := fun w' => w'.cell? ⟨wr.heap.size, 0, none⟩ = some (.string d.name) ∧ w'.cell? ⟨wr.heap.size, 1, none⟩ = some (.slice A1 n1 cap1) ∧ w'.cell? ⟨wr.heap.size, 2, none⟩ = some (.string d.val)) (by kernel_rfl) ⟨q5, q6, q7⟩ (fun hHeld => ?_)
      refine wpAnyH_take (i := 0) (v := .agg #[.string d.name, .slice A1 n1 cap1, .string d.val]) rfl (by kernel_rfl) (by kernel_rfl) (by kernel_rfl) (fun _ _ _ h => h) (Or.inl ⟨by rfl, ?_⟩) (by assumption) ?_
      · intro w hSw
        go_simp
      simp only [Act.put, List.setIfInBounds_toArray, List.set_cons_zero, List.set_cons_succ, List.getElem_toArray, List.getElem_cons_zero]
      refine wpAnyH_ready (rs := [1]) (by kernel_rfl) (by simp) ?_
      refine AllReadyH.cons rfl (fun K hK => ?_) AllReadyH.nil
      go_simp
      refine (HKN.out _ (by exact HWW.out.drew)).mono ?_
      rintro e w1 ⟨rfl, hb1'⟩
      have hb1 := undrew hb1'
      clear hb1'
      dsimp only
      refine hK.out _ _ ?_ (fun hHeld2 => ?_)
      · exact ⟨cell_later hb1 q5, cell_later hb1 q6, cell_later hb1 q7⟩
      clear hK K
      refine wpAnyH_take (i := 2) (v := .bool true) rfl (by kernel_rfl) (by kernel_rfl) (by kernel_rfl) (fun _ _ _ h => h) (Or.inl ⟨by rfl, ?_⟩) (by assumption) ?_
      · intro w hSw
        go_simp
      simp only [Act.put, List.setIfInBounds_toArray, List.set_cons_zero, List.set_cons_succ, List.getElem_toArray, List.getElem_cons_succ, List.getElem_cons_zero]
      refine wpAnyH_take (i := 3) (v := .bool true) rfl (by kernel_rfl) (by kernel_rfl) (by kernel_rfl) (fun _ _ _ h => h) (Or.inl ⟨by rfl, ?_⟩) (by assumption) ?_
      · intro w hSw
        go_simp
      simp only [Act.put, List.setIfInBounds_toArray, List.set_cons_zero, List.set_cons_succ, List.getElem_toArray, List.getElem_cons_succ, List.getElem_cons_zero]
      refine wpAnyH_take (i := 4) (v := undef) rfl (by kernel_rfl) (by kernel_rfl) (by kernel_rfl) (fun _ _ _ h => h) (Or.inr ⟨by rfl, rfl⟩) (by assumption) ?_
      simp only [Act.put, List.setIfInBounds_toArray, List.set_cons_zero, List.set_cons_succ, List.getElem_toArray, List.getElem_cons_succ, List.getElem_cons_zero]
      refine wpAnyH_take (i := 5) (v := undef) rfl (by kernel_rfl) (by kernel_rfl) (by kernel_rfl) (fun _ _ _ h => h) (Or.inr ⟨by rfl, rfl⟩) (by assumption) ?_
      simp only [Act.put, List.setIfInBounds_toArray, List.set_cons_zero, List.set_cons_succ, List.getElem_toArray, List.getElem_cons_succ, List.getElem_cons_zero]
      refine wpAnyH_take (i := 6) (v := undef) rfl (by kernel_rfl) (by kernel_rfl) (by kernel_rfl) (fun _ _ _ h => h) (Or.inr ⟨by rfl, rfl⟩) (by assumption) ?_
      simp only [Act.put, List.setIfInBounds_toArray, List.set_cons_zero, List.set_cons_succ, List.getElem_toArray, List.getElem_cons_succ, List.getElem_cons_zero]
      refine wpAnyH_take (i := 7) (v := undef) rfl (by kernel_rfl) (by kernel_rfl) (by kernel_rfl) (fun _ _ _ h => h) (Or.inr ⟨by rfl, rfl⟩) (by assumption) ?_
      simp only [Act.put, List.setIfInBounds_toArray, List.set_cons_zero, List.set_cons_succ, List.getElem_toArray, List.getElem_cons_succ, List.getElem_cons_zero]
      refine wpAnyH_take (i := 8) (v := undef) rfl (by kernel_rfl) (by kernel_rfl) (by kernel_rfl) (fun _ _ _ h => h) (Or.inr ⟨by rfl, rfl⟩) (by assumption) ?_
      simp only [Act.put, List.setIfInBounds_toArray, List.set_cons_zero, List.set_cons_succ, List.getElem_toArray, List.getElem_cons_succ, List.getElem_cons_zero]
      refine wpAnyH_take (i := 9) (v := undef) rfl (by kernel_rfl) (by kernel_rfl) (by kernel_rfl) (fun _ _ _ h => h) (Or.inr ⟨by rfl, rfl⟩) (by assumption) ?_
      simp only [Act.put, List.setIfInBounds_toArray, List.set_cons_zero, List.set_cons_succ, List.getElem_toArray, List.getElem_cons_succ, List.getElem_cons_zero]
      refine wpAnyH_take (i := 10) (v := undef) rfl (by kernel_rfl) (by kernel_rfl) (by kernel_rfl) (fun _ _ _ h => h) (Or.inr ⟨by rfl, rfl⟩) (by assumption) ?_
      simp only [Act.put, List.setIfInBounds_toArray, List.set_cons_zero, List.set_cons_succ, List.getElem_toArray, List.getElem_cons_succ, List.getElem_cons_zero]
      refine wpAnyH_take (i := 11) (v := undef) rfl (by kernel_rfl) (by kernel_rfl) (by kernel_rfl) (fun _ _ _ h => h) (Or.inr ⟨by rfl, rfl⟩) (by assumption) ?_
      simp only [Act.put, List.setIfInBounds_toArray, List.set_cons_zero, List.set_cons_succ, List.getElem_toArray, List.getElem_cons_succ, List.getElem_cons_zero]
      refine wpAnyH_take (i := 12) (v := undef) rfl (by kernel_rfl) (by kernel_rfl) (by kernel_rfl) (fun _ _ _ h => h) (Or.inr ⟨by rfl, rfl⟩) (by assumption) ?_
      simp only [Act.put, List.setIfInBounds_toArray, List.set_cons_zero, List.set_cons_succ, List.getElem_toArray, List.getElem_cons_succ, List.getElem_cons_zero]
      refine wpAnyH_take (i := 13) (v := undef) rfl (by kernel_rfl) (by kernel_rfl) (by kernel_rfl) (fun _ _ _ h => h) (Or.inr ⟨by rfl, rfl⟩) (by assumption) ?_
      simp only [Act.put, List.setIfInBounds_toArray, List.set_cons_zero, List.set_cons_succ, List.getElem_toArray, List.getElem_cons_succ, List.getElem_cons_zero]
      refine wpAnyH_take (i := 14) (v := undef) rfl (by kernel_rfl) (by kernel_rfl) (by kernel_rfl) (fun _ _ _ h => h) (Or.inr ⟨by rfl, rfl⟩) (by assumption) ?_
      simp only [Act.put, List.setIfInBounds_toArray, List.set_cons_zero, List.set_cons_succ, List.getElem_toArray, List.getElem_cons_succ, List.getElem_cons_zero]
      refine wpAnyH_take (i := 15) (v := undef) rfl (by kernel_rfl) (by kernel_rfl) (by kernel_rfl) (fun _ _ _ h => h) (Or.inr ⟨by rfl, rfl⟩) (by assumption) ?_
      simp only [Act.put, List.setIfInBounds_toArray, List.set_cons_zero, List.set_cons_succ, List.getElem_toArray, List.getElem_cons_succ, List.getElem_cons_zero]
      refine wpAnyH_take (i := 16) (v := undef) rfl (by kernel_rfl) (by kernel_rfl) (by kernel_rfl) (fun _ _ _ h => h) (Or.inr ⟨by rfl, rfl⟩) (by assumption) ?_
      simp only [Act.put, List.setIfInBounds_toArray, List.set_cons_zero, List.set_cons_succ, List.getElem_toArray, List.getElem_cons_succ, List.getElem_cons_zero]
      refine wpAnyH_take (i := 17) (v := undef) rfl (by kernel_rfl) (by kernel_rfl) (by kernel_rfl) (fun _ _ _ h => h) (Or.inr ⟨by rfl, rfl⟩) (by assumption) ?_
      simp only [Act.put, List.setIfInBounds_toArray, List.set_cons_zero, List.set_cons_succ, List.getElem_toArray, List.getElem_cons_succ, List.getElem_cons_zero]
      refine wpAnyH_take (i := 18) (v := undef) rfl (by kernel_rfl) (by kernel_rfl) (by kernel_rfl) (fun _ _ _ h => h) (Or.inr ⟨by rfl, rfl⟩) (by assumption) ?_
      simp only [Act.put, List.setIfInBounds_toArray, List.set_cons_zero, List.set_cons_succ, List.getElem_toArray, List.getElem_cons_succ, List.getElem_cons_zero]
      refine wpAnyH_take (i := 19) (v := undef) rfl (by kernel_rfl) (by kernel_rfl) (by kernel_rfl) (fun _ _ _ h => h) (Or.inr ⟨by rfl, rfl⟩) (by assumption) ?_
      simp only [Act.put, List.setIfInBounds_toArray, List.set_cons_zero, List.set_cons_succ, List.getElem_toArray, List.getElem_cons_succ, List.getElem_cons_zero]
      refine wpAnyH_take (i := 20) (v := undef) rfl (by kernel_rfl) (by kernel_rfl) (by kernel_rfl) (fun _ _ _ h => h) (Or.inr ⟨by rfl, rfl⟩) (by assumption) ?_
      simp only [Act.put, List.setIfInBounds_toArray, List.set_cons_zero, List.set_cons_succ, List.getElem_toArray, List.getElem_cons_succ, List.getElem_cons_zero]
      refine wpAnyH_take (i := 21) (v := undef) rfl (by kernel_rfl) (by kernel_rfl) (by kernel_rfl) (fun _ _ _ h => h) (Or.inr ⟨by rfl, rfl⟩) (by assumption) ?_
      simp only [Act.put, List.setIfInBounds_toArray, List.set_cons_zero, List.set_cons_succ, List.getElem_toArray, List.getElem_cons_succ, List.getElem_cons_zero]
      refine wpAnyH_take (i := 22) (v := undef) rfl (by kernel_rfl) (by kernel_rfl) (by kernel_rfl) (fun _ _ _ h => h) (Or.inr ⟨by rfl, rfl⟩) (by assumption) ?_
      simp only [Act.put, List.setIfInBounds_toArray, List.set_cons_zero, List.set_cons_succ, List.getElem_toArray, List.getElem_cons_succ, List.getElem_cons_zero]
      refine wpAnyH_take (i := 23) (v := undef) rfl (by kernel_rfl) (by kernel_rfl) (by kernel_rfl) (fun _ _ _ h => h) (Or.inr ⟨by rfl, rfl⟩) (by assumption) ?_
      simp only [Act.put, List.setIfInBounds_toArray, List.set_cons_zero, List.set_cons_succ, List.getElem_toArray, List.getElem_cons_succ, List.getElem_cons_zero]
      refine wpAnyH_take (i := 24) (v := undef) rfl (by kernel_rfl) (by kernel_rfl) (by kernel_rfl) (fun _ _ _ h => h) (Or.inr ⟨by rfl, rfl⟩) (by assumption) ?_
      simp only [Act.put, List.setIfInBounds_toArray, List.set_cons_zero, List.set_cons_succ, List.getElem_toArray, List.getElem_cons_succ, List.getElem_cons_zero]
      refine wpAnyH_take (i := 25) (v := undef) rfl (by kernel_rfl) (by kernel_rfl) (by kernel_rfl) (fun _ _ _ h => h) (Or.inr ⟨by rfl, rfl⟩) (by assumption) ?_
      simp only [Act.put, List.setIfInBounds_toArray, List.set_cons_zero, List.set_cons_succ, List.getElem_toArray, List.getElem_cons_succ, List.getElem_cons_zero]
      refine wpAnyH_take (i := 26) (v := undef) rfl (by kernel_rfl) (by kernel_rfl) (by kernel_rfl) (fun _ _ _ h => h) (Or.inr ⟨by rfl, rfl⟩) (by assumption) ?_
      simp only [Act.put, List.setIfInBounds_toArray, List.set_cons_zero, List.set_cons_succ, List.getElem_toArray, List.getElem_cons_succ, List.getElem_cons_zero]
      refine wpAnyH_take (i := 27) (v := undef) rfl (by kernel_rfl) (by kernel_rfl) (by kernel_rfl) (fun _ _ _ h => h) (Or.inr ⟨by rfl, rfl⟩) (by assumption) ?_
      simp only [Act.put, List.setIfInBounds_toArray, List.set_cons_zero, List.set_cons_succ, List.getElem_toArray, List.getElem_cons_succ, List.getElem_cons_zero]
      refine wpAnyH_take (i := 28) (v := .bool true) rfl (by kernel_rfl) (by kernel_rfl) (by kernel_rfl) (fun _ _ _ h => h) (Or.inl ⟨by rfl, ?_⟩) (by assumption) ?_
      · intro w hSw
        go_simp
      simp only [Act.put, List.setIfInBounds_toArray, List.set_cons_zero, List.set_cons_succ, List.getElem_toArray, List.getElem_cons_succ, List.getElem_cons_zero]
      refine wpAnyH_done (by kernel_rfl) ?_ _
      have HB1 := Lib.hid (HBW2.out.later hb1)
      clear hb1
      go_wp2_with fail
      go_ret
      exact ⟨ret_bool HE.out.symm, HB1.out⟩
    · by_cases hk0 : k = 0
      · have HE : Hid (R = allFrom (treeAt fs) (k + 1) (n - (k + 1))) := by unfold Hid; rw [hS.out, HStep.out, HA0.out, decide_eq_true hk0]; rfl
        have hd0 : decide ((0 : Int) < (k : Int)) = false := by simp; omega
        have hd0n : decide (0 < k) = false := by simp; omega
        clear HC hk0
        go_wp2_with fail
        refine wp_region_held_drew (S := fun w' => w'.cell? ⟨wr.heap.size, 0, none⟩ = some (.string d.name) ∧ w'.cell? ⟨wr.heap.size, 1, none⟩ = some (.slice A1 n1 cap1) ∧ w'.cell? ⟨wr.heap.size, 2, none⟩ = some (.string d.val)) (by kernel_rfl) ⟨q5, q6, q7⟩ (fun hHeld => ?_)
        refine wpAnyH_take (i := 0) (v := .agg #[.string d.name, .slice A1 n1 cap1, .string d.val]) rfl (by kernel_rfl) (by kernel_rfl) (by kernel_rfl) (fun _ _ _ h => h) (Or.inl ⟨by rfl, ?_⟩) (by assumption) ?_
        · intro w hSw
          go_simp
        simp only [Act.put, List.setIfInBounds_toArray, List.set_cons_zero, List.set_cons_succ, List.getElem_toArray, List.getElem_cons_zero]
        refine wpAnyH_ready (rs := [1]) (by kernel_rfl) (by simp) ?_
        refine AllReadyH.cons rfl (fun K hK => ?_) AllReadyH.nil
        go_simp
        refine (HKN.out _ (by exact HWW.out.drew)).mono ?_
        rintro e w1 ⟨rfl, hb1'⟩
        have hb1 := undrew hb1'
        clear hb1'
        dsimp only
        refine hK.out _ _ ?_ (fun hHeld2 => ?_)
        · exact ⟨cell_later hb1 q5, cell_later hb1 q6, cell_later hb1 q7⟩
        clear hK K
        refine wpAnyH_take (i := 2) (v := .bool false) rfl (by kernel_rfl) (by kernel_rfl) (by kernel_rfl) (fun _ _ _ h => h) (Or.inl ⟨by rfl, ?_⟩) (by assumption) ?_
        · intro w hSw
          go_simp
        simp only [Act.put, List.setIfInBounds_toArray, List.set_cons_zero, List.set_cons_succ, List.getElem_toArray, List.getElem_cons_succ, List.getElem_cons_zero]
        refine wpAnyH_take (i := 3) (v := .bool false) rfl (by kernel_rfl) (by kernel_rfl) (by kernel_rfl) (fun _ _ _ h => h) (Or.inl ⟨by rfl, ?_⟩) (by assumption) ?_
        · intro w hSw
          go_simp
        simp only [Act.put, List.setIfInBounds_toArray, List.set_cons_zero, List.set_cons_succ, List.getElem_toArray, List.getElem_cons_succ, List.getElem_cons_zero]
        refine wpAnyH_take (i := 4) (v := .int .i64 k) rfl (by kernel_rfl) (by kernel_rfl) (by kernel_rfl) (fun _ _ _ h => h) (Or.inl ⟨by rfl, ?_⟩) (by assumption) ?_
        · intro w hSw
          go_simp
        simp only [Act.put, List.setIfInBounds_toArray, List.set_cons_zero, List.set_cons_succ, List.getElem_toArray, List.getElem_cons_succ, List.getElem_cons_zero]
        refine wpAnyH_take (i := 5) (v := .bool false) rfl (by kernel_rfl) (by kernel_rfl) (by kernel_rfl) (fun _ _ _ h => h) (Or.inl ⟨by rfl, ?_⟩) (by assumption) ?_
        · intro w hSw
          go_simp
        simp only [Act.put, List.setIfInBounds_toArray, List.set_cons_zero, List.set_cons_succ, List.getElem_toArray, List.getElem_cons_succ, List.getElem_cons_zero]
        refine wpAnyH_take (i := 6) (v := .bool false) rfl (by kernel_rfl) (by kernel_rfl) (by kernel_rfl) (fun _ _ _ h => h) (Or.inl ⟨by rfl, ?_⟩) (by assumption) ?_
        · intro w hSw
          go_simp
        simp only [Act.put, List.setIfInBounds_toArray, List.set_cons_zero, List.set_cons_succ, List.getElem_toArray, List.getElem_cons_succ, List.getElem_cons_zero]
        refine wpAnyH_take (i := 7) (v := undef) rfl (by kernel_rfl) (by kernel_rfl) (by kernel_rfl) (fun _ _ _ h => h) (Or.inr ⟨by rfl, rfl⟩) (by assumption) ?_
        simp only [Act.put, List.setIfInBounds_toArray, List.set_cons_zero, List.set_cons_succ, List.getElem_toArray, List.getElem_cons_succ, List.getElem_cons_zero]
        refine wpAnyH_take (i := 8) (v := undef) rfl (by kernel_rfl) (by kernel_rfl) (by kernel_rfl) (fun _ _ _ h => h) (Or.inr ⟨by rfl, rfl⟩) (by assumption) ?_
        simp only [Act.put, List.setIfInBounds_toArray, List.set_cons_zero, List.set_cons_succ, List.getElem_toArray, List.getElem_cons_succ, List.getElem_cons_zero]
        refine wpAnyH_take (i := 9) (v := undef) rfl (by kernel_rfl) (by kernel_rfl) (by kernel_rfl) (fun _ _ _ h => h) (Or.inr ⟨by rfl, rfl⟩) (by assumption) ?_
        simp only [Act.put, List.setIfInBounds_toArray, List.set_cons_zero, List.set_cons_succ, List.getElem_toArray, List.getElem_cons_succ, List.getElem_cons_zero]
        refine wpAnyH_take (i := 10) (v := undef) rfl (by kernel_rfl) (by kernel_rfl) (by kernel_rfl) (fun _ _ _ h => h) (Or.inr ⟨by rfl, rfl⟩) (by assumption) ?_
        simp only [Act.put, List.setIfInBounds_toArray, List.set_cons_zero, List.set_cons_succ, List.getElem_toArray, List.getElem_cons_succ, List.getElem_cons_zero]
        refine wpAnyH_take (i := 11) (v := undef) rfl (by kernel_rfl) (by kernel_rfl) (by kernel_rfl) (fun _ _ _ h => h) (Or.inr ⟨by rfl, rfl⟩) (by assumption) ?_
        simp only [Act.put, List.setIfInBounds_toArray, List.set_cons_zero, List.set_cons_succ, List.getElem_toArray, List.getElem_cons_succ, List.getElem_cons_zero]
        refine wpAnyH_take (i := 12) (v := undef) rfl (by kernel_rfl) (by kernel_rfl) (by kernel_rfl) (fun _ _ _ h => h) (Or.inr ⟨by rfl, rfl⟩) (by assumption) ?_
        simp only [Act.put, List.setIfInBounds_toArray, List.set_cons_zero, List.set_cons_succ, List.getElem_toArray, List.getElem_cons_succ, List.getElem_cons_zero]
        refine wpAnyH_take (i := 13) (v := undef) rfl (by kernel_rfl) (by kernel_rfl) (by kernel_rfl) (fun _ _ _ h => h) (Or.inr ⟨by rfl, rfl⟩) (by assumption) ?_
        simp only [Act.put, List.setIfInBounds_toArray, List.set_cons_zero, List.set_cons_succ, List.getElem_toArray, List.getElem_cons_succ, List.getElem_cons_zero]
        refine wpAnyH_take (i := 14) (v := undef) rfl (by kernel_rfl) (by kernel_rfl) (by kernel_rfl) (fun _ _ _ h => h) (Or.inr ⟨by rfl, rfl⟩) (by assumption) ?_
        simp only [Act.put, List.setIfInBounds_toArray, List.set_cons_zero, List.set_cons_succ, List.getElem_toArray, List.getElem_cons_succ, List.getElem_cons_zero]
        refine wpAnyH_take (i := 15) (v := undef) rfl (by kernel_rfl) (by kernel_rfl) (by kernel_rfl) (fun _ _ _ h => h) (Or.inr ⟨by rfl, rfl⟩) (by assumption) ?_
        simp only [Act.put, List.setIfInBounds_toArray, List.set_cons_zero, List.set_cons_succ, List.getElem_toArray, List.getElem_cons_succ, List.getElem_cons_zero]
        refine wpAnyH_take (i := 16) (v := undef) rfl (by kernel_rfl) (by kernel_rfl) (by kernel_rfl) (fun _ _ _ h => h) (Or.inr ⟨by rfl, rfl⟩) (by assumption) ?_
        simp only [Act.put, List.setIfInBounds_toArray, List.set_cons_zero, List.set_cons_succ, List.getElem_toArray, List.getElem_cons_succ, List.getElem_cons_zero]
        refine wpAnyH_take (i := 17) (v := undef) rfl (by kernel_rfl) (by kernel_rfl) (by kernel_rfl) (fun _ _ _ h => h) (Or.inr ⟨by rfl, rfl⟩) (by assumption) ?_
        simp only [Act.put, List.setIfInBounds_toArray, List.set_cons_zero, List.set_cons_succ, List.getElem_toArray, List.getElem_cons_succ, List.getElem_cons_zero]
        refine wpAnyH_take (i := 18) (v := undef) rfl (by kernel_rfl) (by kernel_rfl) (by kernel_rfl) (fun _ _ _ h => h) (Or.inr ⟨by rfl, rfl⟩) (by assumption) ?_
        simp only [Act.put, List.setIfInBounds_toArray, List.set_cons_zero, List.set_cons_succ, List.getElem_toArray, List.getElem_cons_succ, List.getElem_cons_zero]
        refine wpAnyH_take (i := 19) (v := undef) rfl (by kernel_rfl) (by kernel_rfl) (by kernel_rfl) (fun _ _ _ h => h) (Or.inr ⟨by rfl, rfl⟩) (by assumption) ?_
        simp only [Act.put, List.setIfInBounds_toArray, List.set_cons_zero, List.set_cons_succ, List.getElem_toArray, List.getElem_cons_succ, List.getElem_cons_zero]
        refine wpAnyH_take (i := 20) (v := undef) rfl (by kernel_rfl) (by kernel_rfl) (by kernel_rfl) (fun _ _ _ h => h) (Or.inr ⟨by rfl, rfl⟩) (by assumption) ?_
        simp only [Act.put, List.setIfInBounds_toArray, List.set_cons_zero, List.set_cons_succ, List.getElem_toArray, List.getElem_cons_succ, List.getElem_cons_zero]
        refine wpAnyH_take (i := 21) (v := undef) rfl (by kernel_rfl) (by kernel_rfl) (by kernel_rfl) (fun _ _ _ h => h) (Or.inr ⟨by rfl, rfl⟩) (by assumption) ?_
        simp only [Act.put, List.setIfInBounds_toArray, List.set_cons_zero, List.set_cons_succ, List.getElem_toArray, List.getElem_cons_succ, List.getElem_cons_zero]
        refine wpAnyH_take (i := 22) (v := undef) rfl (by kernel_rfl) (by kernel_rfl) (by kernel_rfl) (fun _ _ _ h => h) (Or.inr ⟨by rfl, rfl⟩) (by assumption) ?_
        simp only [Act.put, List.setIfInBounds_toArray, List.set_cons_zero, List.set_cons_succ, List.getElem_toArray, List.getElem_cons_succ, List.getElem_cons_zero]
        refine wpAnyH_take (i := 23) (v := undef) rfl (by kernel_rfl) (by kernel_rfl) (by kernel_rfl) (fun _ _ _ h => h) (Or.inr ⟨by rfl, rfl⟩) (by assumption) ?_
        simp only [Act.put, List.setIfInBounds_toArray, List.set_cons_zero, List.set_cons_succ, List.getElem_toArray, List.getElem_cons_succ, List.getElem_cons_zero]
        refine wpAnyH_take (i := 24) (v := undef) rfl (by kernel_rfl) (by kernel_rfl) (by kernel_rfl) (fun _ _ _ h => h) (Or.inr ⟨by rfl, rfl⟩) (by assumption) ?_
        simp only [Act.put, List.setIfInBounds_toArray, List.set_cons_zero, List.set_cons_succ, List.getElem_toArray, List.getElem_cons_succ, List.getElem_cons_zero]
        refine wpAnyH_take (i := 25) (v := undef) rfl (by kernel_rfl) (by kernel_rfl) (by kernel_rfl) (fun _ _ _ h => h) (Or.inr ⟨by rfl, rfl⟩) (by assumption) ?_
        simp only [Act.put, List.setIfInBounds_toArray, List.set_cons_zero, List.set_cons_succ, List.getElem_toArray, List.getElem_cons_succ, List.getElem_cons_zero]
        refine wpAnyH_take (i := 26) (v := undef) rfl (by kernel_rfl) (by kernel_rfl) (by kernel_rfl) (fun _ _ _ h => h) (Or.inr ⟨by rfl, rfl⟩) (by assumption) ?_
        simp only [Act.put, List.setIfInBounds_toArray, List.set_cons_zero, List.set_cons_succ, List.getElem_toArray, List.getElem_cons_succ, List.getElem_cons_zero]
        refine wpAnyH_take (i := 27) (v := .bool false) rfl (by kernel_rfl) (by kernel_rfl) (by kernel_rfl) (fun _ _ _ h => h) (Or.inl ⟨by rfl, ?_⟩) (by assumption) ?_
        · intro w hSw
          go_simp
        simp only [Act.put, List.setIfInBounds_toArray, List.set_cons_zero, List.set_cons_succ, List.getElem_toArray, List.getElem_cons_succ, List.getElem_cons_zero]
        refine wpAnyH_take (i := 28) (v := .bool false) rfl (by kernel_rfl) (by kernel_rfl) (by kernel_rfl) (fun _ _ _ h => h) (Or.inl ⟨by rfl, ?_⟩) (by assumption) ?_
        · intro w hSw
          go_simp
        simp only [Act.put, List.setIfInBounds_toArray, List.set_cons_zero, List.set_cons_succ, List.getElem_toArray, List.getElem_cons_succ, List.getElem_cons_zero]
        refine wpAnyH_done (by kernel_rfl) ?_ _
        have HB1 := Lib.hid (HB.out.trans ((Below.new wr _).trans (hb1.mono (by simp)) |>.mono (by omega)))
        clear hb1
        go_wp2_with fail
        go_roundw
        case rel => exact ⟨k + 1, by omega, by go_num, HB1.out, HE.out⟩
        case measure => simp [intOf]; omega
      · obtain ⟨kp, hkp⟩ : ∃ kp, k = kp + 1 := ⟨k - 1, by omega⟩
        have i1 : (0 : Int) < (k : Int) := by omega
        have i1n : 0 < k := by omega
        have i1d : decide (0 < k) = true := by simp; omega
        have i2 : (k : Int) - 1 = (kp : Int) := by omega
        have hkb : (kp : Int) < n := by omega
        have hkpn : kp < n := by omega
        obtain ⟨t0, t1, t2, l0, l1, l2, hrp⟩ := HC.out kp (by omega)
        have hsp := Hs.out.2 _ (getD_memD fs kp (by rw [Hlen.out]; omega))
        have hdk : decide (k = 0) = false := by simpa using hk0
        rw [show k - 1 = kp from by omega, hdk, Bool.false_or] at HA0
        generalize fs.getD kp default = f at *
        obtain ⟨f0, ⟨A3, n3, cap3, f1, hs3, _⟩, f2⟩ := hrp
        subst f0 f1 f2
        have hn3 : n3 ≤ 1048576 := by rw [← hs3.1]; exact hsp.2.1.1
        have hn1 : n1 ≤ 1048576 := by rw [← HS1.out.1]; exact HSM.out.2.1.1
        have HKL := Lib.hid (fun W (hW : Below wr.heap.size wr W) => l03Less_any f.name d.name A3 A1 n3 cap3 n1 cap1 f.subs d.subs W (hs3.later hW) (HS1.out.later hW) hn3 hn1 hsp.2.1.2 HSM.out.2.1.2)
        have HOr : Hid (stepB f d = aheadB f.name f.subs d.name d.subs) := rfl
        clear hs3 hsp hk0 hdk HC
        generalize aheadB f.name f.subs d.name d.subs = y at *
        have q2 := cell_later HWW.out l0
        have q3 := cell_later HWW.out l1
        clear l0 l1 l2 hkp
        go_wp2_with fail
        have hw1 : IntKind.i64.wrap (kp : Int) = (kp : Int) := IntWalk.i64_in _ (by omega)
        have hw2 : (0 : Int) ≤ (kp : Int) := by omega
        have hw3 : ((kp : Int)).toNat = kp := by omega
        go_region_held3 (fun w' => w'.cell? ⟨w.heap.size, 0, none⟩ = some (.slice (some ⟨bb, o, none⟩) n c) ∧ w'.cell? ⟨bb, o + kp * 3, none⟩ = some (.string f.name) ∧ w'.cell? ⟨bb, o + kp * 3 + 1, none⟩ = some (.slice A3 n3 cap3) ∧ w'.cell? ⟨wr.heap.size, 0, none⟩ = some (.string d.name) ∧ w'.cell? ⟨wr.heap.size, 1, none⟩ = some (.slice A1 n1 cap1) ∧ w'.cell? ⟨wr.heap.size, 2, none⟩ = some (.string d.val))
         (first | exact ⟨q1, q2, q3, q5, q6, q7⟩ | exact ⟨cell_later hb1 q1, cell_later hb1 q2, cell_later hb1 q3, cell_later hb1 q5, cell_later hb1 q6, cell_later hb1 q7⟩ | exact ⟨cell_later hb2 q1, cell_later hb2 q2, cell_later hb2 q3, cell_later hb2 q5, cell_later hb2 q6, cell_later hb2 q7⟩)
         (first
           | (go_at_call 96; refine (HKN.out _ (by exact HWW.out.drew)).mono ?_; rintro e w1 ⟨rfl, hb1'⟩; have hb1 := undrew hb1'; clear hb1')
           | (go_at_call 97; refine (HKL.out _ (by exact HWW.out.later hb1)).mono ?_; rintro e w2 ⟨rfl, hb2'⟩; have hb2 := hb1.later hb2'; clear hb2'))
        clear hw1 hw2 hw3 q1 q2 q3 q5 q6 q7
        have HBL := Lib.hid hb2
        clear hb1 hb2
        cases y
        · have HE : Hid (R = false) := by unfold Hid; rw [hS.out, HStep.out, HA0.out, HOr.out]; rfl
          go_wp2_with fail
          go_ret
          exact ⟨ret_bool HE.out.symm, HBW2.out.later HBL.out⟩
        · have HE : Hid (R = allFrom (treeAt fs) (k + 1) (n - (k + 1))) := by unfold Hid; rw [hS.out, HStep.out, HA0.out, HOr.out]; rfl
          have HB1 := Lib.hid (HB.out.trans ((Below.new wr _).trans (HBL.out.mono (by simp)) |>.mono (by omega)))
          go_wp2_with fail
          go_roundw
          case rel => exact ⟨k + 1, by omega, by go_num, HB1.out, HE.out⟩
          case measure => simp [intOf]; omega
  · have HE : Hid (R = true) := by unfold Hid; rw [hS.out, allFrom_end _ _ _ hlt]
    go_wp2_with fail
    go_ret
    exact ⟨ret_bool HE.out.symm, HBw.out⟩
end Go.Proofs.YtlicffeicmoifaaGreatDoor
