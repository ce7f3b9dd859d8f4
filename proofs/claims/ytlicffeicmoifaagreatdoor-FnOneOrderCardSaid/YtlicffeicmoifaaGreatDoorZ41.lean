import Derived.Deep.RegionHeld3
set_option linter.unusedSimpArgs false
namespace Go.Proofs.YtlicffeicmoifaaGreatDoor
open Go
set_option linter.unusedVariables false
section
variable {P : Program} {ops : Array Oper} {Q : Exit → Act → World → Prop} {md : Region.Mode} {S : World → Prop} {z : Nat}
def wpEnd (P : Program) (md : Region.Mode) (ops : Array Oper) (Q : Exit → Act → World → Prop) (S : World → Prop) (z : Nat) : Nat → Array Bool → Act → World → Prop
 | 0, listed, a, w => Region.ready md ops listed = [] ∧ Q .normal a w
 | fuel + 1, listed, a, w =>
   (Region.ready md ops listed = [] → Q .normal a w) ∧
   ∀ i ∈ Region.ready md ops listed, wpOp P ops Q i (fun a' w' => (i ≠ z → S w') ∧ wpEnd P md ops Q S z fuel (listed.setIfInBounds i true) a' w') a w
theorem wpEnd_any : ∀ (fuel : Nat) (listed : Array Bool) (a : Act) (w : World), wpEnd P md ops Q S z fuel listed a w → wpAny P md ops Q fuel listed a w
 | 0, _, _, _, h => h
 | fuel + 1, _, _, _, h => ⟨h.1, fun i hi => wpOp_mono (fun a' w' h' => wpEnd_any fuel _ a' w' h'.2) (h.2 i hi)⟩
def closedL (md : Region.Mode) (ops : Array Oper) (listed : Array Bool) : Prop := ∀ k ok, ops[k]? = some ok → listed.getD k true = true → ∀ e ∈ ok.after, Region.binds md e = true → listed.getD e.on false = true
theorem closed_step {listed : Array Bool} {j : Nat} (h : closedL md ops listed) (hj : j ∈ Region.ready md ops listed) : closedL md ops (listed.setIfInBounds j true) := fun k ok hk hl e he hb => by
 by_cases hjk : j = k
 · subst hjk
   obtain ⟨_, o, ho, hall⟩ := mem_ready.1 hj
   rw [hk] at ho
   cases ho
   exact getD_set_true (hall e he hb)
 · rw [getD_set_ne true hjk] at hl
   exact getD_set_true (h k ok hk hl e he hb)
def pathB (md : Region.Mode) (ops : Array Oper) : List Nat → Bool
 | a :: b :: r => ((ops[a]?).map fun o => o.after.any fun e => Region.binds md e && e.on == b).getD false && pathB md ops (b :: r)
 | _ => true
theorem path_one {a b : Nat} {o : Oper} (ho : ops[a]? = some o) (h : (((ops[a]?).map fun o => o.after.any fun e => Region.binds md e && e.on == b).getD false) = true) : ∃ e ∈ o.after, Region.binds md e = true ∧ e.on = b := by
 rw [ho] at h
 simp only [Option.map_some, Option.getD_some] at h
 obtain ⟨e, he, hb⟩ := Array.any_eq_true'.1 h
 simp only [Bool.and_eq_true, beq_iff_eq] at hb
 exact ⟨e, he, hb.1, hb.2⟩
theorem getD_two {listed : Array Bool} {k : Nat} (h : listed.getD k false = true) : listed.getD k true = true := by
 rcases Nat.lt_or_ge k listed.size with h' | h'
 · simpa [h'] using h
 · simp [Array.getElem?_eq_none h'] at h
theorem path_listed {listed : Array Bool} (hc : closedL md ops listed) : ∀ (l : List Nat) (a i : Nat), listed.getD a true = true → (∃ o, ops[a]? = some o) → pathB md ops (a :: (l ++ [i])) = true → (∀ k ∈ l, ∃ o, ops[k]? = some o) → listed.getD i false = true
 | [], a, i, ha, ⟨o, ho⟩, h, _ => by
   simp only [List.nil_append, pathB, Bool.and_true] at h
   obtain ⟨e, he, hb, rfl⟩ := path_one ho h
   exact hc a o ho ha e he hb
 | b :: l, a, i, ha, ⟨o, ho⟩, h, hl => by
   rw [List.cons_append, pathB, Bool.and_eq_true] at h
   obtain ⟨e, he, hb, rfl⟩ := path_one ho h.1
   exact path_listed hc l e.on i (getD_two (hc a o ho ha e he hb)) (hl _ (List.mem_cons_self ..)) h.2 (fun k hk => hl k (List.mem_cons_of_mem _ hk))
theorem path_ready {listed : Array Bool} (hc : closedL md ops listed) {b i : Nat} (l : List Nat) (hz : z ∈ Region.ready md ops listed) (h : pathB md ops (z :: (l ++ [i])) = true) (hl : ∀ k ∈ l, ∃ o, ops[k]? = some o) : listed.getD i false = true := by
 obtain ⟨_, o, ho, hall⟩ := mem_ready.1 hz
 match l, h, hl with
 | [], h, _ =>
   simp only [List.nil_append, pathB, Bool.and_true] at h
   obtain ⟨e, he, hb, rfl⟩ := path_one ho h
   exact hall e he hb
 | b :: l, h, hl =>
   rw [List.cons_append, pathB, Bool.and_eq_true] at h
   obtain ⟨e, he, hb, rfl⟩ := path_one ho h.1
   exact path_listed hc l e.on i (getD_two (hall e he hb)) (hl _ (List.mem_cons_self ..)) h.2 (fun k hk => hl k (List.mem_cons_of_mem _ hk))
theorem wpEnd_first {i : Nat} {oi : Oper} {v : Value} (l : List Nat) (hp : pathB md ops (z :: (l ++ [i])) = true) (hl : ∀ k ∈ l, ∃ o, ops[k]? = some o)
 (hi : ops[i]? = some oi) (hsel : ∀ (j : Nat) (o : Oper) cs b, ops[j]? = some o → o.op ≠ .select cs b)
 (hQ : ∀ c a w, Q (.panic c) (a.put oi.dst v) w → Q (.panic c) a w) :
 ∀ (fuel : Nat) (listed : Array Bool) (a : Act) (w : World),
  (∀ j oj, ops[j]? = some oj → j ≠ i → listed.getD j true = false → (∀ e ∈ oj.after, Region.binds md e = true → e.on ≠ i) → oi.apart ops oj = true) →
  i ∈ Region.ready md ops listed → closedL md ops listed → YieldsIf P ops S oi v a → S w →
  wpEnd P md ops Q S z fuel (listed.setIfInBounds i true) (a.put oi.dst v) w → wpEnd P md ops Q S z (fuel + 1) listed a w := by
 have hno : ∀ listed : Array Bool, listed.getD i true = false → listed.getD i false = true → False := fun listed h1 h2 => by
  rw [getD_two h2] at h1
  cases h1
 intro fuel
 induction fuel with
 | zero =>
   intro listed a w _ hr hc hy hS H
   refine ⟨fun h => (by rw [h] at hr; cases hr), fun j hj => ?_⟩
   by_cases hji : j = i
   · subst hji; exact hy.wpOp hi hS ⟨fun _ => hS, H⟩
   · have := ready_mono hj hji
     rw [H.1] at this
     cases this
 | succ fuel ih =>
   intro listed a w hfree hr hc hy hS H
   refine ⟨fun h => (by rw [h] at hr; cases hr), fun j hj => ?_⟩
   by_cases hji : j = i
   · subst hji; exact hy.wpOp hi hS ⟨fun _ => hS, H⟩
   · have hjz : j ≠ z := fun e => by
      subst e
      exact hno listed (mem_ready.1 hr).1 (path_ready (b := 0) hc l hj hp hl)
     obtain ⟨hjun, oj, hoj, hall⟩ := mem_ready.1 hj
     have hnot : ∀ e ∈ oj.after, Region.binds md e = true → e.on ≠ i := fun e he hb heq => by
      have h1 := hall e he hb
      rw [heq] at h1
      exact hno listed (mem_ready.1 hr).1 h1
     have h2 := wpOp_putIf hoj (hfree j oj hoj hji hjun hnot) (fun cs b => hsel i oi cs b hi) (fun cs b => hsel j oj cs b hoj) hQ hy (H.2 j (ready_mono hj hji))
     refine wpOp_mono (fun a' w' h3 => ?_) h2
     obtain ⟨hy', hS', hW⟩ := h3
     rw [Array.setIfInBounds_comm _ _ (Ne.symm hji)] at hW
     exact ⟨fun _ => hS' hjz, ih (listed.setIfInBounds j true) a' w' (fun k ok hk hki hun hno' => by
      refine hfree k ok hk hki ?_ hno'
      by_cases hjk : j = k
      · subst hjk; exact hjun
      · rw [getD_set_ne true hjk] at hun; exact hun) (ready_mono hr (Ne.symm hji)) (closed_step hc hj) hy' (hS' hjz) hW⟩
def closedB (md : Region.Mode) (ops : Array Oper) (listed : Array Bool) : Bool := (List.range ops.size).all fun k => !listed.getD k true || ((ops[k]?).map fun o => o.after.all fun e => !Region.binds md e || listed.getD e.on false).getD true
theorem closed_of {listed : Array Bool} (h : closedB md ops listed = true) : closedL md ops listed := fun k ok hk hl e he hb => by
 unfold closedB at h
 rw [List.all_eq_true] at h
 have h1 := h k (List.mem_range.2 (Array.getElem?_eq_some_iff.1 hk).1)
 rw [hk, hl] at h1
 simp only [Bool.not_true, Bool.false_or, Option.map_some, Option.getD_some] at h1
 have h2 := Array.all_eq_true_iff_forall_mem.1 h1 e he
 rw [hb] at h2
 simpa using h2
def thereB (ops : Array Oper) (l : List Nat) : Bool := l.all fun k => decide (k < ops.size)
theorem wpEnd_take {i : Nat} {oi : Oper} {v : Value} {fuel : Nat} {listed : Array Bool} {a : Act} {w : World} (l : List Nat) (hp : (pathB md ops (z :: (l ++ [i])) && thereB ops l && closedB md ops listed) = true) (hi : ops[i]? = some oi)
 (hs : Region.noSelect ops = true) (hf : Region.free md ops listed i = true) (hr : (Region.ready md ops listed).contains i = true)
 (hQ : ∀ c a w, Q (.panic c) (a.put oi.dst v) w → Q (.panic c) a w) (hy : YieldsIf P ops S oi v a) (hS : S w)
 (h : wpEnd P md ops Q S z fuel (listed.setIfInBounds i true) (a.put oi.dst v) w) : wpEnd P md ops Q S z (fuel + 1) listed a w := by
 rw [Bool.and_eq_true, Bool.and_eq_true] at hp
 refine wpEnd_first l hp.1.1 (fun k hk => ?_) hi (Region.noSelect_spec hs) hQ fuel listed a w (Region.free_spec hi hf) (by simpa using hr) (closed_of hp.2) hy hS h
 have h1 := List.all_eq_true.1 hp.1.2 k hk
 exact ⟨ops[k]'(of_decide_eq_true h1), Array.getElem?_eq_getElem _⟩
theorem wpEnd_done {listed : Array Bool} {a : Act} {w : World} (hr : Region.ready md ops listed = []) (h : Q .normal a w) : ∀ fuel, wpEnd P md ops Q S z fuel listed a w
 | 0 => ⟨hr, h⟩
 | _ + 1 => ⟨fun _ => h, by rw [hr]; simp⟩
def AllReadyE (P : Program) (md : Region.Mode) (ops : Array Oper) (Q : Exit → Act → World → Prop) (S : World → Prop) (z fuel : Nat) (listed : Array Bool) (a : Act) (w : World) (rs : List Nat) : Prop :=
 ∀ i ∈ rs, wpOp P ops Q i (fun a' w' => (i ≠ z → S w') ∧ wpEnd P md ops Q S z fuel (listed.setIfInBounds i true) a' w') a w
theorem AllReadyE.nil {fuel : Nat} {listed : Array Bool} {a : Act} {w : World} : AllReadyE P md ops Q S z fuel listed a w [] := fun _ h => by cases h
theorem AllReadyE.cons {fuel : Nat} {listed : Array Bool} {a : Act} {w : World} {i : Nat} {o : Oper} {rs : List Nat} (ho : ops[i]? = some o)
 (h : ∀ K' : Act → World → Prop, Shut (∀ a w, (i ≠ z → S w) → ((i ≠ z → S w) → wpEnd P md ops Q S z fuel (listed.setIfInBounds i true) a w) → K' a w) → if Region.wanted o (yielded ops a.tmps) = true then Oper.wp P o a w K' Q else K' (a.put o.dst undef) w)
 (hs : AllReadyE P md ops Q S z fuel listed a w rs) : AllReadyE P md ops Q S z fuel listed a w (i :: rs) := fun j hj => by
 rcases List.mem_cons.1 hj with rfl | hj
 · exact wpOp_step ho (fun K' hK => h K' (fun a w hS hW => hK a w ⟨hS, hW hS⟩))
 · exact hs j hj
theorem wpEnd_ready {rs : List Nat} {fuel : Nat} {listed : Array Bool} {a : Act} {w : World} (hr : Region.ready md ops listed = rs) (hne : rs ≠ [])
 (h : AllReadyE P md ops Q S z fuel listed a w rs) : wpEnd P md ops Q S z (fuel + 1) listed a w := ⟨fun h0 => absurd (hr ▸ h0) hne, hr ▸ h⟩
theorem wpEnd_begin {id : Nat} {a : Act} {w : World} (z : Nat) (hm : P.follows .mixedOrders = true) (hS : S w.drew)
 (h : S w.drew → wpEnd P .any ops Q S z ops.size (Array.replicate ops.size false) a w.drew) : (Code.region id ops true).wp P Q a w :=
 wp_region_any hm (wpEnd_any _ _ _ _ (h hS))
end
end Go.Proofs.YtlicffeicmoifaaGreatDoor
namespace Go.Proofs.YtlicffeicmoifaaGreatDoor
open Go
set_option linter.unusedVariables false
section
variable {P : Program} {ops : Array Oper} {Q : Exit → Act → World → Prop} {md : Region.Mode} {S : World → Prop} {z : Nat}
theorem wt (i : Nat) (v : Value) {oi : Oper} {fuel : Nat} {listed : Array Bool} {a : Act} {w : World} (l : List Nat) (hv : ∀ w, S w → (execOp a.eval oi).run P w = .ok (.value v) w)
 (h : wpEnd P md ops Q S z fuel (listed.setIfInBounds i true) (a.put oi.dst v) w) (hi : ops[i]? = some oi := by rfl)
 (hb : ((pathB md ops (z :: (l ++ [i])) && thereB ops l && closedB md ops listed) && (Region.noSelect ops && (Region.free md ops listed i && (Region.ready md ops listed).contains i))) = true := by kernel_rfl)
 (hw : Region.wanted oi (yielded ops a.tmps) = true := by rfl) (hQ : ∀ c a w, Q (.panic c) (a.put oi.dst v) w → Q (.panic c) a w := by exact fun _ _ _ h => h) (hS : S w := by assumption) : wpEnd P md ops Q S z (fuel + 1) listed a w := by
 simp only [Bool.and_eq_true] at hb
 exact wpEnd_take l (by simp only [Bool.and_eq_true]; exact hb.1) hi hb.2.1 hb.2.2.1 hb.2.2.2 hQ (Or.inl ⟨hw, hv⟩) hS h
theorem wu (i : Nat) {oi : Oper} {fuel : Nat} {listed : Array Bool} {a : Act} {w : World} (l : List Nat)
 (h : wpEnd P md ops Q S z fuel (listed.setIfInBounds i true) (a.put oi.dst undef) w) (hi : ops[i]? = some oi := by rfl)
 (hb : ((pathB md ops (z :: (l ++ [i])) && thereB ops l && closedB md ops listed) && (Region.noSelect ops && (Region.free md ops listed i && (Region.ready md ops listed).contains i))) = true := by kernel_rfl)
 (hw : Region.wanted oi (yielded ops a.tmps) = false := by rfl) (hQ : ∀ c a w, Q (.panic c) (a.put oi.dst undef) w → Q (.panic c) a w := by exact fun _ _ _ h => h) (hS : S w := by assumption) : wpEnd P md ops Q S z (fuel + 1) listed a w := by
 simp only [Bool.and_eq_true] at hb
 exact wpEnd_take l (by simp only [Bool.and_eq_true]; exact hb.1) hi hb.2.1 hb.2.2.1 hb.2.2.2 hQ (Or.inr ⟨hw, rfl⟩) hS h
end
end Go.Proofs.YtlicffeicmoifaaGreatDoor
