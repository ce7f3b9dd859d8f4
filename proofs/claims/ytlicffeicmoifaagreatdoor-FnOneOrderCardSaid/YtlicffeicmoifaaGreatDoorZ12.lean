import Derived.Test.YtlicffeicmoifaaGreatDoorZ11
set_option linter.unusedSimpArgs false
namespace Go.Proofs.YtlicffeicmoifaaGreatDoor
open Go.RowKit
set_option linter.unusedVariables false
set_option linter.unusedSimpArgs false
def areaB (e : EvD) : List ByteArray := if e.kind = 5 then e.subs.take (e.subs.length - 1) else if e.kind = 6 then [] else e.subs
noncomputable def confB (a b : EvD) : Bool := noteB a && (noteB b && ((turnsB a || turnsB b) && wayB a.name (areaB a) b.name (areaB b)))
theorem starts_comp : ∀ (s t u : List ByteArray), startsB s u = true → startsB t u = true → startsB s t = true ∨ startsB t s = true
 | [], t, u, _, _ => .inl (startsB_nil t)
 | _ :: _, [], u, _, _ => .inr (startsB_nil _)
 | x :: s, y :: t, [], h, _ => by cases h
 | x :: s, y :: t, z :: u, h1, h2 => by
   unfold startsB at h1 h2 ⊢
   simp only [Bool.and_eq_true, decide_eq_true_eq] at h1 h2 ⊢
   obtain ⟨rfl, h1⟩ := h1
   obtain ⟨rfl, h2⟩ := h2
   rcases starts_comp s t u h1 h2 with h | h
   · exact .inl ⟨rfl, h⟩
   · exact .inr ⟨rfl, h⟩
theorem starts_self : ∀ s : List ByteArray, startsB s s = true
 | [] => rfl
 | x :: s => by unfold startsB; simp [starts_self s]
theorem way_of {n n' : ByteArray} {s s' u : List ByteArray} (hn : n = n') (h1 : startsB s u = true) (h2 : startsB s' u = true) : wayB n s n' s' = true := by
 unfold wayB
 rw [decide_eq_true hn, Bool.true_and, Bool.or_eq_true]
 exact starts_comp s s' u h1 h2
theorem way_sym (n n' : ByteArray) (s s' : List ByteArray) : wayB n s n' s' = wayB n' s' n s := by
 unfold wayB
 rw [Bool.or_comm, show decide (n = n') = decide (n' = n) from decide_eq_decide.2 eq_comm]
theorem tree_ext : ∀ (l m : List NodeD), (l.Pairwise fun a b => stepB a b = true) → (m.Pairwise fun a b => stepB a b = true) → (∀ d, d ∈ l ↔ d ∈ m) → l = m
 | [], [], _, _, _ => rfl
 | [], y :: m, _, _, h => absurd ((h y).2 (by simp)) (by simp)
 | x :: l, [], _, _, h => absurd ((h x).1 (by simp)) (by simp)
 | x :: l, y :: m, hl, hm, h => by
   rw [List.pairwise_cons] at hl hm
   have hxy : x = y := by
    rcases List.mem_cons.1 ((h x).1 (by simp)) with h1 | h1
    · exact h1
    rcases List.mem_cons.1 ((h y).2 (by simp)) with h2 | h2
    · exact h2.symm
    have a1 := hm.1 x h1
    have a2 := hl.1 y h2
    rw [stepB_asym a1] at a2
    cases a2
   subst hxy
   congr 1
   refine tree_ext l m hl.2 hm.2 fun d => ?_
   constructor
   · intro hd
     rcases List.mem_cons.1 ((h d).1 (List.mem_cons_of_mem _ hd)) with h1 | h1
     · subst h1
       have := hl.1 d hd
       rw [stepB_irr rfl rfl] at this
       cases this
     · exact h1
   · intro hd
     rcases List.mem_cons.1 ((h d).2 (List.mem_cons_of_mem _ hd)) with h1 | h1
     · subst h1
       have := hm.1 d hd
       rw [stepB_irr rfl rfl] at this
       cases this
     · exact h1
theorem here_iff {nm : ByteArray} {ss : List ByteArray} {d : NodeD} : hereN nm ss d = true ↔ d.name = nm ∧ d.subs = ss := by
 unfold hereN
 simp
theorem mem_put {fs : List NodeD} (ht : treeB fs = true) (nm : ByteArray) (ss : List ByteArray) (v : ByteArray) (d : NodeD) : d ∈ putN fs nm ss v ↔ d = ⟨nm, ss, v⟩ ∨ (d ∈ fs ∧ hereN nm ss d = false) := by
 have hf := put_filter (fs := fs) nm ss v (fun d => !hereN nm ss d) (fun d h1 h2 => by rw [here_iff.2 ⟨h1, h2⟩]; rfl)
 have hm : hereN nm ss d = false → (d ∈ putN fs nm ss v ↔ d ∈ fs) := fun hh => by
  have h1 : d ∈ (putN fs nm ss v).filter (fun d => !hereN nm ss d) ↔ d ∈ putN fs nm ss v := by rw [List.mem_filter]; simp [hh]
  have h2 : d ∈ fs.filter (fun d => !hereN nm ss d) ↔ d ∈ fs := by rw [List.mem_filter]; simp [hh]
  rw [← h1, hf, h2]
 by_cases hh : hereN nm ss d = true
 · constructor
   · intro hd
     left
     obtain ⟨e1, e2⟩ := here_iff.1 hh
     unfold putN at hd
     obtain ⟨p1, p2⟩ := put_parts ht nm ss v
     rcases List.mem_append.1 hd with h1 | h1
     · have := p1 d h1
       rw [stepB_irr e1 e2] at this
       cases this
     · rcases List.mem_cons.1 h1 with h2 | h2
       · exact h2
       · have := p2 d h2
         rw [stepB_irr (a := ⟨nm, ss, v⟩) (b := d) e1.symm e2.symm] at this
         cases this
   · rintro (rfl | ⟨_, h2⟩)
     · unfold putN; simp
     · rw [hh] at h2; cases h2
 · rw [Bool.not_eq_true] at hh
   rw [hm hh]
   constructor
   · exact fun h => .inr ⟨h, hh⟩
   · rintro (rfl | ⟨h, _⟩)
     · have h0 : hereN nm ss ⟨nm, ss, v⟩ = true := here_iff.2 ⟨rfl, rfl⟩
       rw [h0] at hh
       cases hh
     · exact h
theorem put_len (fs : List NodeD) (nm : ByteArray) (ss : List ByteArray) (v : ByteArray) : (putN fs nm ss v).length ≤ fs.length + 1 := by
 have := atN_le fs nm ss
 unfold putN
 rw [List.length_append, List.length_cons, List.length_take, List.length_drop]
 split <;> omega
def goneE (e : EvD) (d : NodeD) : Bool := if e.kind = 3 then inN e.name e.subs d else hereN e.name e.subs d
theorem gone_in {e : EvD} {d : NodeD} (h : goneE e d = true) : inN e.name e.subs d = true := by
 unfold goneE at h
 split at h
 · exact h
 · obtain ⟨h1, h2⟩ := here_iff.1 h
   unfold inN
   rw [h1, h2, starts_self]
   simp
theorem chg_kind {e : EvD} (h : turnsB e = true) : ((chgOf e).kind = 1 ↔ e.kind = 2) ∧ (e.kind = 2 ∨ e.kind = 3) := by
 unfold turnsB at h
 simp only [Bool.or_eq_true, decide_eq_true_eq] at h
 refine ⟨?_, h⟩
 unfold chgOf
 rcases h with h | h <;> simp [h]
theorem turn_ok {fs : List NodeD} {e : EvD} (ht : turnsB e = true) (hl : fs.length + 1 ≤ 120) : (applyB fs e).1 = 0 ∧ (applyB fs e).2.length ≤ fs.length + 1 := by
 unfold applyB
 rw [if_pos ht]
 unfold doB
 split
 · unfold putB
   rw [if_neg (by simp; omega)]
   exact ⟨rfl, put_len _ _ _ _⟩
 · exact ⟨rfl, Nat.le_succ_of_le (List.length_filter_le _ _)⟩
theorem turn_mem {fs : List NodeD} {e : EvD} (htr : treeB fs = true) (ht : turnsB e = true) (h0 : (applyB fs e).1 = 0) (d : NodeD) : d ∈ (applyB fs e).2 ↔ (e.kind = 2 ∧ d = ⟨e.name, e.subs, e.val⟩) ∨ (d ∈ fs ∧ goneE e d = false) := by
 obtain ⟨hk, hk2⟩ := chg_kind ht
 unfold applyB at h0 ⊢
 rw [if_pos ht] at h0 ⊢
 unfold doB at h0 ⊢
 by_cases h2 : e.kind = 2
 · rw [if_pos (hk.2 h2)] at h0 ⊢
   unfold putB at h0 ⊢
   split at h0
   · cases h0
   next h1 =>
   rw [if_neg h1]
   have := mem_put htr e.name e.subs e.val d
   unfold goneE
   rw [if_neg (by omega)]
   simp only [chgOf, h2, true_and]
   exact this
 · have h3 : e.kind = 3 := hk2.resolve_left h2
   rw [if_neg (fun h => h2 (hk.1 h))]
   unfold goneE killB
   rw [if_pos h3]
   simp only [chgOf, h2, false_and, false_or, List.mem_filter, Bool.not_eq_true']
theorem read_len {fs : List NodeD} {e : EvD} (ht : turnsB e = false) (h0 : (applyB fs e).1 = 0) : (applyB fs e).2 = fs ∧ sameE (againB fs e) e = true := by
 unfold applyB at h0 ⊢
 rw [if_neg (by rw [ht]; decide)] at h0 ⊢
 split at h0
 · next h => rw [if_pos h]; exact ⟨rfl, h⟩
 · cases h0
theorem app_len {fs : List NodeD} {e : EvD} (hl : fs.length + 1 ≤ 120) (h0 : (applyB fs e).1 = 0) : (applyB fs e).2.length ≤ fs.length + 1 := by
 cases ht : turnsB e
 · rw [(read_len ht h0).1]; omega
 · exact (turn_ok ht hl).2
theorem foldl_filter {α β : Type} (f : β → α → β) (p : α → Bool) (hp : ∀ o d, p d = false → f o d = o) : ∀ (l : List α) (o : β), l.foldl f o = (l.filter p).foldl f o
 | [], _ => rfl
 | d :: r, o => by
   rw [List.filter_cons, List.foldl_cons]
   by_cases h : p d = true
   · rw [if_pos h, List.foldl_cons]; exact foldl_filter f p hp r _
   · rw [if_neg h, hp o d (by simpa using h)]; exact foldl_filter f p hp r _
theorem data_area (nm : ByteArray) (ss : List ByteArray) (fs : List NodeD) : dataF nm ss fs = dataF nm ss (fs.filter (inN nm ss)) :=
 foldl_filter _ _ (fun o d h => by unfold dataN; rw [if_neg (by rw [h]; decide)]) fs 0
theorem ord_area (nm : ByteArray) (ss : List ByteArray) (back : Bool) (fs : List NodeD) : ordF nm ss back fs = ordF nm ss back (fs.filter (inN nm (ss.take (ss.length - 1)))) :=
 foldl_filter _ _ (fun o d h => by unfold ordN; rw [if_neg (by rw [h]; simp)]) fs _
theorem find_filter {α : Type} (q p : α → Bool) (h : ∀ d, q d = true → p d = true) : ∀ l : List α, (l.filter p).find? q = l.find? q
 | [] => rfl
 | d :: r => by
   rw [List.filter_cons, List.find?_cons]
   by_cases hp : p d = true
   · rw [if_pos hp, List.find?_cons, find_filter q p h r]
   · rw [if_neg hp]
     have : q d = false := by
      cases hq : q d
      · rfl
      · exact absurd (h d hq) hp
     rw [this, find_filter q p h r]
theorem idx_find {α : Type} [Inhabited α] (q : α → Bool) : ∀ (l : List α) (k : Nat), (l.find? q = none → idxF q l k = -1) ∧ (∀ d, l.find? q = some d → ∃ j, j < l.length ∧ idxF q l k = ((k + j : Nat) : Int) ∧ l.getD j default = d)
 | [], k => ⟨fun _ => rfl, fun d h => by cases h⟩
 | x :: r, k => by
   rw [List.find?_cons]
   unfold idxF
   by_cases hx : q x = true
   · rw [if_pos hx, hx]
     refine ⟨fun h => (by cases h), fun d h => ⟨0, by simp, by simp, ?_⟩⟩
     injection h
   · rw [if_neg hx]
     rw [Bool.not_eq_true] at hx
     rw [hx]
     obtain ⟨h1, h2⟩ := idx_find q r (k + 1)
     refine ⟨h1, fun d h => ?_⟩
     obtain ⟨j, j1, j2, j3⟩ := h2 d h
     exact ⟨j + 1, by simpa using j1, by rw [j2]; congr 1; omega, j3⟩
theorem qry_find (nm : ByteArray) (ss : List ByteArray) (fs : List NodeD) : qryN nm ss fs = (match fs.find? (qryP nm ss) with | none => 0 | some _ => 1) ∧ qryV nm ss fs = (match fs.find? (qryP nm ss) with | none => ⟨#[]⟩ | some d => putE d.subs) := by
 obtain ⟨h1, h2⟩ := idx_find (qryP nm ss) fs 0
 unfold qryN qryV qryI
 cases hf : fs.find? (qryP nm ss) with
 | none => rw [h1 hf]; exact ⟨rfl, rfl⟩
 | some d =>
   obtain ⟨j, j1, j2, j3⟩ := h2 d hf
   rw [j2, if_pos (by omega), if_pos (by omega)]
   refine ⟨rfl, ?_⟩
   show putE (fs.getD (((0 + j : Nat) : Int)).toNat default).subs = putE d.subs
   rw [Int.toNat_natCast, Nat.zero_add, j3]
theorem qry_area (nm : ByteArray) (ss : List ByteArray) (fs gs : List NodeD) (h : fs.filter (inN nm []) = gs.filter (inN nm [])) : qryN nm ss fs = qryN nm ss gs ∧ qryV nm ss fs = qryV nm ss gs := by
 have hp : ∀ d, qryP nm ss d = true → inN nm [] d = true := fun d hd => by
  unfold qryP at hd
  unfold inN
  rw [startsB_nil]
  simp only [Bool.and_eq_true, decide_eq_true_eq] at hd ⊢
  exact ⟨hd.1, trivial⟩
 rw [(qry_find nm ss fs).1, (qry_find nm ss fs).2, (qry_find nm ss gs).1, (qry_find nm ss gs).2, ← find_filter (qryP nm ss) (inN nm []) hp fs, ← find_filter (qryP nm ss) (inN nm []) hp gs, h]
 exact ⟨rfl, rfl⟩
theorem get_find {fs : List NodeD} (ht : treeB fs = true) (nm : ByteArray) (ss : List ByteArray) : getF fs nm ss = (match fs.find? (hereN nm ss) with | none => ⟨#[]⟩ | some d => d.val) := by
 obtain ⟨h1, h2, h3⟩ := takeWhile_at (aheadN nm ss) fs
 obtain ⟨_, _, hp⟩ := tree_iff.1 ht
 have hnot : ∀ d : NodeD, aheadN nm ss d = true → hereN nm ss d = false := fun d hd => by
  cases hh : hereN nm ss d
  · rfl
  · obtain ⟨e1, e2⟩ := here_iff.1 hh
    have := stepB_irr (a := d) (b := ⟨nm, ss, d.val⟩) e1 e2
    unfold aheadN at hd
    unfold stepB at this
    rw [hd] at this
    cases this
 have hpre : (fs.take (atN fs nm ss)).find? (hereN nm ss) = none := by
  rw [List.find?_eq_none]
  intro d hd
  obtain ⟨i, hi, rfl⟩ := List.mem_take_iff_getElem.1 hd
  have h4 := h2 i (by unfold atN at hi; omega)
  rw [List.getD_eq_getElem?_getD, List.getElem?_eq_getElem (by omega), Option.getD_some] at h4
  rw [hnot _ h4]
  decide
 have hsp : fs.find? (hereN nm ss) = (fs.drop (atN fs nm ss)).find? (hereN nm ss) := by
  conv => lhs; rw [← List.take_append_drop (atN fs nm ss) fs, List.find?_append, hpre]
  rfl
 rw [hsp]
 unfold getF
 by_cases hh : hasN fs nm ss = true
 · rw [if_pos hh]
   unfold hasN at hh
   rw [Bool.and_eq_true, decide_eq_true_eq] at hh
   obtain ⟨hl, h7⟩ := hh
   have hg : fs.getD (atN fs nm ss) default = fs[atN fs nm ss]'hl := by rw [List.getD_eq_getElem?_getD, List.getElem?_eq_getElem hl, Option.getD_some]
   rw [hg] at h7 ⊢
   rw [List.drop_eq_getElem_cons hl, List.find?_cons, h7]
 · rw [if_neg hh]
   have hn : (fs.drop (atN fs nm ss)).find? (hereN nm ss) = none := by
    rw [List.find?_eq_none]
    intro d hd hh2
    obtain ⟨i, hi, rfl⟩ := List.mem_drop_iff_getElem.1 hd
    obtain ⟨e1, e2⟩ := here_iff.1 hh2
    have hlt : atN fs nm ss < fs.length := by omega
    have h4 : aheadN nm ss (fs.getD (atN fs nm ss) default) = false := h3 hlt
    rw [List.getD_eq_getElem?_getD, List.getElem?_eq_getElem hlt, Option.getD_some] at h4
    rcases Nat.eq_zero_or_pos i with h0 | h0
    · subst h0
      refine hh ?_
      unfold hasN
      rw [Bool.and_eq_true, decide_eq_true_eq]
      refine ⟨hlt, ?_⟩
      rw [List.getD_eq_getElem?_getD, List.getElem?_eq_getElem hlt, Option.getD_some]
      exact hh2
    · have h5 := List.pairwise_iff_getElem.1 hp (atN fs nm ss) (atN fs nm ss + i) hlt (by omega) (by omega)
      unfold stepB at h5
      unfold aheadN at h4
      rw [e1, e2] at h5
      rw [h5] at h4
      cases h4
   rw [hn]
theorem get_area {fs gs : List NodeD} (hf : treeB fs = true) (hg : treeB gs = true) (nm : ByteArray) (ss : List ByteArray) (h : fs.filter (inN nm ss) = gs.filter (inN nm ss)) : getF fs nm ss = getF gs nm ss := by
 have hp : ∀ d, hereN nm ss d = true → inN nm ss d = true := fun d hd => by
  obtain ⟨e1, e2⟩ := here_iff.1 hd
  unfold inN
  rw [e1, e2, starts_self]
  simp
 rw [get_find hf, get_find hg, ← find_filter (hereN nm ss) (inN nm ss) hp fs, ← find_filter (hereN nm ss) (inN nm ss) hp gs, h]
theorem again_area {fs gs : List NodeD} {e : EvD} (hf : treeB fs = true) (hg : treeB gs = true) (hr : readsB e = true) (h : fs.filter (inN e.name (areaB e)) = gs.filter (inN e.name (areaB e))) : againB fs e = againB gs e := by
 unfold readsB at hr
 simp only [Bool.or_eq_true, decide_eq_true_eq] at hr
 unfold areaB at h
 unfold againB
 by_cases h1 : e.kind = 1
 · rw [if_neg (by omega), if_neg (by omega)] at h
   rw [if_pos h1, if_pos h1, get_area hf hg _ _ h, data_area, h, ← data_area]
 rw [if_neg h1, if_neg h1]
 by_cases h4 : e.kind = 4
 · rw [if_neg (by omega), if_neg (by omega)] at h
   rw [if_pos h4, if_pos h4, data_area, h, ← data_area]
 rw [if_neg h4, if_neg h4]
 by_cases h5 : e.kind = 5
 · rw [if_pos h5] at h
   rw [if_pos h5, if_pos h5, ord_area, h, ← ord_area]
 rw [if_neg h5, if_neg h5]
 rw [if_neg h5, if_pos (by omega)] at h
 obtain ⟨a1, a2⟩ := qry_area e.name e.subs fs gs h
 rw [a1, a2]
theorem turn_area {fs : List NodeD} {e : EvD} (ht : turnsB e = true) (h0 : (applyB fs e).1 = 0) {nm : ByteArray} {ss : List ByteArray} (hw : wayB nm ss e.name e.subs = false) : (applyB fs e).2.filter (inN nm ss) = fs.filter (inN nm ss) := by
 obtain ⟨hk, hk2⟩ := chg_kind ht
 unfold applyB at h0 ⊢
 rw [if_pos ht] at h0 ⊢
 unfold doB at h0 ⊢
 have hno : ∀ d, inN nm ss d = true → inN e.name e.subs d = true → False := fun d h1 h2 => by
  unfold inN at h1 h2
  simp only [Bool.and_eq_true, decide_eq_true_eq] at h1 h2
  rw [way_of (h1.1.symm.trans h2.1) h1.2 h2.2] at hw
  cases hw
 split
 · next h1 =>
   rw [if_pos h1] at h0
   unfold putB at h0 ⊢
   split at h0
   · cases h0
   next h2 =>
   rw [if_neg h2]
   refine put_filter _ _ _ _ fun d e1 e2 => ?_
   cases hd : inN nm ss d
   · rfl
   · refine absurd (hno d hd ?_) id
     unfold inN
     rw [show d.name = e.name from e1, show d.subs = e.subs from e2, starts_self]
     simp
 · unfold killB
   rw [List.filter_filter]
   refine List.filter_congr fun d _ => ?_
   cases hd : inN nm ss d
   · rfl
   · have : inN (chgOf e).name (chgOf e).subs d = false := by
      cases h2 : inN (chgOf e).name (chgOf e).subs d
      · rfl
      · exact absurd (hno d hd h2) id
     rw [this]
     rfl
theorem area_turn {e : EvD} (ht : turnsB e = true) : areaB e = e.subs := by
 obtain ⟨_, hk2⟩ := chg_kind ht
 unfold areaB
 rw [if_neg (by omega), if_neg (by omega)]
theorem note_reads {e : EvD} (h : noteB e = true) (ht : turnsB e = false) : readsB e = true := by
 have h1 := (note_parts h).2
 unfold turnsB at ht
 simp only [Bool.or_eq_false_iff, decide_eq_false_iff_not] at ht
 unfold readsB
 simp only [Bool.or_eq_true, decide_eq_true_eq]
 unfold resB at h1
 by_cases a1 : e.kind = 1
 · exact .inl a1
 by_cases a4 : e.kind = 4
 · exact .inr (.inl a4)
 by_cases a5 : e.kind = 5
 · exact .inr (.inr (.inl a5))
 by_cases a6 : e.kind = 6
 · exact .inr (.inr (.inr a6))
 simp [a1, a4, a5, a6, ht.1, ht.2] at h1
theorem apply_read {fs gs : List NodeD} {e w : EvD} (htr : treeB fs = true) (hw : noteB w = true) (hwt : turnsB w = true) (h0 : (applyB fs w).1 = 0) (he : noteB e = true) (het : turnsB e = false) (hway : wayB e.name (areaB e) w.name (areaB w) = false) : againB (applyB fs w).2 e = againB fs e := by
 rw [area_turn hwt] at hway
 exact again_area (apply_tree htr hw h0) htr (note_reads he het) (turn_area hwt h0 hway)
theorem swap_apply {fs : List NodeD} {a b : EvD} (htr : treeB fs = true) (ha : noteB a = true) (hb : noteB b = true) (hc : confB a b = false) (hsz : fs.length + 2 ≤ 120) (h1 : (applyB fs a).1 = 0) (h2 : (applyB (applyB fs a).2 b).1 = 0) :
 (applyB fs b).1 = 0 ∧ (applyB (applyB fs b).2 a).1 = 0 ∧ (applyB (applyB fs b).2 a).2 = (applyB (applyB fs a).2 b).2 := by
 unfold confB at hc
 rw [ha, hb, Bool.true_and, Bool.true_and] at hc
 cases hta : turnsB a
 · obtain ⟨e1, s1⟩ := read_len hta h1
   rw [e1] at h2 ⊢
   refine ⟨h2, ?_⟩
   cases htb : turnsB b
   · obtain ⟨e2, s2⟩ := read_len htb h2
     rw [e2]
     exact ⟨h1, e1⟩
   · rw [hta, htb, Bool.or_true, Bool.true_and] at hc
     have e3 := apply_read (gs := fs) htr hb htb h2 ha hta hc
     have : applyB (applyB fs b).2 a = (0, (applyB fs b).2) := by
      conv => lhs; unfold applyB
      rw [if_neg (by rw [hta]; decide)]
      rw [show (if turnsB b = true then doB fs (chgOf b) else if sameE (againB fs b) b = true then (0, fs) else (5, fs)) = applyB fs b from rfl, e3, if_pos s1]
     rw [this]
     exact ⟨rfl, rfl⟩
 · cases htb : turnsB b
   · rw [hta, htb, Bool.true_or, Bool.true_and, way_sym] at hc
     obtain ⟨e2, s2⟩ := read_len htb h2
     have e3 := apply_read (gs := fs) htr ha hta h1 hb htb hc
     have : applyB fs b = (0, fs) := by
      unfold applyB
      rw [if_neg (by rw [htb]; decide), if_pos (by rw [← e3]; exact s2)]
     rw [this, e2]
     exact ⟨rfl, h1, rfl⟩
   · rw [hta, htb, Bool.true_or, Bool.true_and, area_turn hta, area_turn htb] at hc
     obtain ⟨k1, k2⟩ := turn_ok (fs := fs) htb (by omega)
     obtain ⟨m1, m2⟩ := turn_ok (fs := (applyB fs b).2) hta (by omega)
     refine ⟨k1, m1, ?_⟩
     have t1 := apply_tree htr ha h1
     have t2 := apply_tree htr hb k1
     have hno : ∀ x : NodeD, inN a.name a.subs x = true → inN b.name b.subs x = true → False := fun d h1 h2 => by
      unfold inN at h1 h2
      simp only [Bool.and_eq_true, decide_eq_true_eq] at h1 h2
      rw [way_of (h1.1.symm.trans h2.1) h1.2 h2.2] at hc
      cases hc
     have hin : ∀ e : EvD, inN e.name e.subs ⟨e.name, e.subs, e.val⟩ = true := fun e => by unfold inN; rw [starts_self]; simp
     refine tree_ext _ _ (tree_iff.1 (apply_tree t2 ha m1)).2.2 (tree_iff.1 (apply_tree t1 hb h2)).2.2 fun d => ?_
     rw [turn_mem t2 hta m1, turn_mem htr htb k1, turn_mem t1 htb h2, turn_mem htr hta h1]
     constructor
     · rintro (⟨h3, rfl⟩ | ⟨⟨h3, rfl⟩ | ⟨h3, h4⟩, h5⟩)
       · refine .inr ⟨.inl ⟨h3, rfl⟩, ?_⟩
         cases hg : goneE b ⟨a.name, a.subs, a.val⟩
         · rfl
         · exact absurd (hno _ (hin a) (gone_in hg)) id
       · exact .inl ⟨h3, rfl⟩
       · exact .inr ⟨.inr ⟨h3, h5⟩, h4⟩
     · rintro (⟨h3, rfl⟩ | ⟨⟨h3, rfl⟩ | ⟨h3, h4⟩, h5⟩)
       · refine .inr ⟨.inl ⟨h3, rfl⟩, ?_⟩
         cases hg : goneE a ⟨b.name, b.subs, b.val⟩
         · rfl
         · exact absurd (hno _ (gone_in hg) (hin b)) id
       · exact .inl ⟨h3, rfl⟩
       · exact .inr ⟨.inr ⟨h3, h5⟩, h4⟩
theorem rep_idx : ∀ (l : List EvD) (fs : List NodeD) (i j : Nat), (repB fs l i).1 = (repB fs l j).1 ∧ (repB fs l i).2.2 = (repB fs l j).2.2
 | [], _, _, _ => ⟨rfl, rfl⟩
 | e :: r, fs, i, j => by
   unfold repB
   split
   · exact rep_idx r _ _ _
   · exact ⟨rfl, rfl⟩
theorem rep_swap : ∀ (pre : List EvD) (a b : EvD) (post : List EvD) (fs : List NodeD) (i j : Nat), treeB fs = true → (∀ e ∈ pre, noteB e = true) → noteB a = true → noteB b = true → confB a b = false → fs.length + pre.length + 2 ≤ 120 →
 (repB fs (pre ++ a :: b :: post) i).1 = 0 → (repB fs (pre ++ b :: a :: post) j).1 = 0 ∧ (repB fs (pre ++ b :: a :: post) j).2.2 = (repB fs (pre ++ a :: b :: post) i).2.2
 | [], a, b, post, fs, i, j, htr, _, ha, hb, hc, hsz, h0 => by
   simp only [List.nil_append, List.length_nil, Nat.add_zero] at h0 hsz ⊢
   unfold repB at h0 ⊢
   by_cases h1 : (applyB fs a).1 = 0
   · rw [if_pos h1] at h0 ⊢
     unfold repB at h0 ⊢
     by_cases h2 : (applyB (applyB fs a).2 b).1 = 0
     · rw [if_pos h2] at h0 ⊢
       obtain ⟨k1, k2, k3⟩ := swap_apply htr ha hb hc hsz h1 h2
       rw [if_pos k1, if_pos k2, k3]
       obtain ⟨x, y⟩ := rep_idx post (applyB (applyB fs a).2 b).2 (j + 1 + 1) (i + 1 + 1)
       exact ⟨x.trans h0, y⟩
     · rw [if_neg h2] at h0
       exact absurd h0 h2
   · rw [if_neg h1] at h0
     exact absurd h0 h1
 | x :: pre, a, b, post, fs, i, j, htr, hp, ha, hb, hc, hsz, h0 => by
   simp only [List.cons_append, List.length_cons] at h0 hsz ⊢
   unfold repB at h0 ⊢
   by_cases h1 : (applyB fs x).1 = 0
   · rw [if_pos h1] at h0 ⊢
     rw [if_pos h1]
     have hl := app_len (fs := fs) (e := x) (by omega) h1
     exact rep_swap pre a b post _ _ _ (apply_tree htr (hp x (by simp)) h1) (fun e he => hp e (List.mem_cons_of_mem _ he)) ha hb hc (by omega) h0
   · rw [if_neg h1] at h0
     exact absurd h0 h1
end Go.Proofs.YtlicffeicmoifaaGreatDoor
namespace Go.Proofs.YtlicffeicmoifaaGreatDoor
open Go.RowKit
set_option linter.unusedVariables false
set_option linter.unusedSimpArgs false
structure DoD where
 job : Int
 ev : EvD
deriving Inhabited
noncomputable def doingB (d : DoD) : Bool := decide (1 ≤ d.job ∧ d.job ≤ 4) && noteB d.ev
noncomputable def doingsB (l : List DoD) : Bool := decide (l.length ≤ 60) && l.all doingB
def evsD (l : List DoD) : List EvD := l.map DoD.ev
noncomputable def playB (fs : List NodeD) (l : List DoD) : Int × Nat × List NodeD := if (treeB fs && doingsB l) = true then repB fs (evsD l) 0 else (1, 0, [])
theorem doings_all {l : List DoD} (h : doingsB l = true) : l.length ≤ 60 ∧ ∀ d ∈ l, (1 ≤ d.job ∧ d.job ≤ 4) ∧ noteB d.ev = true := by
 unfold doingsB at h
 rw [Bool.and_eq_true, decide_eq_true_eq, List.all_eq_true] at h
 refine ⟨h.1, fun d hd => ?_⟩
 have := h.2 d hd
 unfold doingB at this
 rw [Bool.and_eq_true, decide_eq_true_eq] at this
 exact this
theorem doings_of {l : List DoD} (h1 : l.length ≤ 60) (h2 : ∀ d ∈ l, (1 ≤ d.job ∧ d.job ≤ 4) ∧ noteB d.ev = true) : doingsB l = true := by
 unfold doingsB
 rw [Bool.and_eq_true, decide_eq_true_eq, List.all_eq_true]
 refine ⟨h1, fun d hd => ?_⟩
 unfold doingB
 rw [Bool.and_eq_true, decide_eq_true_eq]
 exact h2 d hd
theorem play_parts {fs : List NodeD} {l : List DoD} (h : (playB fs l).1 = 0) : treeB fs = true ∧ doingsB l = true ∧ playB fs l = repB fs (evsD l) 0 := by
 unfold playB at h ⊢
 split at h
 · next h1 =>
   rw [if_pos h1]
   rw [Bool.and_eq_true] at h1
   exact ⟨h1.1, h1.2, rfl⟩
 · cases h
theorem play_of {fs : List NodeD} {l : List DoD} (h1 : treeB fs = true) (h2 : doingsB l = true) : playB fs l = repB fs (evsD l) 0 := by
 unfold playB
 rw [h1, h2]
 rfl
theorem split_two (l : List DoD) (k : Nat) (h : k + 1 < l.length) : l = l.take k ++ l.getD k default :: l.getD (k + 1) default :: l.drop (k + 2) := by
 conv => lhs; rw [← List.take_append_drop k l]
 congr 1
 rw [List.drop_eq_getElem_cons (by omega), List.drop_eq_getElem_cons (by omega), List.getD_eq_getElem?_getD, List.getD_eq_getElem?_getD, List.getElem?_eq_getElem (by omega), List.getElem?_eq_getElem (by omega)]
 rfl
def swapD (l : List DoD) (k : Nat) : List DoD := (l.set k (l.getD (k + 1) default)).set (k + 1) (l.getD k default)
theorem swap_split (l : List DoD) (k : Nat) (h : k + 1 < l.length) : swapD l k = l.take k ++ l.getD (k + 1) default :: l.getD k default :: l.drop (k + 2) := by
 have e := split_two l k h
 have hl : (l.take k).length = k := by rw [List.length_take]; omega
 unfold swapD
 generalize l.getD k default = a at *
 generalize l.getD (k + 1) default = b at *
 generalize l.take k = p at *
 generalize l.drop (k + 2) = q at *
 subst e
 have s1 : (p ++ a :: b :: q).set k b = p ++ b :: b :: q := by
  rw [List.set_append, if_neg (by omega), hl, Nat.sub_self]
  rfl
 rw [s1, List.set_append, if_neg (by omega), hl, show k + 1 - k = 1 by omega]
 rfl
theorem play_swap {fs : List NodeD} {l : List DoD} {k : Nat} (hk : k + 1 < l.length) (hsz : fs.length + l.length ≤ 120) (hc : confB (l.getD k default).ev (l.getD (k + 1) default).ev = false) (h0 : (playB fs l).1 = 0) :
 (playB fs (swapD l k)).1 = 0 ∧ (playB fs (swapD l k)).2.2 = (playB fs l).2.2 := by
 obtain ⟨ht, hd, he⟩ := play_parts h0
 obtain ⟨hl, ha⟩ := doings_all hd
 have e1 := split_two l k hk
 have e2 := swap_split l k hk
 have hsub : ∀ d ∈ swapD l k, d ∈ l := fun d hd => by
  rw [e2] at hd
  rw [e1]
  simp only [List.mem_append, List.mem_cons] at hd ⊢
  rcases hd with h | h | h | h
  · exact .inl h
  · exact .inr (.inr (.inl h))
  · exact .inr (.inl h)
  · exact .inr (.inr (.inr h))
 have hlen : (swapD l k).length = l.length := by unfold swapD; rw [List.length_set, List.length_set]
 have hd2 := doings_of (l := swapD l k) (by rw [hlen]; exact hl) (fun d hd => ha d (hsub d hd))
 rw [play_of ht hd2]
 rw [he] at h0 ⊢
 have m1 : evsD l = evsD (l.take k) ++ (l.getD k default).ev :: (l.getD (k + 1) default).ev :: evsD (l.drop (k + 2)) := by
  conv => lhs; rw [e1]
  unfold evsD
  rw [List.map_append, List.map_cons, List.map_cons]
 have m2 : evsD (swapD l k) = evsD (l.take k) ++ (l.getD (k + 1) default).ev :: (l.getD k default).ev :: evsD (l.drop (k + 2)) := by
  rw [e2]
  unfold evsD
  rw [List.map_append, List.map_cons, List.map_cons]
 rw [m1] at h0 ⊢
 rw [m2]
 have hmem : ∀ j, j < l.length → noteB (l.getD j default).ev = true := fun j hj => (ha _ (by rw [List.getD_eq_getElem?_getD, List.getElem?_eq_getElem hj]; exact List.getElem_mem _)).2
 refine rep_swap _ _ _ _ _ _ _ ht (fun e he => ?_) (hmem k (by omega)) (hmem (k + 1) hk) hc ?_ h0
 · unfold evsD at he
   obtain ⟨d, hd, rfl⟩ := List.mem_map.1 he
   exact (ha d (List.mem_of_mem_take hd)).2
 · unfold evsD
   rw [List.length_map, List.length_take]
   omega
end Go.Proofs.YtlicffeicmoifaaGreatDoor
