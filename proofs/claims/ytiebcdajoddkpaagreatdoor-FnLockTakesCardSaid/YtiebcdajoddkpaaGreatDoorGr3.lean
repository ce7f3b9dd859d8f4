/-
  Locks, plainly: what right locks are, as a proposition; what is granted, again and again; right locks stay right. Locks, plainly: what is dropped, what expires; the laws of what is held and who waits. Locks, plainly: how often a thing is held; a lock that is taken and given back; who waits.
-/
import Derived.Test.YtiebcdajoddkpaaGreatDoorLkS
namespace Go.Proofs.YtiebcdajoddkpaaGreatDoor
open Go.RowKit
set_option linter.unusedVariables false

/-- Right locks. -/
structure OkP (held asks : List ItD) : Prop where
  hlen : held.length ≤ 16
  alen : asks.length ≤ 4
  hok : ∀ d ∈ held, hOk1 d = true
  hpw : held.Pairwise (fun x y => hOrd x y = true ∧ apP y x = false)
  aok : ∀ d ∈ asks, inB d.a 1 4 = true ∧ inB d.b 0 999999 = true ∧ thingB d.name d.subs = true
  apw : asks.Pairwise (fun x y => x.a ≠ y.a)
theorem getD_eq {α : Type} [Inhabited α] (l : List α) (k : Nat) (h : k < l.length) : l.getD k default = l[k] := by
  rw [List.getD_eq_getElem?_getD, List.getElem?_eq_getElem h]; rfl
theorem okP_of {held asks : List ItD} (h : okB held asks = true) : OkP held asks := by
  have hso := okB_sorted h
  unfold okB at h
  simp only [Bool.and_eq_true, decide_eq_true_eq] at h
  obtain ⟨⟨⟨h1, h2⟩, h3⟩, h4⟩ := h
  have hh := allFrom_at held.length 0 h3
  have ha := allFrom_at asks.length 0 h4
  refine ⟨h1, h2, fun d hd => ?_, ?_, fun d hd => ?_, ?_⟩
  · obtain ⟨j, hj, rfl⟩ := List.getElem_of_mem hd
    have := hh j (by omega) (by omega)
    unfold heldAt at this
    simp only [Bool.and_eq_true] at this
    rw [← getD_eq held j hj]
    exact this.1.1
  · rw [List.pairwise_iff_getElem]
    intro i j hi hj hij
    have h5 := hso i j hij hj
    rw [getD_eq _ _ hi, getD_eq _ _ hj] at h5
    refine ⟨h5, ?_⟩
    have := hh j (by omega) (by omega)
    unfold heldAt at this
    simp only [Bool.and_eq_true, Bool.not_eq_true'] at this
    have h6 := any_take_false this.2 i hij hi
    rwa [getD_eq _ _ hi, getD_eq _ _ hj] at h6
  · obtain ⟨j, hj, rfl⟩ := List.getElem_of_mem hd
    have := ha j (by omega) (by omega)
    unfold askOkAt at this
    simp only [Bool.and_eq_true] at this
    rw [getD_eq _ _ hj] at this
    exact ⟨this.1, this.2.1, this.2.2.1⟩
  · rw [List.pairwise_iff_getElem]
    intro i j hi hj hij
    have := ha j (by omega) (by omega)
    rw [askOk_eq _ _ hj] at this
    unfold askIAt at this
    simp only [Bool.and_eq_true, Bool.not_eq_true'] at this
    have h6 := any_take_false this.2.1 i hij hi
    rw [getD_eq _ _ hi, getD_eq _ _ hj] at h6
    unfold jobP at h6
    exact of_decide_eq_false h6
theorem OkP.okB {held asks : List ItD} (h : OkP held asks) : okB held asks = true := by
  unfold Go.Proofs.YtiebcdajoddkpaaGreatDoor.okB
  simp only [Bool.and_eq_true, decide_eq_true_eq]
  have hp := List.pairwise_iff_getElem.1 h.hpw
  have hq := List.pairwise_iff_getElem.1 h.apw
  refine ⟨⟨⟨h.hlen, h.alen⟩, allFrom_of _ _ fun j _ hj => ?_⟩, allFrom_of _ _ fun j _ hj => ?_⟩
  · have hj' : j < held.length := by omega
    unfold heldAt
    simp only [Bool.and_eq_true, Bool.or_eq_true, Bool.not_eq_true', decide_eq_true_eq]
    rw [getD_eq _ _ hj']
    refine ⟨⟨h.hok _ (List.getElem_mem hj'), ?_⟩, ?_⟩
    · by_cases h0 : j = 0
      · exact .inl h0
      · refine .inr ?_
        rw [getD_eq _ _ (by omega)]
        exact (hp (j - 1) j (by omega) hj' (by omega)).1
    · rw [List.any_eq_false]
      intro x hx
      obtain ⟨i, hi, rfl⟩ := List.getElem_of_mem hx
      rw [List.length_take] at hi
      rw [List.getElem_take]
      simpa using (hp i j (by omega) hj' (by omega)).2
  · have hj' : j < asks.length := by omega
    rw [askOk_eq _ _ hj']
    unfold askIAt
    rw [getD_eq _ _ hj']
    have ha := h.aok _ (List.getElem_mem hj')
    simp only [Bool.and_eq_true, Bool.not_eq_true']
    refine ⟨ha.1, ?_, ha.2.1, ha.2.2⟩
    rw [List.any_eq_false]
    intro x hx
    obtain ⟨i, hi, rfl⟩ := List.getElem_of_mem hx
    rw [List.length_take] at hi
    rw [List.getElem_take]
    unfold jobP
    simpa using hq i j (by omega) hj' (by omega)
theorem OkP.sub {held asks held' asks' : List ItD} (h : OkP held asks) (h1 : held'.Sublist held) (h2 : asks'.Sublist asks) : OkP held' asks' :=
  ⟨Nat.le_trans h1.length_le h.hlen, Nat.le_trans h2.length_le h.alen, fun d hd => h.hok d (h1.subset hd), h.hpw.sublist h1, fun d hd => h.aok d (h2.subset hd), h.apw.sublist h2⟩
theorem OkP.sorted {held asks : List ItD} (h : OkP held asks) : sortedH held := okB_so h.okB

theorem hOrd_key {x y z : ItD} (h1 : y.a = z.a) (h2 : y.name = z.name) (h3 : y.subs = z.subs) : hOrd x y = hOrd x z ∧ hOrd y x = hOrd z x ∧ apP x y = apP x z ∧ apP y x = apP z x := by
  unfold hOrd apP
  rw [h1, h2, h3]
  exact ⟨rfl, rfl, rfl, rfl⟩
theorem way_none {held : List ItD} {job : Int} {nm : ByteArray} {ss : List ByteArray} (h : held.any (hBlkP job nm ss) = false) : ∀ d ∈ held, d.a ≠ job → wayB d.name d.subs nm ss = false := by
  rw [List.any_eq_false] at h
  intro d hd hne
  have := h d hd
  unfold hBlkP at this
  cases hw : wayB d.name d.subs nm ss
  · rfl
  · rw [hw] at this; simp [hne] at this
/-- A lock that is granted leaves right locks right. -/
theorem OkP.acq {held asks : List ItD} (h : OkP held asks) {job : Int} {nm : ByteArray} {ss : List ByteArray} (hj : inB job 1 4 = true) (ht : thingB nm ss = true) (hr : roomB held job nm ss = true) (hb : held.any (hBlkP job nm ss) = false) : OkP (acqI held (tgt job nm ss)) asks := by
  have hso := h.sorted
  rw [← roomI_eq held job nm ss hso] at hr
  have hway := way_none hb
  have hle := posI_le held (tgt job nm ss)
  have hsp := posI_spec held (tgt job nm ss)
  unfold acqI
  unfold roomI at hr
  cases hf : foundI held (tgt job nm ss)
  · rw [if_neg (by decide)]
    rw [hf, if_neg (by decide), decide_eq_true_eq] at hr
    have hlow : ∀ x ∈ held.take (posI held (tgt job nm ss)), hOrd x (tgt job nm ss) = true := fun x hx => by
      obtain ⟨i, hi, rfl⟩ := List.getElem_of_mem hx
      rw [List.length_take] at hi
      rw [List.getElem_take]
      have := hsp.1 i (by omega)
      rw [getD_eq _ _ (by omega)] at this
      rw [← cmpIt_lt]
      exact decide_eq_true this
    have hhigh : ∀ x ∈ held.drop (posI held (tgt job nm ss)), hOrd (tgt job nm ss) x = true := fun x hx => by
      obtain ⟨i, hi, rfl⟩ := List.getElem_of_mem hx
      rw [List.length_drop] at hi
      rw [List.getElem_drop]
      have hlt : posI held (tgt job nm ss) < held.length := by omega
      have h0 : hOrd (tgt job nm ss) (held.getD (posI held (tgt job nm ss)) default) = true := by
        have h1 := hsp.2 hlt
        unfold foundI at hf
        rw [decide_eq_true hlt, Bool.true_and, decide_eq_false_iff_not] at hf
        rcases hOrd_total _ _ hf with h2 | h2
        · rw [← cmpIt_lt, decide_eq_true_eq] at h2; exact absurd h2 h1
        · exact h2
      by_cases he : i = 0
      · subst he
        rw [getD_eq _ _ hlt] at h0
        simpa using h0
      · have h2 := hso _ (posI held (tgt job nm ss) + i) (by omega : posI held (tgt job nm ss) < _) (by omega)
        have h3 := hOrd_trans _ _ _ h0 h2
        rwa [getD_eq _ _ (by omega)] at h3
    have hkey : ∀ x, hOrd x { tgt job nm ss with b := 1 } = hOrd x (tgt job nm ss) ∧ hOrd { tgt job nm ss with b := 1 } x = hOrd (tgt job nm ss) x ∧ apP x { tgt job nm ss with b := 1 } = apP x (tgt job nm ss) ∧ apP { tgt job nm ss with b := 1 } x = apP (tgt job nm ss) x := fun x => hOrd_key rfl rfl rfl
    have hap1 : ∀ x ∈ held, apP (tgt job nm ss) x = false := fun x hx => by
      unfold apP
      by_cases hn : x.a = job
      · show (decide (x.a ≠ job) && _) = false
        rw [decide_eq_false (by simpa using hn)]; rfl
      · show (_ && wayB x.name x.subs nm ss) = false
        rw [hway x hx hn, Bool.and_false]
    have hap2 : ∀ x ∈ held, apP x (tgt job nm ss) = false := fun x hx => by
      unfold apP
      by_cases hn : x.a = job
      · show (decide (job ≠ x.a) && _) = false
        rw [decide_eq_false (by simpa using hn.symm)]; rfl
      · show (_ && wayB nm ss x.name x.subs) = false
        rw [wayB_comm, hway x hx hn, Bool.and_false]
    refine ⟨by rw [insAt_len _ _ _ hle]; omega, h.alen, fun d hd => ?_, ?_, h.aok, h.apw⟩
    · rcases insAt_mem hd with h1 | h1
      · exact h.hok d h1
      · subst h1
        unfold hOk1
        show (inB job 1 4 && (inB 1 1 9 && thingB nm ss)) = true
        rw [hj, ht]; rfl
    · unfold insAt
      rw [List.append_assoc]
      rw [List.pairwise_append]
      have hpT := h.hpw.sublist (List.take_sublist (posI held (tgt job nm ss)) held)
      have hpD := h.hpw.sublist (List.drop_sublist (posI held (tgt job nm ss)) held)
      refine ⟨hpT, ?_, ?_⟩
      · rw [List.singleton_append, List.pairwise_cons]
        exact ⟨fun x hx => ⟨by rw [(hkey x).2.1]; exact hhigh x hx, by rw [(hkey x).2.2.1]; exact hap2 x (List.mem_of_mem_drop hx)⟩, hpD⟩
      · intro x hx y hy
        rw [List.singleton_append, List.mem_cons] at hy
        rcases hy with rfl | hy
        · exact ⟨by rw [(hkey x).1]; exact hlow x hx, by rw [(hkey x).2.2.2]; exact hap1 x (List.mem_of_mem_take hx)⟩
        · have hp := h.hpw
          rw [← List.take_append_drop (posI held (tgt job nm ss)) held, List.pairwise_append] at hp
          exact hp.2.2 x hx y hy
  · rw [if_pos rfl]
    rw [hf, if_pos rfl, decide_eq_true_eq] at hr
    have hlt : posI held (tgt job nm ss) < held.length := by
      unfold foundI at hf
      rw [Bool.and_eq_true, decide_eq_true_iff] at hf
      exact hf.1
    generalize posI held (tgt job nm ss) = p at *
    have hk : ∀ j (hj : j < held.length), ((held.set p { held.getD p default with b := (held.getD p default).b + 1 })[j]'(by rw [List.length_set]; exact hj)).a = held[j].a ∧ ((held.set p { held.getD p default with b := (held.getD p default).b + 1 })[j]'(by rw [List.length_set]; exact hj)).name = held[j].name ∧ ((held.set p { held.getD p default with b := (held.getD p default).b + 1 })[j]'(by rw [List.length_set]; exact hj)).subs = held[j].subs := fun j hj => by
      rw [List.getElem_set]
      split
      · next e => subst e; rw [getD_eq _ _ hj]; exact ⟨rfl, rfl, rfl⟩
      · exact ⟨rfl, rfl, rfl⟩
    refine ⟨by rw [List.length_set]; exact h.hlen, h.alen, fun d hd => ?_, ?_, h.aok, h.apw⟩
    · rcases List.mem_or_eq_of_mem_set hd with h1 | h1
      · exact h.hok d h1
      · subst h1
        have h2 := h.hok _ (List.getElem_mem hlt)
        rw [← getD_eq _ _ hlt] at h2
        unfold hOk1 inB at h2 ⊢
        simp only [Bool.and_eq_true, decide_eq_true_eq] at h2 ⊢
        refine ⟨h2.1, ⟨?_, ?_⟩, h2.2.2⟩
        · have := h2.2.1.1; omega
        · omega
    · rw [List.pairwise_iff_getElem]
      intro i j hi hj hij
      rw [List.length_set] at hi hj
      have hp := List.pairwise_iff_getElem.1 h.hpw i j hi hj hij
      obtain ⟨i1, i2, i3⟩ := hk i hi
      obtain ⟨j1, j2, j3⟩ := hk j hj
      have e1 := hOrd_key (x := (held.set p { held.getD p default with b := (held.getD p default).b + 1 })[i]'(by rw [List.length_set]; exact hi)) j1 j2 j3
      have e2 := hOrd_key (x := held[j]) i1 i2 i3
      rw [e1.1, e1.2.2.2, e2.2.1, e2.2.2.1]
      exact hp

/-- May the ask be granted? -/
def mayP (held asks : List ItD) (a : ItD) : Bool := !blocksB held asks a.a a.name a.subs
/-- Asks granted, the first that may, again and again. -/
def grantN : Nat → List ItD → List ItD → List Int → List ItD × List ItD × List Int
  | 0, h, a, o => (h, a, o)
  | n + 1, h, a, o => if idxF (mayP h a) a 0 < 0 then (h, a, o) else
    grantN n (if roomB h (a.getD (idxF (mayP h a) a 0).toNat default).a (a.getD (idxF (mayP h a) a 0).toNat default).name (a.getD (idxF (mayP h a) a 0).toNat default).subs = true then acqI h (tgt (a.getD (idxF (mayP h a) a 0).toNat default).a (a.getD (idxF (mayP h a) a 0).toNat default).name (a.getD (idxF (mayP h a) a 0).toNat default).subs) else h) (a.eraseIdx (idxF (mayP h a) a 0).toNat) (o ++ [(a.getD (idxF (mayP h a) a 0).toNat default).a])
def grantB (h a : List ItD) : List ItD × List ItD × List Int := grantN a.length h a []
theorem idxF_in {p : ItD → Bool} {l : List ItD} (h : ¬ idxF p l 0 < 0) : ∃ k : Nat, idxF p l 0 = k ∧ k < l.length ∧ p (l.getD k default) = true := by
  obtain ⟨j, h1, h2, h3⟩ := idxF_hit p l 0 (by omega)
  exact ⟨j, by rw [h2]; omega, h1, h3⟩
theorem may_free {h a : List ItD} {d : ItD} (hm : mayP h a d = true) : h.any (hBlkP d.a d.name d.subs) = false := by
  unfold mayP blocksB at hm
  rw [Bool.not_eq_true', Bool.or_eq_false_iff] at hm
  exact hm.1
theorem OkP.step {h a : List ItD} (ho : OkP h a) {k : Nat} (hk : k < a.length) (hm : mayP h a (a.getD k default) = true) : OkP (if roomB h (a.getD k default).a (a.getD k default).name (a.getD k default).subs = true then acqI h (tgt (a.getD k default).a (a.getD k default).name (a.getD k default).subs) else h) (a.eraseIdx k) := by
  have hin := ho.aok _ (getD_mem a k hk)
  have h1 := ho.sub (List.Sublist.refl h) (List.eraseIdx_sublist a k)
  split
  · next hr => exact h1.acq hin.1 hin.2.2 hr (may_free hm)
  · exact h1
theorem OkP.grantN : ∀ (n : Nat) {h a : List ItD} (o : List Int), OkP h a → OkP (Go.Proofs.YtiebcdajoddkpaaGreatDoor.grantN n h a o).1 (Go.Proofs.YtiebcdajoddkpaaGreatDoor.grantN n h a o).2.1
  | 0, h, a, o, ho => ho
  | n + 1, h, a, o, ho => by
    unfold Go.Proofs.YtiebcdajoddkpaaGreatDoor.grantN
    split
    · exact ho
    · next hlt =>
      obtain ⟨k, e, hk, hm⟩ := idxF_in hlt
      rw [e, Int.toNat_natCast]
      exact OkP.grantN n _ (ho.step hk hm)
theorem OkP.grant {h a : List ItD} (ho : OkP h a) : OkP (grantB h a).1 (grantB h a).2.1 := OkP.grantN _ _ ho
/-- Behind it nothing more may be granted. -/
theorem grantN_done : ∀ (n : Nat) (h a : List ItD) (o : List Int), a.length ≤ n → idxF (mayP (grantN n h a o).1 (grantN n h a o).2.1) (grantN n h a o).2.1 0 < 0
  | 0, h, a, o, hn => by
    obtain rfl : a = [] := List.eq_nil_of_length_eq_zero (by omega)
    show (-1 : Int) < 0
    decide
  | n + 1, h, a, o, hn => by
    unfold grantN
    split
    · next hlt => exact hlt
    · next hlt =>
      obtain ⟨k, e, hk, hm⟩ := idxF_in hlt
      rw [e, Int.toNat_natCast]
      exact grantN_done n _ _ _ (by rw [List.length_eraseIdx_of_lt hk]; omega)
theorem grant_done (h a : List ItD) : idxF (mayP (grantB h a).1 (grantB h a).2.1) (grantB h a).2.1 0 < 0 := grantN_done _ _ _ _ (Nat.le_refl _)
theorem grant_idle {h a : List ItD} (hi : idxF (mayP h a) a 0 < 0) : grantB h a = (h, a, []) := by
  unfold grantB
  cases hl : a.length with
  | zero => rfl
  | succ n => unfold grantN; rw [if_pos hi]
theorem grantN_count : ∀ (n : Nat) (h a : List ItD) (o : List Int), (grantN n h a o).2.1.length + (grantN n h a o).2.2.length = a.length + o.length
  | 0, h, a, o => rfl
  | n + 1, h, a, o => by
    unfold grantN
    split
    · rfl
    · next hlt =>
      obtain ⟨k, e, hk, hm⟩ := idxF_in hlt
      rw [e, Int.toNat_natCast, grantN_count n, List.length_eraseIdx_of_lt hk, List.length_append, List.length_singleton]
      omega
theorem grantN_sub : ∀ (n : Nat) (h a : List ItD) (o : List Int), (grantN n h a o).2.1.Sublist a
  | 0, h, a, o => List.Sublist.refl _
  | n + 1, h, a, o => by
    unfold grantN
    split
    · exact List.Sublist.refl _
    · exact (grantN_sub n _ _ _).trans (List.eraseIdx_sublist _ _)
theorem acq_jobs {h : List ItD} {t : ItD} {P : Int → Prop} (hh : ∀ d ∈ h, P d.a) (ht : P t.a) : ∀ d ∈ acqI h t, P d.a := by
  unfold acqI
  split
  · next hf =>
    intro d hd
    have hlt : posI h t < h.length := by
      unfold foundI at hf
      rw [Bool.and_eq_true, decide_eq_true_iff] at hf
      exact hf.1
    rcases List.mem_or_eq_of_mem_set hd with h1 | h1
    · exact hh d h1
    · subst h1
      exact (hh _ (getD_mem h _ hlt) : P (h.getD (posI h t) default).a)
  · intro d hd
    rcases insAt_mem hd with h1 | h1
    · exact hh d h1
    · subst h1; exact ht
theorem grantN_jobs {P : Int → Prop} : ∀ (n : Nat) (h a : List ItD) (o : List Int), (∀ d ∈ h, P d.a) → (∀ d ∈ a, P d.a) → ∀ d ∈ (grantN n h a o).1, P d.a
  | 0, h, a, o, hh, ha => hh
  | n + 1, h, a, o, hh, ha => by
    unfold grantN
    split
    · exact hh
    · next hlt =>
      obtain ⟨k, e, hk, hm⟩ := idxF_in hlt
      rw [e, Int.toNat_natCast]
      refine grantN_jobs n _ _ _ ?_ (fun d hd => ha d ((List.eraseIdx_sublist a k).subset hd))
      split
      · exact acq_jobs hh (ha _ (getD_mem a k hk) : P (a.getD k default).a)
      · exact hh
end Go.Proofs.YtiebcdajoddkpaaGreatDoor

namespace Go.Proofs.YtiebcdajoddkpaaGreatDoor
open Go.RowKit
set_option linter.unusedVariables false

/-- An answer: locks, told jobs, code. -/
def grOk (r : List ItD × List ItD × List Int) : Int × List ItD × List ItD × List Int := (0, r.1, r.2.1, r.2.2)
def grBad (c : Int) : Int × List ItD × List ItD × List Int := (c, [], [], [])
def notJob (job : Int) (d : ItD) : Bool := !decide (d.a = job)
def dropAllB (held asks : List ItD) (job : Int) : Int × List ItD × List ItD × List Int :=
  if (okB held asks && inB job 1 4) = true then grOk (grantB (held.filter (notJob job)) (asks.filter (notJob job))) else grBad 1
def overB (tick : Int) (d : ItD) : Bool := inB d.b 1 tick
def expireB (held asks : List ItD) (tick : Int) : Int × List ItD × List ItD × List Int :=
  if (okB held asks && inB tick 0 999999) = true then grOk (grantB held (asks.filter fun d => !overB tick d)) else grBad 1
def goneB (held asks : List ItD) (tick : Int) : List Int :=
  if (okB held asks && inB tick 0 999999) = true then (asks.filter (overB tick)).map (·.a) else []
def lessOne (held : List ItD) (k : Nat) : List ItD :=
  if (held.getD k default).b - 1 = 0 then held.eraseIdx k else held.set k { held.getD k default with b := (held.getD k default).b - 1 }
def dropB (held asks : List ItD) (job : Int) (nm : ByteArray) (ss : List ByteArray) : Int × List ItD × List ItD × List Int :=
  if (okB held asks && inB job 1 4 && thingB nm ss) = true then (if lockAt held job nm ss < 0 then grBad 3 else grOk (grantB (lessOne held (lockAt held job nm ss).toNat) asks)) else grBad 1
def cntB (held : List ItD) (job : Int) (nm : ByteArray) (ss : List ByteArray) : Int := if lockAt held job nm ss < 0 then 0 else (held.getD (lockAt held job nm ss).toNat default).b

/-- All is dropped: locks stay right; the job is gone; who was not there does not come. -/
theorem dropAll_ok {held asks : List ItD} {job : Int} (h : (okB held asks && inB job 1 4) = true) : (dropAllB held asks job).1 = 0 ∧ OkP (dropAllB held asks job).2.1 (dropAllB held asks job).2.2.1 ∧ (∀ P : Int → Prop, (∀ d ∈ held, d.a ≠ job → P d.a) → (∀ d ∈ asks, d.a ≠ job → P d.a) → (∀ d ∈ (dropAllB held asks job).2.1, P d.a) ∧ (∀ d ∈ (dropAllB held asks job).2.2.1, P d.a)) := by
  unfold dropAllB
  rw [if_pos h]
  rw [Bool.and_eq_true] at h
  have ho := okP_of h.1
  have h1 := (ho.sub (List.filter_sublist (p := notJob job)) (List.filter_sublist (p := notJob job)))
  refine ⟨rfl, h1.grant, fun P hP hQ => ?_⟩
  have hh : ∀ d ∈ held.filter (notJob job), P d.a := fun d hd => by
    obtain ⟨h2, h3⟩ := List.mem_filter.1 hd
    refine hP d h2 ?_
    simpa [notJob] using h3
  have ha : ∀ d ∈ asks.filter (notJob job), P d.a := fun d hd => by
    obtain ⟨h2, h3⟩ := List.mem_filter.1 hd
    refine hQ d h2 ?_
    simpa [notJob] using h3
  exact ⟨grantN_jobs _ _ _ _ hh ha, fun d hd => ha d ((grantN_sub _ _ _ _).subset hd)⟩
theorem no_jobs {held asks : List ItD} (h : OkP held asks) (h1 : ∀ d ∈ held, ¬ d.a < 5) (h2 : ∀ d ∈ asks, ¬ d.a < 5) : held = [] ∧ asks = [] := by
  constructor
  · cases held with
    | nil => rfl
    | cons d r =>
      have h3 := h.hok d (List.mem_cons_self ..)
      have h4 := h1 d (List.mem_cons_self ..)
      unfold hOk1 inB at h3
      simp only [Bool.and_eq_true, decide_eq_true_eq] at h3
      omega
  · cases asks with
    | nil => rfl
    | cons d r =>
      have h3 := (h.aok d (List.mem_cons_self ..)).1
      have h4 := h2 d (List.mem_cons_self ..)
      unfold inB at h3
      simp only [Bool.and_eq_true, decide_eq_true_eq] at h3
      omega

theorem filter_two (p : ItD → Bool) : ∀ l : List ItD, (l.filter p).length + (l.filter fun d => !p d).length = l.length
  | [] => rfl
  | d :: l => by
    have ih := filter_two p l
    rw [List.filter_cons, List.filter_cons]
    cases p d
    · simp; omega
    · simp; omega
/-- What expires. -/
theorem expire_ok {held asks : List ItD} {tick : Int} (h : (okB held asks && inB tick 0 999999) = true) : (expireB held asks tick).1 = 0 ∧ OkP (expireB held asks tick).2.1 (expireB held asks tick).2.2.1 ∧ (expireB held asks tick).2.2.1.length + (goneB held asks tick).length + (expireB held asks tick).2.2.2.length = asks.length
    ∧ expireB (expireB held asks tick).2.1 (expireB held asks tick).2.2.1 tick = (0, (expireB held asks tick).2.1, (expireB held asks tick).2.2.1, []) ∧ goneB (expireB held asks tick).2.1 (expireB held asks tick).2.2.1 tick = [] := by
  have h0 := h
  rw [Bool.and_eq_true] at h0
  have ho := okP_of h0.1
  have h1 := (ho.sub (List.Sublist.refl held) (List.filter_sublist (p := fun d => !overB tick d))).grant
  have e : expireB held asks tick = grOk (grantB held (asks.filter fun d => !overB tick d)) := by unfold expireB; rw [if_pos h]
  have eg : goneB held asks tick = (asks.filter (overB tick)).map (·.a) := by unfold goneB; rw [if_pos h]
  have hc := grantN_count (asks.filter fun d => !overB tick d).length held (asks.filter fun d => !overB tick d) []
  have hd := grant_done held (asks.filter fun d => !overB tick d)
  have hsub := grantN_sub (asks.filter fun d => !overB tick d).length held (asks.filter fun d => !overB tick d) []
  have hfl : (asks.filter (overB tick)).length + (asks.filter fun d => !overB tick d).length = asks.length := by
    exact filter_two (overB tick) asks
  have hnone : ∀ d ∈ (grantB held (asks.filter fun d => !overB tick d)).2.1, overB tick d = false := fun d hd => by
    have := (List.mem_filter.1 (hsub.subset hd)).2
    simpa using this
  refine ⟨by rw [e]; rfl, by rw [e]; exact h1, ?_, ?_, ?_⟩
  · rw [e, eg, List.length_map]
    unfold grOk
    change (grantB held (asks.filter fun d => !overB tick d)).2.1.length + _ + (grantB held (asks.filter fun d => !overB tick d)).2.2.length = _
    unfold grantB
    rw [List.length_nil] at hc
    omega
  · rw [e]
    unfold grOk
    show expireB (grantB held (asks.filter fun d => !overB tick d)).1 (grantB held (asks.filter fun d => !overB tick d)).2.1 tick = (0, (grantB held (asks.filter fun d => !overB tick d)).1, (grantB held (asks.filter fun d => !overB tick d)).2.1, [])
    unfold expireB
    rw [if_pos (by rw [h1.okB, h0.2]; rfl)]
    have ef : ((grantB held (asks.filter fun d => !overB tick d)).2.1.filter fun d => !overB tick d) = (grantB held (asks.filter fun d => !overB tick d)).2.1 := List.filter_eq_self.2 fun d hd => by rw [hnone d hd]; rfl
    rw [ef, grant_idle hd]
    rfl
  · rw [e]
    unfold grOk
    show goneB (grantB held (asks.filter fun d => !overB tick d)).1 (grantB held (asks.filter fun d => !overB tick d)).2.1 tick = []
    unfold goneB
    rw [if_pos (by rw [h1.okB, h0.2]; rfl)]
    have ef : ((grantB held (asks.filter fun d => !overB tick d)).2.1.filter (overB tick)) = [] := List.filter_eq_nil_iff.2 fun d hd => by rw [hnone d hd]; simp
    rw [ef]; rfl
theorem gone_has {held asks : List ItD} {tick : Int} (h : (okB held asks && inB tick 0 999999) = true) : ∀ d ∈ asks, decide (d.a ∈ goneB held asks tick) = overB tick d := by
  have h0 := h
  rw [Bool.and_eq_true] at h0
  have ho := okP_of h0.1
  intro d hd
  have eg : goneB held asks tick = (asks.filter (overB tick)).map (·.a) := by unfold goneB; rw [if_pos h]
  rw [eg]
  cases hv : overB tick d
  · refine decide_eq_false fun hm => ?_
    obtain ⟨x, hx, hxa⟩ := List.mem_map.1 hm
    obtain ⟨h1, h2⟩ := List.mem_filter.1 hx
    have : x = d := by
      by_cases hne : x = d
      · exact hne
      · exfalso
        obtain ⟨i, hi, rfl⟩ := List.getElem_of_mem h1
        obtain ⟨j, hj, rfl⟩ := List.getElem_of_mem hd
        have hp := List.pairwise_iff_getElem.1 ho.apw
        rcases Nat.lt_trichotomy i j with hl | hl | hl
        · exact hp i j hi hj hl hxa
        · subst hl; exact hne rfl
        · exact hp j i hj hi hl hxa.symm
    subst this
    rw [hv] at h2; cases h2
  · exact decide_eq_true (List.mem_map.2 ⟨d, List.mem_filter.2 ⟨hd, hv⟩, rfl⟩)

theorem Lks.getD_set_it (l : List ItD) (i j : Nat) (x : ItD) (hi : i < l.length) : (l.set i x).getD j default = if i = j then x else l.getD j default := by
  simp only [List.getD_eq_getElem?_getD, List.getElem?_set]
  by_cases he : i = j
  · subst he; simp [hi]
  · simp [he]
/-- A lock taken once more, and given back. -/
theorem acq_pos {held : List ItD} {job : Int} {nm : ByteArray} {ss : List ByteArray} : posI (acqI held (tgt job nm ss)) (tgt job nm ss) = posI held (tgt job nm ss) ∧ foundI (acqI held (tgt job nm ss)) (tgt job nm ss) = true := by
  have hle := posI_le held (tgt job nm ss)
  have hsp := posI_spec held (tgt job nm ss)
  have key : ∀ d e t : ItD, d.a = e.a → d.name = e.name → d.subs = e.subs → cmpIt d t = cmpIt e t := fun d e t h1 h2 h3 => by unfold cmpIt; rw [h1, h2, h3]
  cases hf : foundI held (tgt job nm ss)
  · have e : acqI held (tgt job nm ss) = insAt held (posI held (tgt job nm ss)) { tgt job nm ss with b := 1 } := by unfold acqI; rw [hf, if_neg (by decide)]
    have hz : cmpIt { tgt job nm ss with b := 1 } (tgt job nm ss) = 0 := (cmpIt_zero _ _).2 ⟨rfl, rfl, rfl⟩
    have hat : (acqI held (tgt job nm ss)).getD (posI held (tgt job nm ss)) default = { tgt job nm ss with b := 1 } := by
      rw [e, insAt_getD _ _ _ hle, if_neg (by omega), if_pos rfl]
    have hlen : (acqI held (tgt job nm ss)).length = held.length + 1 := by rw [e, insAt_len _ _ _ hle]
    have hp : posI (acqI held (tgt job nm ss)) (tgt job nm ss) = posI held (tgt job nm ss) := by
      refine posI_of _ _ _ (by omega) (fun j hj => ?_) (fun _ => by rw [hat, hz]; omega)
      rw [e, insAt_getD _ _ _ hle, if_pos hj]
      exact hsp.1 j hj
    refine ⟨hp, ?_⟩
    unfold foundI
    rw [hp, hat, hz, hlen]
    simp
    omega
  · have hlt : posI held (tgt job nm ss) < held.length ∧ cmpIt (held.getD (posI held (tgt job nm ss)) default) (tgt job nm ss) = 0 := by
      unfold foundI at hf
      rw [Bool.and_eq_true, decide_eq_true_iff, decide_eq_true_iff] at hf
      exact hf
    have e : acqI held (tgt job nm ss) = held.set (posI held (tgt job nm ss)) { held.getD (posI held (tgt job nm ss)) default with b := (held.getD (posI held (tgt job nm ss)) default).b + 1 } := by unfold acqI; rw [hf, if_pos rfl]
    have hc : ∀ j, cmpIt ((acqI held (tgt job nm ss)).getD j default) (tgt job nm ss) = cmpIt (held.getD j default) (tgt job nm ss) := fun j => by
      rw [e, Go.Proofs.YtiebcdajoddkpaaGreatDoor.Lks.getD_set_it _ _ _ _ hlt.1]
      split
      · next he => subst he; exact key _ _ _ rfl rfl rfl
      · rfl
    have hlen : (acqI held (tgt job nm ss)).length = held.length := by rw [e, List.length_set]
    have hp : posI (acqI held (tgt job nm ss)) (tgt job nm ss) = posI held (tgt job nm ss) := by
      refine posI_of _ _ _ (by omega) (fun j hj => by rw [hc]; exact hsp.1 j hj) (fun _ => by rw [hc, hlt.2]; omega)
    refine ⟨hp, ?_⟩
    unfold foundI
    rw [hp, hc, hlt.2, hlen, decide_eq_true hlt.1]
    rfl
end Go.Proofs.YtiebcdajoddkpaaGreatDoor

namespace Go.Proofs.YtiebcdajoddkpaaGreatDoor
open Go.RowKit
set_option linter.unusedVariables false

theorem erase_ins {α : Type} (l : List α) (i : Nat) (x : α) (h : i ≤ l.length) : (insAt l i x).eraseIdx i = l := by
  unfold insAt
  rw [List.append_assoc, List.eraseIdx_append_of_length_le (by rw [List.length_take]; omega), List.length_take, Nat.min_eq_left h, Nat.sub_self]
  simp
theorem ok_one {held asks : List ItD} (h : OkP held asks) : ∀ d ∈ held, 1 ≤ d.b := fun d hd => by
  have := h.hok d hd
  unfold hOk1 inB at this
  simp only [Bool.and_eq_true, decide_eq_true_eq] at this
  exact this.2.1.1
theorem found_lt {held : List ItD} {t : ItD} (h : foundI held t = true) : posI held t < held.length := by
  unfold foundI at h
  rw [Bool.and_eq_true, decide_eq_true_iff] at h
  exact h.1
theorem drop_acq {held asks : List ItD} (ho : OkP held asks) (job : Int) (nm : ByteArray) (ss : List ByteArray) : lessOne (acqI held (tgt job nm ss)) (posI held (tgt job nm ss)) = held := by
  have hle := posI_le held (tgt job nm ss)
  cases hf : foundI held (tgt job nm ss)
  · have e : acqI held (tgt job nm ss) = insAt held (posI held (tgt job nm ss)) { tgt job nm ss with b := 1 } := by unfold acqI; rw [hf, if_neg (by decide)]
    have hat : (acqI held (tgt job nm ss)).getD (posI held (tgt job nm ss)) default = { tgt job nm ss with b := 1 } := by
      rw [e, insAt_getD _ _ _ hle, if_neg (by omega), if_pos rfl]
    unfold lessOne
    rw [hat, if_pos (by rfl), e, erase_ins _ _ _ hle]
  · have hlt := found_lt hf
    have e : acqI held (tgt job nm ss) = held.set (posI held (tgt job nm ss)) { held.getD (posI held (tgt job nm ss)) default with b := (held.getD (posI held (tgt job nm ss)) default).b + 1 } := by unfold acqI; rw [hf, if_pos rfl]
    have h1 := ok_one ho _ (getD_mem held _ hlt)
    have hat : (acqI held (tgt job nm ss)).getD (posI held (tgt job nm ss)) default = { held.getD (posI held (tgt job nm ss)) default with b := (held.getD (posI held (tgt job nm ss)) default).b + 1 } := by
      rw [e, Lks.getD_set_it _ _ _ _ hlt, if_pos rfl]
    unfold lessOne
    rw [hat]
    rw [if_neg (by show ¬ (held.getD (posI held (tgt job nm ss)) default).b + 1 - 1 = 0; omega), e, List.set_set]
    have e2 : ({ held.getD (posI held (tgt job nm ss)) default with b := (held.getD (posI held (tgt job nm ss)) default).b + 1 - 1 } : ItD) = held[posI held (tgt job nm ss)] := by
      rw [getD_eq _ _ hlt]
      have : held[posI held (tgt job nm ss)].b + 1 - 1 = held[posI held (tgt job nm ss)].b := by omega
      rw [this]
    show held.set (posI held (tgt job nm ss)) { held.getD (posI held (tgt job nm ss)) default with b := (held.getD (posI held (tgt job nm ss)) default).b + 1 - 1 } = held
    rw [e2, List.set_getElem_self]
theorem cnt_acq {held asks : List ItD} (ho : OkP held asks) (job : Int) (nm : ByteArray) (ss : List ByteArray) : cntB (acqI held (tgt job nm ss)) job nm ss = cntB held job nm ss + 1 := by
  have hle := posI_le held (tgt job nm ss)
  obtain ⟨p1, p2⟩ := acq_pos (held := held) (job := job) (nm := nm) (ss := ss)
  have h1 := at_found _ job nm ss p2
  rw [p1] at h1
  unfold cntB
  rw [h1, if_neg (by omega), Int.toNat_natCast]
  cases hf : foundI held (tgt job nm ss)
  · rw [at_lost held job nm ss ho.sorted hf, if_pos (by decide)]
    have e : acqI held (tgt job nm ss) = insAt held (posI held (tgt job nm ss)) { tgt job nm ss with b := 1 } := by unfold acqI; rw [hf, if_neg (by decide)]
    rw [e, insAt_getD _ _ _ hle, if_neg (by omega), if_pos rfl]
    rfl
  · have hlt := found_lt hf
    have e : acqI held (tgt job nm ss) = held.set (posI held (tgt job nm ss)) { held.getD (posI held (tgt job nm ss)) default with b := (held.getD (posI held (tgt job nm ss)) default).b + 1 } := by unfold acqI; rw [hf, if_pos rfl]
    rw [at_found held job nm ss hf, if_neg (by omega), Int.toNat_natCast, e, Lks.getD_set_it _ _ _ _ hlt, if_pos rfl]
theorem idxF_find (p : ItD → Bool) : ∀ (l : List ItD) (k : Nat), (if idxF p l k < 0 then (0 : Int) else (l.getD (idxF p l k - k).toNat default).b) = ((l.find? p).map (·.b)).getD 0
  | [], k => rfl
  | d :: r, k => by
    have hb := idxF_bd p r (k + 1)
    have ih := idxF_find p r (k + 1)
    unfold idxF
    rw [List.find?_cons]
    by_cases hd : p d = true
    · rw [if_pos hd, hd, if_neg (by omega), show ((k : Int) - k).toNat = 0 from by omega]
      rfl
    · rw [if_neg hd, Bool.not_eq_true _ |>.mp hd]
      simp only
      rw [← ih]
      by_cases hn : idxF p r (k + 1) < 0
      · rw [if_pos hn, if_pos hn]
      · rw [if_neg hn, if_neg hn]
        have hge : ((k + 1 : Nat) : Int) ≤ idxF p r (k + 1) := by
          obtain ⟨j, _, h2, _⟩ := idxF_hit p r (k + 1) (by omega)
          omega
        have e : (idxF p r (k + 1) - (k : Int)).toNat = (idxF p r (k + 1) - ((k + 1 : Nat) : Int)).toNat + 1 := by omega
        rw [e, List.getD_cons_succ]
theorem cnt_find (held : List ItD) (job : Int) (nm : ByteArray) (ss : List ByteArray) : cntB held job nm ss = ((held.find? (atP job nm ss)).map (·.b)).getD 0 := by
  rw [← idxF_find (atP job nm ss) held 0]
  unfold cntB lockAt
  simp
theorem find_mid (p : ItD → Bool) (l r : List ItD) (x : ItD) (h : p x = false) : (l ++ [x] ++ r).find? p = (l ++ r).find? p := by
  rw [List.append_assoc, List.find?_append, List.singleton_append, List.find?_cons, h, List.find?_append]
theorem acq_find {held : List ItD} {t : ItD} {p : ItD → Bool} (h : ∀ d : ItD, d.a = t.a → p d = false) : (acqI held t).find? p = held.find? p := by
  have hle := posI_le held t
  unfold acqI
  split
  · next hf =>
    have hlt := found_lt hf
    have ha : (held.getD (posI held t) default).a = t.a := by
      unfold foundI at hf
      rw [Bool.and_eq_true, decide_eq_true_iff, decide_eq_true_iff] at hf
      exact ((cmpIt_zero _ _).1 hf.2).1
    rw [List.set_eq_take_append_cons_drop, if_pos hlt]
    have e : held = held.take (posI held t) ++ [held.getD (posI held t) default] ++ held.drop (posI held t + 1) := by
      rw [getD_eq _ _ hlt, List.append_assoc, List.singleton_append, ← List.drop_eq_getElem_cons hlt, List.take_append_drop]
    have e2 : held.take (posI held t) ++ ({ held.getD (posI held t) default with b := (held.getD (posI held t) default).b + 1 } :: held.drop (posI held t + 1)) = held.take (posI held t) ++ [{ held.getD (posI held t) default with b := (held.getD (posI held t) default).b + 1 }] ++ held.drop (posI held t + 1) := by
      rw [List.append_assoc, List.singleton_append]
    rw [e2]
    refine (find_mid p _ _ { held.getD (posI held t) default with b := (held.getD (posI held t) default).b + 1 } (h { held.getD (posI held t) default with b := (held.getD (posI held t) default).b + 1 } ha)).trans ?_
    conv => rhs; rw [e]
    exact (find_mid p _ _ _ (h _ ha)).symm
  · unfold insAt
    refine (find_mid p _ _ { t with b := 1 } (h { t with b := 1 } rfl)).trans ?_
    rw [List.take_append_drop]
theorem cnt_grantN {job : Int} {nm : ByteArray} {ss : List ByteArray} : ∀ (n : Nat) (h a : List ItD) (o : List Int), (∀ d ∈ a, d.a ≠ job) → cntB (grantN n h a o).1 job nm ss = cntB h job nm ss
  | 0, h, a, o, ha => rfl
  | n + 1, h, a, o, ha => by
    unfold grantN
    split
    · rfl
    · next hlt =>
      obtain ⟨k, e, hk, hm⟩ := idxF_in hlt
      rw [e, Int.toNat_natCast, cnt_grantN n _ _ _ (fun d hd => ha d ((List.eraseIdx_sublist a k).subset hd))]
      have hne := ha _ (getD_mem a k hk)
      split
      · rw [cnt_find, cnt_find, acq_find (fun d hd => by
          unfold atP
          have : d.a ≠ job := by rw [hd]; exact hne
          rw [decide_eq_false this]; rfl)]
      · rfl
theorem grantN_grows : ∀ (n : Nat) (h a : List ItD) (o : List Int), o.length ≤ (grantN n h a o).2.2.length
  | 0, h, a, o => Nat.le_refl _
  | n + 1, h, a, o => by
    unfold grantN
    split
    · exact Nat.le_refl _
    · have := grantN_grows n (if roomB h (a.getD (idxF (mayP h a) a 0).toNat default).a (a.getD (idxF (mayP h a) a 0).toNat default).name (a.getD (idxF (mayP h a) a 0).toNat default).subs = true then acqI h (tgt (a.getD (idxF (mayP h a) a 0).toNat default).a (a.getD (idxF (mayP h a) a 0).toNat default).name (a.getD (idxF (mayP h a) a 0).toNat default).subs) else h) (a.eraseIdx (idxF (mayP h a) a 0).toNat) (o ++ [(a.getD (idxF (mayP h a) a 0).toNat default).a])
      rw [List.length_append, List.length_singleton] at this
      omega
theorem grant_none {h a : List ItD} (hn : (grantB h a).2.2.length = 0) : grantB h a = (h, a, []) := by
  refine grant_idle ?_
  unfold grantB at hn
  cases hl : a.length with
  | zero =>
    obtain rfl := List.eq_nil_of_length_eq_zero hl
    show (-1 : Int) < 0
    decide
  | succ n =>
    rw [hl] at hn
    unfold grantN at hn
    split at hn
    · next hlt => exact hlt
    · exfalso
      have := grantN_grows n (if roomB h (a.getD (idxF (mayP h a) a 0).toNat default).a (a.getD (idxF (mayP h a) a 0).toNat default).name (a.getD (idxF (mayP h a) a 0).toNat default).subs = true then acqI h (tgt (a.getD (idxF (mayP h a) a 0).toNat default).a (a.getD (idxF (mayP h a) a 0).toNat default).name (a.getD (idxF (mayP h a) a 0).toNat default).subs) else h) (a.eraseIdx (idxF (mayP h a) a 0).toNat) ([] ++ [(a.getD (idxF (mayP h a) a 0).toNat default).a])
      rw [hn] at this
      simp at this
theorem asked_none {asks : List ItD} {job : Int} (h : askAt asks job < 0) : ∀ d ∈ asks, d.a ≠ job := by
  intro d hd e
  have h1 := idxF_any (jobP job) asks 0
  unfold askAt at h
  rw [decide_eq_false (by omega)] at h1
  have h2 := (List.any_eq_false.1 h1.symm) d hd
  unfold jobP at h2
  exact h2 (decide_eq_true e)
/-- An ask more leaves right locks right. -/
theorem OkP.ask {held asks : List ItD} (h : OkP held asks) {job t : Int} {nm : ByteArray} {ss : List ByteArray} (hj : inB job 1 4 = true) (htm : inB t 0 999999 = true) (ht : thingB nm ss = true) (hn : askAt asks job < 0) : OkP held (asks ++ [⟨job, t, nm, ss⟩]) := by
  have hno := asked_none hn
  have hpw : (asks ++ [⟨job, t, nm, ss⟩] : List ItD).Pairwise (fun x y => x.a ≠ y.a) := by
    rw [List.pairwise_append]
    refine ⟨h.apw, List.pairwise_singleton _ _, fun x hx y hy => ?_⟩
    obtain rfl := List.mem_singleton.1 hy
    exact hno x hx
  have hok : ∀ d ∈ (asks ++ [⟨job, t, nm, ss⟩] : List ItD), inB d.a 1 4 = true ∧ inB d.b 0 999999 = true ∧ thingB d.name d.subs = true := fun d hd => by
    rcases List.mem_append.1 hd with h1 | h1
    · exact h.aok d h1
    · obtain rfl := List.mem_singleton.1 h1
      exact ⟨hj, htm, ht⟩
  refine ⟨h.hlen, ?_, h.hok, h.hpw, hok, hpw⟩
  refine asks_four _ (allFrom_of _ _ fun j _ hj' => ?_)
  have hj2 : j < (asks ++ [⟨job, t, nm, ss⟩] : List ItD).length := by omega
  unfold askIAt
  rw [getD_eq _ _ hj2]
  have ha := hok _ (List.getElem_mem hj2)
  simp only [Bool.and_eq_true, Bool.not_eq_true']
  refine ⟨ha.1, ?_, ha.2.1, ha.2.2⟩
  rw [List.any_eq_false]
  intro x hx
  obtain ⟨i, hi, rfl⟩ := List.getElem_of_mem hx
  rw [List.length_take] at hi
  rw [List.getElem_take]
  unfold jobP
  simpa using List.pairwise_iff_getElem.1 hpw i j (by omega) hj2 (by omega)
theorem ask_at {asks : List ItD} {job t : Int} {nm : ByteArray} {ss : List ByteArray} (hn : askAt asks job < 0) : askAt (asks ++ [⟨job, t, nm, ss⟩]) job = asks.length := by
  have hno := asked_none hn
  unfold askAt
  have hb := idxF_before (jobP job) (asks ++ [⟨job, t, nm, ss⟩]) 0 asks.length (by simp) (by rw [getD_eq _ _ (by simp)]; simp [jobP])
  rw [Nat.zero_add] at hb
  refine hb.2 ?_
  rw [List.take_left, List.any_eq_false]
  intro x hx
  unfold jobP
  simpa using hno x hx
theorem ask_waits {held asks : List ItD} {job t : Int} {nm : ByteArray} {ss : List ByteArray} (hn : askAt asks job < 0) (hb : blocksB held asks job nm ss = true) : frontI held (asks ++ [⟨job, t, nm, ss⟩]) job nm ss = true := by
  rw [← frontI_eq] at hb
  unfold frontI earlier at hb ⊢
  rw [if_neg (by omega)] at hb
  rw [ask_at hn, if_pos (by omega), Int.toNat_natCast, List.take_left]
  exact hb
end Go.Proofs.YtiebcdajoddkpaaGreatDoor

