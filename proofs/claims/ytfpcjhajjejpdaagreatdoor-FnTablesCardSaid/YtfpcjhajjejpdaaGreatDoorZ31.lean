/-
  Tables, plainly: what is inserted is found, and gone again when it is deleted.
-/
import Derived.Test.YtfpcjhajjejpdaaGreatDoorZ27
import Derived.Test.YtfpcjhajjejpdaaGreatDoorZ29
import Derived.Test.YtfpcjhajjejpdaaGreatDoorZ30
namespace Go.Proofs.YtfpcjhajjejpdaaGreatDoor
open Go.RowKit
set_option linter.unusedVariables false

def rowsOfB (fs : List NodeD) (b : TableD) : Int × List (List ByteArray) := if (treeB fs && tabB b) = true then rowsT b.cols (rowsN b.glob fs) else (1, [])
def rowAtOfB (fs : List NodeD) (b : TableD) (key : ByteArray) : Int × List ByteArray := if (treeB fs && tabB b) = true then rowAtB b.cols (rowsN b.glob fs) key else (1, [])
def delB (fs : List NodeD) (b : TableD) (key : ByteArray) : Int × List ChgD :=
  if (rowAtOfB fs b key).1 = 0 then (0, ⟨2, b.glob, [rS, (rowAtOfB fs b key).2.getD 0 ByteArray.empty], ⟨#[]⟩⟩ :: idxsC 2 b (rowAtOfB fs b key).2) else ((rowAtOfB fs b key).1, [])

theorem cell_noMark {s : ByteArray} (h : cellB s = true) : (94 : UInt8) ∉ s.data.toList := by
  unfold cellB at h
  rw [Bool.and_eq_true, List.all_eq_true] at h
  intro hm
  have := h.1 _ hm
  unfold cellC at this
  simp only [Bool.and_eq_true, decide_eq_true_eq] at this
  exact this.2.2 rfl
theorem join_free (c : UInt8) : ∀ (l : List (List UInt8)), l ≠ [] → (∀ x ∈ l, c ∉ x) → cutL c (Lib.join l [c]) = l
  | [], h, _ => absurd rfl h
  | [x], _, hf => by rw [join_oneL, cutL_free c x (hf x (by simp))]
  | x :: y :: r, _, hf => by
    rw [join_cons2, List.append_assoc]
    rw [show [c] ++ Lib.join (y :: r) [c] = c :: Lib.join (y :: r) [c] from rfl]
    rw [cutL_mark c x _ (hf x (by simp)), join_free c (y :: r) (by simp) (fun z hz => hf z (List.mem_cons_of_mem _ hz))]
theorem mk_toList (s : ByteArray) : (⟨s.data.toList.toArray⟩ : ByteArray) = s := by cases s; simp
/-- A right row is read back from its text. -/
theorem unpack_pack {cols r : List ByteArray} (h : rowB cols r = true) (hc : 0 < cols.length) : unpackB cols (r.getD 0 ByteArray.empty) (packB r) = some r := by
  have h0 := h
  unfold rowB at h
  simp only [Bool.and_eq_true, decide_eq_true_eq, List.all_eq_true] at h
  obtain ⟨hl, hk, hcell⟩ := h
  have hkv : rowOfKV cols (r.getD 0 ByteArray.empty) (packB r) = r := by
    unfold rowOfKV
    match r, hl with
    | [], hl => simp at hl; omega
    | x :: t, hl =>
      simp only [List.getD_cons_zero]
      congr 1
      by_cases h1 : 1 < cols.length
      · rw [if_pos h1]
        unfold cutS packB
        simp only [List.drop_succ_cons, List.drop_zero]
        rw [join_free 94 (t.map (·.data.toList)) (by
          intro e
          have := congrArg List.length e
          simp at this hl
          subst this
          simp at hl
          omega) (fun y hy => by
          obtain ⟨s, hs, rfl⟩ := List.mem_map.1 hy
          exact cell_noMark (hcell s (List.mem_cons_of_mem _ hs)))]
        rw [List.map_map]
        conv => rhs; rw [← List.map_id t]
        apply List.map_congr_left
        intro s _
        exact mk_toList s
      · rw [if_neg h1]
        have : t.length = 0 := by simp at hl; omega
        exact (List.eq_nil_of_length_eq_zero this).symm
  unfold unpackB
  rw [hkv, h0, if_neg]
  simp only [Bool.not_true, Bool.or_false, Bool.and_eq_true, decide_eq_true_eq, not_and]
  intro h1 h2
  apply h2
  unfold packB
  match r, hl with
  | [], hl => simp at hl; omega
  | [x], _ => rfl
  | x :: y :: t, hl => simp at hl; omega
theorem pack_small {cols r : List ByteArray} (h : rowB cols r = true) (hc : cols.length ≤ 5) : (packB r).size ≤ 64 := by
  unfold rowB at h
  simp only [Bool.and_eq_true, decide_eq_true_eq, List.all_eq_true] at h
  obtain ⟨hl, hk, hcell⟩ := h
  have hj : ∀ (l : List (List UInt8)), (∀ x ∈ l, x.length ≤ 11) → (Lib.join l [94]).length ≤ 12 * l.length := by
    intro l
    induction l with
    | nil => intro _; simp [Lib.join, List.intercalate]
    | cons x t ih =>
      intro hx
      match t, ih with
      | [], _ => rw [join_oneL]; have := hx x (by simp); simp; omega
      | y :: t, ih =>
        rw [join_cons2]
        have h1 := hx x (by simp)
        have h2 := ih (fun z hz => hx z (List.mem_cons_of_mem _ hz))
        simp only [List.length_append, List.length_cons, List.length_nil] at h2 ⊢
        omega
  have h1 := hj ((r.drop 1).map (·.data.toList)) (fun x hx => by
    obtain ⟨s, hs, rfl⟩ := List.mem_map.1 hx
    have := hcell s (List.mem_of_mem_drop hs)
    unfold cellB at this
    rw [Bool.and_eq_true] at this
    have h3 := of_decide_eq_true this.2
    simpa using h3)
  rw [List.length_map, List.length_drop] at h1
  unfold packB
  show (Lib.join ((r.drop 1).map (·.data.toList)) [94]).toArray.size ≤ 64
  rw [List.size_toArray]
  omega
theorem tab_facts {b : TableD} (h : tabB b = true) : nameB b.glob = true ∧ 1 ≤ b.cols.length ∧ b.cols.length ≤ 5 ∧ b.idx.length < b.cols.length ∧ ∀ c ∈ b.idx, 0 < placeI b.cols c := by
  unfold tabB at h
  simp only [Bool.and_eq_true, decide_eq_true_eq] at h
  obtain ⟨_, h1, h2, h3, h4, _, h5⟩ := h
  refine ⟨h1, h2, h3, h4, ?_⟩
  have : ∀ (l : List ByteArray) (k : Int), 0 ≤ k → idxB b.cols l k = true → ∀ c ∈ l, 0 < placeI b.cols c := by
    intro l
    induction l with
    | nil => intro _ _ _ c hc; simp at hc
    | cons x t ih =>
      intro k hk hx c hc
      unfold idxB at hx
      rw [Bool.and_eq_true, decide_eq_true_eq] at hx
      rcases List.mem_cons.1 hc with rfl | h6
      · omega
      · exact ih _ (by omega) hx.2 c h6
  exact this b.idx 0 (by omega) h5
theorem cell_sub {s : ByteArray} (h : cellB s = true) (hne : s ≠ ⟨#[]⟩) : subB s = true := by
  unfold cellB at h
  rw [Bool.and_eq_true] at h
  have h2 := of_decide_eq_true h.2
  unfold subB
  rw [Bool.and_eq_true]
  refine ⟨decide_eq_true ?_, decide_eq_true (by omega)⟩
  rcases Nat.eq_zero_or_pos s.size with h0 | h0
  · exfalso
    apply hne
    cases s with | mk d =>
    congr
    exact Array.eq_empty_of_size_eq_zero h0
  · exact h0
theorem row_cell {cols r : List ByteArray} (h : rowB cols r = true) (k : Nat) : cellB (r.getD k ByteArray.empty) = true := by
  unfold rowB at h
  simp only [Bool.and_eq_true, decide_eq_true_eq, List.all_eq_true] at h
  by_cases hk : k < r.length
  · exact h.2.2 _ (getD_memS r k hk)
  · rw [List.getD_eq_getElem?_getD, List.getElem?_eq_none (by omega)]
    decide
theorem row_key {cols r : List ByteArray} (h : rowB cols r = true) : subB (r.getD 0 ByteArray.empty) = true := by
  have h2 := h
  unfold rowB at h2
  simp only [Bool.and_eq_true, decide_eq_true_eq] at h2
  exact cell_sub (row_cell h 0) h2.2.1
theorem name_sub {s : ByteArray} (h : nameB s = true) : subB s = true := by
  unfold nameB at h
  rw [Bool.and_eq_true, decide_eq_true_eq] at h
  unfold subB
  rw [Bool.and_eq_true]
  refine ⟨decide_eq_true ?_, decide_eq_true (by omega)⟩
  rcases Nat.eq_zero_or_pos s.size with h0 | h0
  · exfalso
    have : s.data.toList = [] := List.eq_nil_of_length_eq_zero (by simpa using h0)
    rw [this] at h
    cases h.2
  · exact h0
theorem col_name {b : TableD} (h : tabB b = true) {c : ByteArray} (hc : 0 ≤ placeI b.cols c) : nameB c = true := by
  obtain ⟨j, h1, _, h3⟩ := place_get hc
  rw [← h3]
  exact (tab_cols h j h1).1
/-- The changes of a row's nodes in the indexes are right. -/
theorem idxs_ok {b : TableD} {r : List ByteArray} (kind : Int) (hk : kind = 1 ∨ kind = 2) (h : tabB b = true) (hr : rowB b.cols r = true) : ∀ c ∈ idxsC kind b r, changeB c = true ∧ c.kind = kind ∧ c.name = b.glob ∧ c.subs.getD 0 ByteArray.empty = iS ∧ c.subs.length = 4 := by
  obtain ⟨t1, t2, t3, t4, t5⟩ := tab_facts h
  intro c hc
  unfold idxsC at hc
  rw [List.mem_flatMap] at hc
  obtain ⟨x, hx, hc⟩ := hc
  unfold idxC at hc
  split at hc
  · simp at hc
  · next hne =>
    rw [List.mem_singleton] at hc
    subst hc
    refine ⟨?_, rfl, rfl, rfl, rfl⟩
    have h2 := t5 x hx
    have h3 : subsB [iS, x, cellAt b.cols r x, r.getD 0 ByteArray.empty] = true := by
      unfold subsB
      simp only [List.all_cons, List.all_nil, Bool.and_true]
      rw [name_sub (col_name h (c := x) (by omega)), cell_sub (s := cellAt b.cols r x) (row_cell hr _) hne, row_key hr]
      rfl
    unfold changeB thingB
    rw [t1, h3]
    rcases hk with rfl | rfl
    · simp
      decide
    · simp
theorem setR_ok {b : TableD} {r : List ByteArray} (h : tabB b = true) (hr : rowB b.cols r = true) : changeB (setR b.glob r) = true := by
  obtain ⟨t1, t2, t3, t4, t5⟩ := tab_facts h
  have h3 : subsB [rS, r.getD 0 ByteArray.empty] = true := by
    unfold subsB
    simp only [List.all_cons, List.all_nil, Bool.and_true]
    rw [row_key hr]
    rfl
  unfold changeB thingB setR
  simp only []
  rw [t1, h3, decide_eq_true (pack_small hr t3)]
  rfl
theorem idxs_len {b : TableD} {r : List ByteArray} (kind : Int) : (idxsC kind b r).length ≤ b.idx.length := by
  unfold idxsC
  generalize b.idx = l
  induction l with
  | nil => simp
  | cons x t ih =>
    rw [List.flatMap_cons, List.length_append, List.length_cons]
    have : (idxC kind b.glob b.cols r x).length ≤ 1 := by unfold idxC; split <;> simp
    omega
/-- Right changes to a right tree: what does not concern them stays; the only code is 'too many'. -/
theorem doAll_keep (g : ByteArray) (p : NodeD → Bool) (hp : ∀ d, p d = true → d.name = g → d.subs.getD 0 ByteArray.empty ≠ iS) : ∀ (cs : List ChgD) (fs : List NodeD), treeB fs = true → (∀ c ∈ cs, changeB c = true ∧ c.name = g ∧ c.subs.getD 0 ByteArray.empty = iS ∧ c.subs.length = 4) →
    ((doAllB fs cs).1 = 0 ∧ (doAllB fs cs).2.filter p = fs.filter p) ∨ (doAllB fs cs).1 = 4
  | [], fs, _, _ => .inl ⟨rfl, rfl⟩
  | c :: r, fs, ht, hc => by
    obtain ⟨h1, h2, h3, h4⟩ := hc c (by simp)
    unfold doAllB
    have e : doOneB fs c = doB fs c := by unfold doOneB; rw [ht, h1]; rfl
    have htr := fun h0 => doOne_tree (fs := fs) (c := c) h0
    rw [e] at htr
    rw [e]
    by_cases hk : c.kind = 1
    · have e2 : doB fs c = putB fs c.name c.subs c.val := by unfold doB; rw [if_pos hk]
      rw [e2] at htr ⊢
      rcases putB_code fs c.name c.subs c.val with h0 | h0
      · rw [if_pos h0]
        have hflt : (putB fs c.name c.subs c.val).2.filter p = fs.filter p := by
          unfold putB at h0 ⊢
          split at h0
          · cases h0
          · next hn =>
            rw [if_neg hn]
            refine put_filter _ _ _ p fun d hd hs => ?_
            cases hpd : p d with
            | false => rfl
            | true => exact absurd (by rw [hs]; exact h3) (hp d hpd (hd.trans h2))
        rcases doAll_keep g p hp r _ (htr h0) (fun c' hc' => hc c' (List.mem_cons_of_mem _ hc')) with ⟨h5, h6⟩ | h5
        · exact .inl ⟨h5, h6.trans hflt⟩
        · exact .inr h5
      · rw [h0]
        exact .inr rfl
    · have e2 : doB fs c = (0, killB fs c.name c.subs) := by unfold doB; rw [if_neg hk]
      rw [e2] at htr ⊢
      simp only [if_true]
      have hflt : (killB fs c.name c.subs).filter p = fs.filter p := by
        unfold killB
        rw [List.filter_filter]
        apply List.filter_congr
        intro d _
        cases hpd : p d with
        | false => rfl
        | true =>
          have : inN c.name c.subs d = false := by
            cases hin : inN c.name c.subs d with
            | false => rfl
            | true =>
              unfold inN at hin
              rw [Bool.and_eq_true, decide_eq_true_eq] at hin
              refine absurd ?_ (hp d hpd (hin.1.trans h2))
              have h5 := hin.2
              match hs : c.subs, h4 with
              | x :: t, _ =>
                rw [hs] at h5 h3
                match hd : d.subs with
                | [] => rw [hd] at h5; cases h5
                | y :: u =>
                  rw [hd] at h5
                  unfold startsB at h5
                  simp only [List.getD_cons_zero] at h3 ⊢
                  simp only [Bool.and_eq_true, decide_eq_true_eq] at h5
                  rw [← h5.1]
                  exact h3
          rw [this]
          rfl
      rcases doAll_keep g p hp r _ (htr rfl) (fun c' hc' => hc c' (List.mem_cons_of_mem _ hc')) with ⟨h5, h6⟩ | h5
      · exact .inl ⟨h5, h6.trans hflt⟩
      · exact .inr h5
theorem row_not_i {g : ByteArray} : ∀ d, isRowB g d = true → d.name = g → d.subs.getD 0 ByteArray.empty ≠ iS := by
  intro d hd _ e
  unfold isRowB at hd
  simp only [Bool.and_eq_true, decide_eq_true_eq] at hd
  rw [hd.2.2] at e
  exact absurd e (by decide)
theorem doAll_kills (g : ByteArray) : ∀ (cs : List ChgD) (fs : List NodeD), treeB fs = true → (∀ c ∈ cs, changeB c = true ∧ c.kind = 2) → (doAllB fs cs).1 = 0
  | [], _, _, _ => rfl
  | c :: r, fs, ht, hc => by
    obtain ⟨h1, h2⟩ := hc c (by simp)
    unfold doAllB
    have e : doOneB fs c = (0, killB fs c.name c.subs) := by unfold doOneB doB; rw [ht, h1, if_pos (by rfl), if_neg (by omega)]
    rw [e]
    simp only [if_true]
    exact doAll_kills g r _ (kill_tree _ _ ht) (fun c' hc' => hc c' (List.mem_cons_of_mem _ hc'))
theorem unpAll_append (f : NodeD → Option (List ByteArray)) : ∀ (a c : List NodeD), unpAll f (a ++ c) = (unpAll f a).bind fun x => (unpAll f c).map (x ++ ·)
  | [], c => by simp [unpAll]
  | d :: t, c => by
    show (match f d with | none => none | some x => (unpAll f (t ++ c)).map (x :: ·)) = (match f d with | none => none | some x => (unpAll f t).map (x :: ·)).bind fun x => (unpAll f c).map (x ++ ·)
    rw [unpAll_append f t c]
    cases f d with
    | none => rfl
    | some x =>
      cases unpAll f t with
      | none => rfl
      | some ys =>
        cases unpAll f c with
        | none => rfl
        | some zs => rfl
/-- FnTables, plainly. -/
structure TabIsL (fs : List NodeD) (b : TableD) (r : List ByteArray) (X : Int × List NodeD) : Prop where
  code : X.1 = 0 ∨ X.1 = 4
  at_ : X.1 = 0 → rowAtOfB X.2 b (r.getD 0 ByteArray.empty) = (0, r)
  rows : X.1 = 0 → (rowsOfB X.2 b).1 = 0 ∧ (rowsOfB X.2 b).2.length = (rowsOfB fs b).2.length + 1
  gone : X.1 = 0 → (delB X.2 b (r.getD 0 ByteArray.empty)).1 = 0 ∧
    (doChangesB X.2 (delB X.2 b (r.getD 0 ByteArray.empty)).2).1 = 0 ∧
    rowsOfB (doChangesB X.2 (delB X.2 b (r.getD 0 ByteArray.empty)).2).2 b = rowsOfB fs b
def TabIs (fs : List NodeD) (b : TableD) (r : List ByteArray) : Prop := TabIsL fs b r (doChangesB fs (insB fs b r).2)
theorem tables_is {fs : List NodeD} {b : TableD} {r : List ByteArray} (h1 : (insB fs b r).1 = 0) (h2 : (rowsOfB fs b).1 = 0) : TabIs fs b r := by
  have hg : (treeB fs = true ∧ tabB b = true ∧ rowB b.cols r = true) ∧ atI (rowsN b.glob fs) (r.getD 0 ByteArray.empty) < 0 ∧ (rowsN b.glob fs).length < 24 ∧ (insB fs b r).2 = setR b.glob r :: idxsC 1 b r := by
    unfold insB at h1 ⊢
    split at h1
    · next hh =>
      rw [if_pos hh]
      split at h1
      · cases h1
      · next ha =>
        rw [if_neg ha]
        split at h1
        · cases h1
        · next hl =>
          rw [if_neg hl]
          simp only [Bool.and_eq_true] at hh
          exact ⟨hh, by omega, by omega, rfl⟩
    · cases h1
  obtain ⟨⟨ht, hb, hr⟩, hat, hlen, hlist⟩ := hg
  obtain ⟨t1, t2, t3, t4, t5⟩ := tab_facts hb
  unfold TabIs
  rw [hlist]
  generalize hkey : r.getD 0 ByteArray.empty = key at *
  -- the row's node put
  have hset := setR_ok hb hr
  have hlenC : ¬ 120 < (setR b.glob r :: idxsC 1 b r).length := by
    have := idxs_len (b := b) (r := r) 1
    rw [List.length_cons]
    omega
  have e0 : doChangesB fs (setR b.glob r :: idxsC 1 b r) = doAllB fs (setR b.glob r :: idxsC 1 b r) := by unfold doChangesB; rw [if_pos ht, if_neg hlenC]
  have e1 : doOneB fs (setR b.glob r) = putB fs b.glob [rS, key] (packB r) := by
    unfold doOneB doB
    rw [ht, hset]
    unfold setR
    rw [hkey]
    rfl
  have hno : hasN fs b.glob [rS, key] = false := by
    cases hh : hasN fs b.glob [rS, key] with
    | false => rfl
    | true =>
      exfalso
      unfold hasN hereN at hh
      simp only [Bool.and_eq_true, decide_eq_true_eq] at hh
      obtain ⟨hl, g1, g2⟩ := hh
      have hm : fs.getD (atN fs b.glob [rS, key]) default ∈ rowsN b.glob fs := by
        unfold rowsN
        rw [List.mem_filter]
        refine ⟨getD_memD _ _ hl, ?_⟩
        unfold isRowB
        rw [g1, g2]
        simp [rS]
      obtain ⟨j, _, h3, _⟩ := at_node ht hm
      rw [g2] at h3
      simp only [List.getD_cons_succ, List.getD_cons_zero] at h3
      omega
  have htr0 := fun h0 => doOne_tree (fs := fs) (c := setR b.glob r) h0
  rw [e1] at htr0
  rw [e0]
  have e2 : doAllB fs (setR b.glob r :: idxsC 1 b r) = if (putB fs b.glob [rS, key] (packB r)).1 = 0 then doAllB (putB fs b.glob [rS, key] (packB r)).2 (idxsC 1 b r) else ((putB fs b.glob [rS, key] (packB r)).1, []) := by
    rw [doAllB, e1]
  rw [e2]
  rcases putB_code fs b.glob [rS, key] (packB r) with h0 | h0
  case inr =>
    rw [h0, if_neg (by decide)]
    exact ⟨.inr rfl, fun h => absurd h (by decide), fun h => absurd h (by decide), fun h => absurd h (by decide)⟩
  rw [if_pos h0]
  have htx := htr0 h0
  have hput : (putB fs b.glob [rS, key] (packB r)).2 = putN fs b.glob [rS, key] (packB r) := by
    unfold putB at h0 ⊢
    split at h0
    · cases h0
    · next hn => rw [if_neg hn]
  generalize hX0 : (putB fs b.glob [rS, key] (packB r)).2 = X0 at *
  have hidx := idxs_ok (b := b) (r := r) 1 (.inl rfl) hb hr
  have hkeep := doAll_keep b.glob (isRowB b.glob) row_not_i (idxsC 1 b r) X0 htx (fun c hc => ⟨(hidx c hc).1, (hidx c hc).2.2.1, (hidx c hc).2.2.2.1, (hidx c hc).2.2.2.2⟩)
  have hrow0 : rowsN b.glob X0 = rowsN b.glob (fs.take (atN fs b.glob [rS, key])) ++ ⟨b.glob, [rS, key], packB r⟩ :: rowsN b.glob (fs.drop (atN fs b.glob [rS, key])) := by
    rw [hput]
    unfold putN rowsN
    rw [hno, if_neg (by simp), List.filter_append, List.filter_cons]
    have : isRowB b.glob ⟨b.glob, [rS, key], packB r⟩ = true := by unfold isRowB; simp [rS]
    rw [if_pos this]
  have hrowf : rowsN b.glob fs = rowsN b.glob (fs.take (atN fs b.glob [rS, key])) ++ rowsN b.glob (fs.drop (atN fs b.glob [rS, key])) := by
    unfold rowsN
    rw [← List.filter_append, List.take_append_drop]
  generalize hA : rowsN b.glob (fs.take (atN fs b.glob [rS, key])) = PA at *
  generalize hB : rowsN b.glob (fs.drop (atN fs b.glob [rS, key])) = PB at *
  generalize hX : doAllB X0 (idxsC 1 b r) = X at *
  rcases hkeep with ⟨hx1, hx2⟩ | hx1
  case inr => exact ⟨.inr hx1, fun h => absurd (hx1.symm.trans h) (by decide), fun h => absurd (hx1.symm.trans h) (by decide), fun h => absurd (hx1.symm.trans h) (by decide)⟩
  have htX : treeB X.2 = true := by rw [← hX]; exact doAll_tree _ _ htx (by rw [hX]; exact hx1)
  have hrX : rowsN b.glob X.2 = PA ++ ⟨b.glob, [rS, key], packB r⟩ :: PB := by rw [← hrow0]; exact hx2
  have hmem : (⟨b.glob, [rS, key], packB r⟩ : NodeD) ∈ rowsN b.glob X.2 := by rw [hrX]; simp
  have hunp : unpackB b.cols key (packB r) = some r := by rw [← hkey]; exact unpack_pack hr (by omega)
  have hat2 : rowAtB b.cols (rowsN b.glob X.2) key = (0, r) := by
    obtain ⟨j, j1, j2, j3⟩ := at_node htX hmem
    simp only [List.getD_cons_succ, List.getD_cons_zero] at j2
    unfold rowAtB
    rw [j2, if_neg (by omega), Int.toNat_natCast, j3, hunp]
    rfl
  have hato : rowAtOfB X.2 b key = (0, r) := by
    unfold rowAtOfB
    rw [htX, hb]
    exact hat2
  -- all rows
  have hrf : rowsOfB fs b = rowsT b.cols (PA ++ PB) := by
    unfold rowsOfB
    rw [ht, hb, hrowf]
    rfl
  have hall : ∃ ra rb, unpAll (kvOf b.cols) PA = some ra ∧ unpAll (kvOf b.cols) PB = some rb ∧ rowsOfB fs b = (0, ra ++ rb) := by
    rw [hrf] at h2 ⊢
    unfold rowsT at h2 ⊢
    split at h2
    · cases h2
    · next hl =>
      rw [if_neg hl]
      rw [unpAll_append] at h2 ⊢
      cases hua : unpAll (kvOf b.cols) PA with
      | none => rw [hua] at h2; cases h2
      | some ra =>
        rw [hua] at h2
        cases hub : unpAll (kvOf b.cols) PB with
        | none => rw [hub] at h2; cases h2
        | some rb => exact ⟨ra, rb, rfl, rfl, rfl⟩
  obtain ⟨ra, rb, ua, ub, hbef⟩ := hall
  have hkv : kvOf b.cols ⟨b.glob, [rS, key], packB r⟩ = some r := hunp
  have hrx : rowsOfB X.2 b = (0, ra ++ r :: rb) := by
    unfold rowsOfB
    rw [htX, hb, hrX]
    show rowsT b.cols _ = _
    unfold rowsT
    rw [if_neg (by rw [hrowf] at hlen; simp at hlen ⊢; omega), unpAll_append, ua]
    unfold unpAll
    rw [hkv, ub]
    rfl
  have hdel : delB X.2 b key = (0, ⟨2, b.glob, [rS, key], ⟨#[]⟩⟩ :: idxsC 2 b r) := by
    unfold delB
    rw [hato]
    simp only [if_true]
    rw [hkey]
  refine ⟨.inl hx1, fun _ => by rw [hkey]; exact hato, fun _ => ⟨by rw [hrx], by rw [hrx, hbef]; simp; omega⟩, fun _ => ?_⟩
  rw [hkey, hdel]
  refine ⟨rfl, ?_⟩
  simp only
  have hidx2 := idxs_ok (b := b) (r := r) 2 (.inr rfl) hb hr
  have hkc : changeB ⟨2, b.glob, [rS, key], ⟨#[]⟩⟩ = true := by
    have h3 : subsB [rS, key] = true := by
      unfold subsB
      simp only [List.all_cons, List.all_nil, Bool.and_true]
      rw [← hkey, row_key hr]
      rfl
    unfold changeB thingB
    simp only []
    rw [t1, h3]
    simp
  have hlenD : ¬ 120 < ((⟨2, b.glob, [rS, key], ⟨#[]⟩⟩ : ChgD) :: idxsC 2 b r).length := by
    have := idxs_len (b := b) (r := r) 2
    rw [List.length_cons]
    omega
  have e5 : doChangesB X.2 (⟨2, b.glob, [rS, key], ⟨#[]⟩⟩ :: idxsC 2 b r) = doAllB (killB X.2 b.glob [rS, key]) (idxsC 2 b r) := by
    unfold doChangesB
    rw [if_pos htX, if_neg hlenD, doAllB]
    have : doOneB X.2 ⟨2, b.glob, [rS, key], ⟨#[]⟩⟩ = (0, killB X.2 b.glob [rS, key]) := by unfold doOneB doB; rw [htX, hkc]; rfl
    rw [this]
    rfl
  rw [e5]
  have htk := kill_tree b.glob [rS, key] htX
  have hz := doAll_kills b.glob (idxsC 2 b r) _ htk (fun c hc => ⟨(hidx2 c hc).1, (hidx2 c hc).2.1⟩)
  refine ⟨hz, ?_⟩
  have hk2 := doAll_keep b.glob (isRowB b.glob) row_not_i (idxsC 2 b r) _ htk (fun c hc => ⟨(hidx2 c hc).1, (hidx2 c hc).2.2.1, (hidx2 c hc).2.2.2.1, (hidx2 c hc).2.2.2.2⟩)
  rcases hk2 with ⟨_, hk3⟩ | hk3
  case inr => rw [hz] at hk3; cases hk3
  have htY := doAll_tree _ _ htk hz
  have hinR : ∀ d ∈ rowsN b.glob X.2, inN b.glob [rS, key] d = keyP key d := by
    intro d hd
    unfold rowsN at hd
    have hd2 := (List.mem_filter.1 hd).2
    unfold isRowB at hd2
    simp only [Bool.and_eq_true, decide_eq_true_eq] at hd2
    obtain ⟨g1, g2, g3⟩ := hd2
    unfold inN keyP
    rw [g1, two_subs g2, g3]
    simp [startsB, rS, eq_comm]
  have hrY : rowsN b.glob (doAllB (killB X.2 b.glob [rS, key]) (idxsC 2 b r)).2 = PA ++ PB := by
    rw [show rowsN b.glob (doAllB (killB X.2 b.glob [rS, key]) (idxsC 2 b r)).2 = (doAllB (killB X.2 b.glob [rS, key]) (idxsC 2 b r)).2.filter (isRowB b.glob) from rfl, hk3]
    have e6 : (killB X.2 b.glob [rS, key]).filter (isRowB b.glob) = (rowsN b.glob X.2).filter fun d => !keyP key d := by
      unfold killB
      rw [List.filter_filter]
      unfold rowsN
      rw [List.filter_filter]
      apply List.filter_congr
      intro d hd
      cases hp : isRowB b.glob d with
      | false => simp
      | true =>
        rw [hinR d (by unfold rowsN; exact List.mem_filter.2 ⟨hd, hp⟩)]
        simp
    rw [e6, hrX, List.filter_append, List.filter_cons]
    have hne : ∀ d ∈ PA ++ PB, keyP key d = false := by
      intro d hd
      cases hp : keyP key d with
      | false => rfl
      | true =>
        exfalso
        have hx := idxF_any (keyP key) (rowsN b.glob fs) 0
        rw [show idxF (keyP key) (rowsN b.glob fs) 0 = atI (rowsN b.glob fs) key from rfl, decide_eq_false (by omega)] at hx
        have := List.any_eq_true.2 ⟨d, (by rw [hrowf]; exact hd : d ∈ rowsN b.glob fs), hp⟩
        rw [← hx] at this
        cases this
    rw [if_neg (by unfold keyP; simp)]
    rw [List.filter_eq_self.2 (fun d hd => by rw [hne d (List.mem_append_left _ hd)]; rfl), List.filter_eq_self.2 (fun d hd => by rw [hne d (List.mem_append_right _ hd)]; rfl)]
  unfold rowsOfB
  rw [htY, hb, hrY, ht, hrowf]
end Go.Proofs.YtfpcjhajjejpdaaGreatDoor
