/-
  Locks and asks that own their memory.
-/
import Derived.Test.YtiebcdajoddkpaaGreatDoorLk3
import Derived.Test.YtiebcdajoddkpaaGreatDoorMark
import Derived.Lib.SliceRun
namespace Go.Proofs.YtiebcdajoddkpaaGreatDoor
open Go.RowKit

theorem own_base {w : World} {base base' e size n : Nat} {v : Value} {xs : List Value} (h : w.ownsRow base' e size v n xs) (hb : base ≤ base') : w.ownsRow base e size v n xs := by
  obtain ⟨hl, h⟩ := h
  refine ⟨hl, ?_⟩
  rcases h with h | ⟨g, cap, cur, e1, e2, e3⟩
  · exact .inl h
  · exact .inr ⟨g, cap, cur, e1, by omega, e3⟩
theorem own_later {w w' : World} {base e size n : Nat} {v : Value} {xs : List Value} (h : w.ownsRow base e size v n xs) (hb : Below w.heap.size w w') : w'.ownsRow base e size v n xs :=
  h.kept (grown_of_below hb none) (by cases hv : v.ownBlock with
    | none => exact .inl rfl
    | some g => exact .inr (by simp))
/-- Two rows that lie in different blocks, or one of them in none. -/
def apart (a b : Value) : Prop := a.ownBlock = none ∨ a.ownBlock ≠ b.ownBlock
theorem apart_types {w : World} {base base' e e' size size' n n' : Nat} {v v' : Value} {xs xs' : List Value} (h : w.ownsRow base e size v n xs) (h' : w.ownsRow base' e' size' v' n' xs') (hne : e ≠ e') : apart v v' := by
  rcases h.2 with ⟨rfl, _⟩ | ⟨g, cap, cur, rfl, _, hh, _⟩
  · exact .inl rfl
  · rcases h'.2 with ⟨rfl, _⟩ | ⟨g', cap', cur', rfl, _, hh', _⟩
    · exact .inr (by simp [Value.ownBlock])
    · refine .inr ?_
      intro he
      have : g = g' := by simpa [Value.ownBlock] using he
      subst this
      rw [hh] at hh'
      injection hh' with hh'
      injection hh' with _ ht
      exact hne ht
theorem apart_new {w : World} {base base' e e' size size' n n' : Nat} {v v' : Value} {xs xs' : List Value} {w' : World} (h : w.ownsRow base e size v n xs) (h' : w'.ownsRow base' e' size' v' n' xs') (hb : w.heap.size ≤ base') : apart v v' := by
  cases hv : v.ownBlock with
  | none => exact .inl hv
  | some g =>
    refine .inr ?_
    rw [hv]
    intro he
    have h1 := (h.lt g hv).2
    have h2 := (h'.lt g he.symm).1
    omega
theorem apart_symm {a b : Value} (h : apart a b) : apart b a := by
  unfold apart at h ⊢
  cases hb : b.ownBlock with
  | none => exact .inl rfl
  | some g =>
    refine .inr ?_
    rcases h with h | h
    · rw [h]; simp
    · rw [hb] at h; exact fun e => h e.symm
theorem kept_apart {w w' : World} {base e size n : Nat} {v u : Value} {xs : List Value} (h : w.ownsRow base e size v n xs) (hg : w.grownBy w' u.ownBlock) (ha : apart v u) : w'.ownsRow base e size v n xs := h.kept hg ha

def cellsIt (d : ItD) (v : Value) : List Value := [.int .i64 d.a, .int .i64 d.b, .string d.name, v]
def flat : List ItD → List Value → List Value
  | d :: r, v :: s => cellsIt d v ++ flat r s
  | _, _ => []
theorem flat_len : ∀ (fs : List ItD) (vs : List Value), vs.length = fs.length → (flat fs vs).length = fs.length * 4
  | [], [], _ => rfl
  | d :: r, v :: s, h => by
    have := flat_len r s (by simpa using h)
    simp only [flat, List.length_append, List.length_cons, this]
    simp [cellsIt]; omega
  | [], _ :: _, h => by simp at h
  | _ :: _, [], h => by simp at h
theorem flat_append : ∀ (fs gs : List ItD) (vs us : List Value), vs.length = fs.length → flat (fs ++ gs) (vs ++ us) = flat fs vs ++ flat gs us
  | [], gs, [], us, _ => rfl
  | d :: r, gs, v :: s, us, h => by
    have := flat_append r gs s us (by simpa using h)
    simp only [List.cons_append, flat, this, List.append_assoc]
  | [], _, _ :: _, _, h => by simp at h
  | _ :: _, _, [], _, h => by simp at h
theorem flat_at : ∀ (fs : List ItD) (vs : List Value) (j i : Nat), vs.length = fs.length → j < fs.length → i < 4 → (flat fs vs)[j * 4 + i]? = (cellsIt (fs.getD j default) (vs.getD j (.slice none 0 0)))[i]?
  | d :: r, v :: s, 0, i, _, _, hi => by
    simp only [flat, Nat.zero_mul, Nat.zero_add, List.getD_cons_zero]
    rw [List.getElem?_append_left (by simp [cellsIt]; omega)]
  | d :: r, v :: s, j + 1, i, h, hj, hi => by
    have := flat_at r s j i (by simpa using h) (by simpa using hj) hi
    simp only [flat, List.getD_cons_succ]
    rw [List.getElem?_append_right (by simp [cellsIt]; omega)]
    rw [← this]
    congr 1
    simp [cellsIt]; omega
  | [], _, _, _, _, hj, _ => by simp at hj
  | _ :: _, [], _, _, h, _, _ => by simp at h

/-- A slice of strings of the call's own. -/
def SubO (w : World) (base : Nat) (v : Value) (ss : List ByteArray) : Prop := w.ownsRow base 9 1 v ss.length (ss.map Value.string)
/-- A slice of locks (element type t) of the call's own; vs: the subscripts' slices. -/
structure OwnIts (w : World) (base : Nat) (t : TypeId) (v : Value) (fs : List ItD) (vs : List Value) : Prop where
  len : vs.length = fs.length
  row : w.ownsRow base t 4 v fs.length (flat fs vs)
  subs : ∀ j, j < fs.length → SubO w base (vs.getD j (.slice none 0 0)) (fs.getD j default).subs
  aprt : vs.Pairwise apart

theorem own_slice {w : World} {base e size n : Nat} {v : Value} {xs : List Value} (h : w.ownsRow base e size v n xs) : ∃ A cap, v = .slice A n cap ∧ n ≤ cap ∧ cap ≤ maxLen ∧ (0 < n → ∃ g, A = some ⟨g, 0, none⟩ ∧ g < w.heap.size ∧ base ≤ g) := by
  rcases h.2 with ⟨rfl, rfl⟩ | ⟨g, cap, cur, rfl, hb, hh, hc, hm, _⟩
  · exact ⟨none, 0, rfl, Nat.le_refl _, by simp [maxLen], fun h => absurd h (by omega)⟩
  · exact ⟨_, cap, rfl, hc, hm, fun _ => ⟨g, rfl, Blk.lt (t := e) hh, hb⟩⟩
theorem own_cell {w : World} {base e size n g cap : Nat} {xs : List Value} (h : w.ownsRow base e size (.slice (some ⟨g, 0, none⟩) n cap) n xs) (j : Nat) (u : Value) (hj : j < n * size) (hu : xs[j]? = some u) : w.cell? ⟨g, j, none⟩ = some u := (h.cellAt j hj).trans hu

theorem OwnIts.later {w w' : World} {base t : Nat} {v : Value} {fs : List ItD} {vs : List Value} (h : OwnIts w base t v fs vs) (hb : Below w.heap.size w w') : OwnIts w' base t v fs vs :=
  ⟨h.len, own_later h.row hb, fun j hj => own_later (h.subs j hj) hb, h.aprt⟩
theorem OwnIts.drewN {w : World} {base t : Nat} {v : Value} {fs : List ItD} {vs : List Value} (h : OwnIts w base t v fs vs) (q : Nat) : OwnIts (w.drewN q) base t v fs vs := ⟨h.len, h.row, h.subs, h.aprt⟩
theorem OwnIts.its {w : World} {base t : Nat} {v : Value} {fs : List ItD} {vs : List Value} (h : OwnIts w base t v fs vs) : ∃ A cap, v = .slice A fs.length cap ∧ fs.length ≤ cap ∧ cap ≤ maxLen ∧ Its w w.heap.size A fs.length fs := by
  obtain ⟨A, cap, rfl, hc, hm, hA⟩ := own_slice h.row
  refine ⟨A, cap, rfl, hc, hm, rfl, fun hn => ?_⟩
  obtain ⟨g, rfl, hg, _⟩ := hA hn
  refine ⟨g, 0, rfl, hg, fun j hj => ?_⟩
  have f0 := flat_at fs vs j 0 h.len hj (by omega)
  have f1 := flat_at fs vs j 1 h.len hj (by omega)
  have f2 := flat_at fs vs j 2 h.len hj (by omega)
  have f3 := flat_at fs vs j 3 h.len hj (by omega)
  have hs := h.subs j hj
  obtain ⟨A', c', hv, hc', hS⟩ := own_strs hs
  refine ⟨.int .i64 (fs.getD j default).a, .int .i64 (fs.getD j default).b, .string (fs.getD j default).name, vs.getD j (.slice none 0 0), ?_, ?_, ?_, ?_, rfl, rfl, rfl, A', _, c', hv, hS, hc'⟩
  all_goals rw [Nat.zero_add]
  · exact own_cell h.row _ _ (by omega) (f0.trans rfl)
  · exact own_cell h.row _ _ (by omega) (f1.trans rfl)
  · exact own_cell h.row _ _ (by omega) (f2.trans rfl)
  · exact own_cell h.row _ _ (by omega) (f3.trans rfl)

set_option maxRecDepth 100000 in
set_option maxHeartbeats 400000 in
theorem l24Subs_own (A : Option Addr) (n c : Nat) (ss : List ByteArray) (w : World) (h : Strs w w.heap.size A n ss) (hn : n ≤ 1048576) :
    Calls Tryz.prog 60 #[.slice A n c] w fun e w' => ∃ v, e = .returned v ∧ SubO w' w.heap.size v ss ∧ Below w.heap.size w w' := by
  obtain ⟨i0, hi, hz0, hz1, hz2⟩ := info_parts infoS
  have Hh := Lib.hid (strs_reads h)
  have Hlen := Lib.hid h.1
  clear h
  go_enter Tryz.func60, Tryz.ntmps60
  go_wp2_with (at_builtin; refine wpList_append_any _ rfl (.tmp 3) (.tmp 4) 35 rfl w.heap.size 9 i0 _ 1 16 Tryz.underlying35 hi hz0 hz1 hz2 rfl (by decide) _ 0 [] rfl (World.ownsRow_lit _ _ 0 (Nat.le_refl _) (by omega) rfl) w.heap.size A n c (ss.map Value.string) rfl (Hh.out.alloc (Nat.le_refl _) _) (oneCells_str ss) ?c1 ?c2 ?c3 ?_)
  case c1 => unfold maxLen; omega
  case c2 => omega
  case c3 => simp
  intro v w1 ho hg _
  have HB := Lib.hid (below_own (w0 := w) (size := 1) (n := 0) (xs := []) (Below.new _ _) (World.ownsRow_lit _ _ 0 (Nat.le_refl _) (by omega) rfl) (Nat.le_refl _) hg)
  have HO := Lib.hid ho
  clear ho hg
  go_wp2_with fail
  go_ret
  exact ⟨_, rfl, by have hx := HO.out; simpa [SubO, Hlen.out] using hx, HB.out⟩
set_option maxRecDepth 100000 in
set_option maxHeartbeats 400000 in
theorem CloneS_any (A : Option Addr) (n c : Nat) (ss : List ByteArray) (w : World) (h : Strs w w.heap.size A n ss) (hn : n ≤ 1048576) :
    Calls Tryz.prog 81 #[.slice A n c] w fun e w' => ∃ v, e = .returned v ∧ SubO w' w.heap.size v ss ∧ Below w.heap.size w w' := by
  obtain ⟨i0, hi, hz0, hz1, hz2⟩ := info_parts infoS
  have Hh := Lib.hid (strs_reads h)
  have Hlen := Lib.hid h.1
  cases A with
  | none =>
    have hn0 : ss = [] := by
      rcases Nat.eq_zero_or_pos n with h0 | h0
      · exact List.eq_nil_of_length_eq_zero (by rw [h.1]; exact h0)
      · obtain ⟨b, o, e, _⟩ := h.2 h0
        cases e
    subst hn0
    clear h
    have hnil := fun (W : World) => Lib.run_eql_slice_nil (P := Tryz.prog) W 35 9 none n c 0 0 Tryz.underlying35
    go_enter Tryz.func81, Tryz.ntmps81
    go_wp2_with fail
    go_ret
    exact ⟨_, rfl, World.ownsRow_nil _ _ _ _, Below.refl _ _⟩
  | some ad =>
    clear h
    have hnil := fun (W : World) => Lib.run_eql_slice_nil (P := Tryz.prog) W 35 9 (some ad) n c 0 0 Tryz.underlying35
    go_enter Tryz.func81, Tryz.ntmps81
    go_wp2_with (at_builtin; refine wpList_append_any _ rfl (.tmp 5) (.tmp 6) 35 rfl w.heap.size 9 i0 _ 1 16 Tryz.underlying35 hi hz0 hz1 hz2 rfl (by decide) _ 0 [] rfl (World.ownsRow_lit _ _ 0 (Nat.le_refl _) (by omega) rfl) w.heap.size (some ad) n c (ss.map Value.string) rfl (Hh.out.alloc (Nat.le_refl _) _) (oneCells_str ss) ?c1 ?c2 ?c3 ?_)
    case c1 => unfold maxLen; omega
    case c2 => omega
    case c3 => simp
    intro v w1 ho hg _
    have HB := Lib.hid (below_own (w0 := w) (size := 1) (n := 0) (xs := []) (Below.new _ _) (World.ownsRow_lit _ _ 0 (Nat.le_refl _) (by omega) rfl) (Nat.le_refl _) hg)
    have HO := Lib.hid ho
    clear ho hg
    go_wp2_with fail
    go_ret
    exact ⟨_, rfl, by have hx := HO.out; simpa [SubO, Hlen.out] using hx, HB.out⟩
end Go.Proofs.YtiebcdajoddkpaaGreatDoor
