/-
  Arguments opened: locks, asks and slices of them that came in, as data.
-/
import Derived.Test.YtiebcdajoddkpaaGreatDoorOpen
import Derived.Test.YtiebcdajoddkpaaGreatDoorLwSz
import Derived.Deep.Slices
import Derived.Deep.Fields
namespace Go.Proofs.YtiebcdajoddkpaaGreatDoor
open Go.ChangeShapes Go.WideShapes Go.ChangeAt Go.RowKit Go.Joins Go.Deep

theorem list_of {α : Type} [Inhabited α] (p : Nat → α → Prop) : ∀ n, (∀ i, i < n → ∃ d, p i d) → ∃ l : List α, l.length = n ∧ ∀ i, i < n → p i (l.getD i default)
  | 0, _ => ⟨[], rfl, fun i h => absurd h (by omega)⟩
  | n + 1, h => by
    obtain ⟨l, hl, hp⟩ := list_of p n fun i hi => h i (by omega)
    obtain ⟨d, hd⟩ := h n (by omega)
    refine ⟨l ++ [d], by simp [hl], fun i hi => ?_⟩
    by_cases e : i = n
    · subst e
      rw [List.getD_eq_getElem?_getD, List.getElem?_append_right (by omega), hl]
      simpa using hd
    · rw [List.getD_eq_getElem?_getD, List.getElem?_append_left (by omega), ← List.getD_eq_getElem?_getD]
      exact hp i (by omega)

section
variable {H : Type} {enc : TypeId × Value → H} {P : Program} {w : World} {base : Nat} {spare : Nat → Bool} {held : Bool}
theorem open_strs_cap {t e : TypeId} {fuel : Nat} {v : Value} {x : DataW H × List MemPlace} (ht : P.underlying t = some (.slice e)) (he : P.underlying e = some .string) (hc : P.cellsOf e = 1)
    (h : DataW.trod enc P w base spare held fuel t [v] = some x) :
    ∃ (A : Option Addr) (n cap : Nat) (ss : List ByteArray), v = .slice A n cap ∧ Strs w w.heap.size A n ss ∧ (∀ s ∈ ss, s.size ≤ maxLen) ∧ n ≤ maxLen ∧ n ≤ cap := by
  rcases open_strings ht he hc h with ⟨hcs, _⟩ | ⟨a, len, cap, ss, hcs, _, hl, hm, hz, _, hcell, hws⟩
  · injection hcs with e _
    exact ⟨none, 0, 0, [], e, Strs.zero, (fun s hs => by cases hs), by omega, by omega⟩
  · injection hcs with e _
    have hls : len ≤ ss.length := by rw [hz]; split <;> omega
    refine ⟨some a, len, cap, ss.take len, e, ⟨by rw [List.length_take]; omega, fun hp => ?_⟩, fun s hs => hws s (List.mem_of_mem_take hs), by omega, by omega⟩
    obtain ⟨b, off, spot⟩ := a
    have h0 := hcell 0 (by omega)
    have hspot : spot = none := by simpa [Addr.add] using World.cell?_spot h0
    subst hspot
    refine ⟨b, off, rfl, World.block_lt_of_cell? w _ (by simpa [Addr.add] using h0), fun j hj => ?_⟩
    have hj' := hcell j (by omega)
    rw [Go.WideShapes.add_plain] at hj'
    rw [hj', List.getD_eq_getElem?_getD, List.getD_eq_getElem?_getD, List.getElem?_take_of_lt hj]
end
section
variable {H : Type} {enc : TypeId × Value → H} {w : World} {base : Nat} {spare : Nat → Bool} {held : Bool}
set_option maxRecDepth 100000 in
theorem open_Lock {fuel : Nat} {cs : List Value} {x : DataW H × List MemPlace} (h : DataW.trod enc Tryz.prog w base spare held fuel 127 cs = some x) :
    ∃ c0 c1 c2 c3 d, cs = [c0, c1, c2, c3] ∧ ItR w w.heap.size c0 c1 c2 c3 d ∧ d.fine := by
  obtain ⟨xs, n, _, _, hlen, hxl, hg⟩ := DataW.trod_struct Tryz.underlying127 h
  have h1 : Tryz.prog.cellsOf 9 = 1 := by kernel_rfl
  have h2 : Tryz.prog.cellsOf 35 = 1 := by kernel_rfl
  have h3 : Tryz.prog.cellsOf 2 = 1 := by kernel_rfl
  have hC : Tryz.prog.cellsOf 127 = 4 := by kernel_rfl
  rw [hC] at hlen
  match cs, hlen, xs, hxl with
  | [c0, c1, c2, c3], _, [y0, y1, y2, y3], _ =>
    have g0 : DataW.trod enc Tryz.prog w base spare held n 2 [c0] = some y0 := by simpa [h3] using hg 0 _ rfl
    have g1 : DataW.trod enc Tryz.prog w base spare held n 2 [c1] = some y1 := by simpa [h3] using hg 1 _ rfl
    have g2 : DataW.trod enc Tryz.prog w base spare held n 9 [c2] = some y2 := by simpa [h1, h3] using hg 2 _ rfl
    have g3 : DataW.trod enc Tryz.prog w base spare held n 35 [c3] = some y3 := by simpa [h1, h2, h3] using hg 3 _ rfl
    obtain ⟨a, e0, _, _⟩ := DataW.trod_int Tryz.underlying2 g0
    obtain ⟨b, e1, _, _⟩ := DataW.trod_int Tryz.underlying2 g1
    obtain ⟨nm, e2, _, k2⟩ := DataW.trod_string Tryz.underlying9 g2
    obtain ⟨A, m, cap, ss, rfl, hS, hz, hn, hcap⟩ := open_strs_cap Tryz.underlying35 Tryz.underlying9 h1 g3
    simp at e0 e1 e2
    subst e0 e1 e2
    exact ⟨_, _, _, _, ⟨a, b, nm, ss⟩, rfl, ⟨rfl, rfl, rfl, A, m, cap, rfl, hS, hcap⟩, k2, hz, by rw [hS.1]; exact hn⟩

set_option maxRecDepth 100000 in
theorem open_Ask {fuel : Nat} {cs : List Value} {x : DataW H × List MemPlace} (h : DataW.trod enc Tryz.prog w base spare held fuel 129 cs = some x) :
    ∃ c0 c1 c2 c3 d, cs = [c0, c1, c2, c3] ∧ ItR w w.heap.size c0 c1 c2 c3 d ∧ d.fine := by
  obtain ⟨xs, n, _, _, hlen, hxl, hg⟩ := DataW.trod_struct Tryz.underlying129 h
  have h1 : Tryz.prog.cellsOf 9 = 1 := by kernel_rfl
  have h2 : Tryz.prog.cellsOf 35 = 1 := by kernel_rfl
  have h3 : Tryz.prog.cellsOf 2 = 1 := by kernel_rfl
  have hC : Tryz.prog.cellsOf 129 = 4 := by kernel_rfl
  rw [hC] at hlen
  match cs, hlen, xs, hxl with
  | [c0, c1, c2, c3], _, [y0, y1, y2, y3], _ =>
    have g0 : DataW.trod enc Tryz.prog w base spare held n 2 [c0] = some y0 := by simpa [h3] using hg 0 _ rfl
    have g1 : DataW.trod enc Tryz.prog w base spare held n 2 [c1] = some y1 := by simpa [h3] using hg 1 _ rfl
    have g2 : DataW.trod enc Tryz.prog w base spare held n 9 [c2] = some y2 := by simpa [h1, h3] using hg 2 _ rfl
    have g3 : DataW.trod enc Tryz.prog w base spare held n 35 [c3] = some y3 := by simpa [h1, h2, h3] using hg 3 _ rfl
    obtain ⟨a, e0, _, _⟩ := DataW.trod_int Tryz.underlying2 g0
    obtain ⟨b, e1, _, _⟩ := DataW.trod_int Tryz.underlying2 g1
    obtain ⟨nm, e2, _, k2⟩ := DataW.trod_string Tryz.underlying9 g2
    obtain ⟨A, m, cap, ss, rfl, hS, hz, hn, hcap⟩ := open_strs_cap Tryz.underlying35 Tryz.underlying9 h1 g3
    simp at e0 e1 e2
    subst e0 e1 e2
    exact ⟨_, _, _, _, ⟨a, b, nm, ss⟩, rfl, ⟨rfl, rfl, rfl, A, m, cap, rfl, hS, hcap⟩, k2, hz, by rw [hS.1]; exact hn⟩

set_option maxRecDepth 100000 in
theorem open_its {ts tt : TypeId} (hs : Tryz.prog.underlying ts = some (.slice tt)) (hop : ∀ {fuel : Nat} {cs : List Value} {x : DataW H × List MemPlace}, DataW.trod enc Tryz.prog w base spare held fuel tt cs = some x → ∃ c0 c1 c2 c3 d, cs = [c0, c1, c2, c3] ∧ ItR w w.heap.size c0 c1 c2 c3 d ∧ d.fine) (hC : Tryz.prog.cellsOf tt = 4) {fuel : Nat} {v : Value} {x : DataW H × List MemPlace} (h : DataW.trod enc Tryz.prog w base spare held fuel ts [v] = some x) :
    ∃ (A : Option Addr) (n cap : Nat) (fs : List ItD), v = .slice A n cap ∧ Its w w.heap.size A n fs ∧ (∀ d ∈ fs, d.fine) ∧ n ≤ maxLen := by
  rcases open_slice hs h with ⟨hcs, _⟩ | ⟨a, len, cap, m, n, D, Pl, hcs, hb, hl, hm, hmm, hx, hi⟩
  · injection hcs with e _
    exact ⟨none, 0, 0, [], e, ⟨rfl, fun h => absurd h (by omega)⟩, (fun s hs => by cases hs), by omega⟩
  · injection hcs with e _
    subst e
    have hlm : len ≤ m := by rw [hmm]; split <;> omega
    obtain ⟨fs, hfl, hfs⟩ := list_of (fun i d => ∃ c0 c1 c2 c3, w.cell? ((a.add (i * 4)).add 0) = some c0 ∧ w.cell? ((a.add (i * 4)).add 1) = some c1 ∧ w.cell? ((a.add (i * 4)).add 2) = some c2 ∧ w.cell? ((a.add (i * 4)).add 3) = some c3 ∧ ItR w w.heap.size c0 c1 c2 c3 d ∧ d.fine) len (fun i hil => by
      obtain ⟨cs', hc, ht'⟩ := hi i (by omega)
      rw [hC] at hc
      obtain ⟨c0, c1, c2, c3, d, rfl, hr, hf⟩ := hop ht'
      obtain ⟨_, _, hat⟩ := World.cells?_some hc
      exact ⟨d, c0, c1, c2, c3, hat 0 (by omega), hat 1 (by omega), hat 2 (by omega), hat 3 (by omega), hr, hf⟩)
    refine ⟨some a, len, cap, fs, rfl, ⟨hfl, fun hp => ?_⟩, fun d hd => ?_, by omega⟩
    · obtain ⟨b, off, spot⟩ := a
      obtain ⟨c0, _, _, _, h0, _⟩ := hfs 0 hp
      have hspot : spot = none := by simpa [Addr.add] using World.cell?_spot h0
      subst hspot
      refine ⟨b, off, rfl, World.block_lt_of_cell? w _ (by simpa [Addr.add] using h0), fun j hj => ?_⟩
      obtain ⟨c0, c1, c2, c3, h0, h1, h2, h3, hr, _⟩ := hfs j hj
      simp only [Go.WideShapes.add_plain, Nat.add_zero] at h0 h1 h2 h3
      exact ⟨c0, c1, c2, c3, h0, h1, h2, h3, hr⟩
    · obtain ⟨i, hi', rfl⟩ := List.getElem_of_mem hd
      obtain ⟨_, _, _, _, _, _, _, _, _, hf⟩ := hfs i (by omega)
      rwa [List.getD_eq_getElem?_getD, List.getElem?_eq_getElem hi'] at hf

set_option maxRecDepth 100000 in
theorem open_locks {r : Reach} {b0 : Nat} {v : Value} {d : DataW H} {p : List MemPlace} (hv : Value.okWide Tryz.prog w r b0 55 v) (h : DataW.Trod enc Tryz.prog w base spare held 55 v d p) :
    ∃ (A A' : Option Addr) (n c n' c' : Nat) (fs gs : List ItD), v = .agg #[.slice A n c, .slice A' n' c'] ∧ Its w w.heap.size A n fs ∧ Its w w.heap.size A' n' gs ∧ (∀ d ∈ fs, d.fine) ∧ (∀ d ∈ gs, d.fine) ∧ n ≤ maxLen ∧ n' ≤ maxLen := by
  obtain ⟨cs, rfl, hsz⟩ := okWide_struct Tryz.underlying55 hv
  obtain ⟨fuel, hf⟩ := h
  have hC : Tryz.prog.cellsOf 55 = 2 := by kernel_rfl
  have h1 : Tryz.prog.cellsOf 52 = 1 := by kernel_rfl
  have h2 : Tryz.prog.cellsOf 53 = 1 := by kernel_rfl
  rw [hC] at hsz
  obtain ⟨l⟩ := cs
  obtain ⟨xs, n, _, _, _, hxl, hg⟩ := DataW.trod_struct Tryz.underlying55 hf
  match l, hsz, xs, hxl with
  | [c0, c1], _, [y0, y1], _ =>
    have g0 : DataW.trod enc Tryz.prog w base spare held n 52 [c0] = some y0 := by simpa [Value.cells, h1] using hg 0 _ rfl
    have g1 : DataW.trod enc Tryz.prog w base spare held n 53 [c1] = some y1 := by simpa [Value.cells, h1, h2] using hg 1 _ rfl
    obtain ⟨A, m, cap, fs, rfl, hF, hff, hn⟩ := open_its Tryz.underlying52 open_Lock (by kernel_rfl) g0
    obtain ⟨A', m', cap', gs, rfl, hG, hfg, hn'⟩ := open_its Tryz.underlying53 open_Ask (by kernel_rfl) g1
    exact ⟨A, A', m, cap, m', cap', fs, gs, rfl, hF, hG, hff, hfg, hn, hn'⟩
end
end Go.Proofs.YtiebcdajoddkpaaGreatDoor
