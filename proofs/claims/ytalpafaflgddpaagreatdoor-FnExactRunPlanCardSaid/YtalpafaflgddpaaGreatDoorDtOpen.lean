/-
  Arguments opened: a slice of strings that came in, as data. Arguments opened: structs and slices of structs that came in, as data. (Printed by gen_dtopen.py.)
-/
import Derived.Test.YtalpafaflgddpaaGreatDoorWords
import Derived.ProofKit
import Derived.OpenShut
import Derived.ShutString
import Derived.ChangeOld
import Derived.SliceStrings
import Derived.Lib.SmallJoins
import Derived.Test.YtalpafaflgddpaaGreatDoorDtSz
import Derived.Deep.Slices
import Derived.Deep.Fields
namespace Go.Proofs.YtalpafaflgddpaaGreatDoor
open Go.ChangeShapes Go.WideShapes Go.ChangeAt Go.RowKit

section
variable {H : Type} {enc : TypeId × Value → H} {P : Program} {w : World} {base : Nat} {spare : Nat → Bool} {held : Bool}
theorem open_strs_in {t e : TypeId} {fuel : Nat} {v : Value} {x : DataW H × List MemPlace} (ht : P.underlying t = some (.slice e)) (he : P.underlying e = some .string) (hc : P.cellsOf e = 1)
    (h : DataW.trod enc P w base spare held fuel t [v] = some x) :
    ∃ (A : Option Addr) (n cap : Nat) (ss : List ByteArray), v = .slice A n cap ∧ Strs w w.heap.size A n ss ∧ (∀ s ∈ ss, s.size ≤ maxLen) ∧ n ≤ maxLen := by
  rcases open_strings ht he hc h with ⟨hcs, _⟩ | ⟨a, len, cap, ss, hcs, _, hl, hm, hz, _, hcell, hws⟩
  · injection hcs with e _
    exact ⟨none, 0, 0, [], e, Strs.zero, (fun s hs => by cases hs), by omega⟩
  · injection hcs with e _
    have hls : len ≤ ss.length := by rw [hz]; split <;> omega
    refine ⟨some a, len, cap, ss.take len, e, ⟨by rw [List.length_take]; omega, fun hp => ?_⟩, fun s hs => hws s (List.mem_of_mem_take hs), by omega⟩
    obtain ⟨b, off, spot⟩ := a
    have h0 := hcell 0 (by omega)
    have hspot : spot = none := by simpa [Addr.add] using World.cell?_spot h0
    subst hspot
    refine ⟨b, off, rfl, World.block_lt_of_cell? w _ (by simpa [Addr.add] using h0), fun j hj => ?_⟩
    have hj' := hcell j (by omega)
    rw [Go.WideShapes.add_plain] at hj'
    rw [hj', List.getD_eq_getElem?_getD, List.getD_eq_getElem?_getD, List.getElem?_take_of_lt hj]
end
end Go.Proofs.YtalpafaflgddpaaGreatDoor

namespace Go.Proofs.YtalpafaflgddpaaGreatDoor
open Go.ChangeShapes Go.WideShapes Go.ChangeAt Go.RowKit Go.Joins Go.Deep

theorem list_of {α : Type} [Inhabited α] (p : Nat → α → Prop) : ∀ n, (∀ i, i < n → ∃ d, p i d) → ∃ l : List α, l.length = n ∧ ∀ i, i < n → p i (l.getD i default)
  | 0, _ => ⟨[], rfl, fun i h => absurd h (by omega)⟩
  | n + 1, h => by
    obtain ⟨l, hl, hp⟩ := list_of p n fun i hi => h i (by omega)
    obtain ⟨d, hd⟩ := h n (by omega)
    refine ⟨l ++ [d], by simp [hl], fun i hi => ?_⟩
    by_cases e : i = n
    · subst e
      rw [List.getD_eq_getElem?_getD, List.getElem?_append_right (by omega), hl]
      simpa using hd
    · rw [List.getD_eq_getElem?_getD, List.getElem?_append_left (by omega), ← List.getD_eq_getElem?_getD]
      exact hp i (by omega)

section
variable {H : Type} {enc : TypeId × Value → H} {P : Program} {w : World} {base : Nat} {spare : Nat → Bool} {held : Bool}
theorem open_strs_cap {t e : TypeId} {fuel : Nat} {v : Value} {x : DataW H × List MemPlace} (ht : P.underlying t = some (.slice e)) (he : P.underlying e = some .string) (hc : P.cellsOf e = 1)
    (h : DataW.trod enc P w base spare held fuel t [v] = some x) :
    ∃ (A : Option Addr) (n cap : Nat) (ss : List ByteArray), v = .slice A n cap ∧ Strs w w.heap.size A n ss ∧ (∀ s ∈ ss, s.size ≤ maxLen) ∧ n ≤ maxLen ∧ n ≤ cap := by
  rcases open_strings ht he hc h with ⟨hcs, _⟩ | ⟨a, len, cap, ss, hcs, _, hl, hm, hz, _, hcell, hws⟩
  · injection hcs with e _
    exact ⟨none, 0, 0, [], e, Strs.zero, (fun s hs => by cases hs), by omega, by omega⟩
  · injection hcs with e _
    have hls : len ≤ ss.length := by rw [hz]; split <;> omega
    refine ⟨some a, len, cap, ss.take len, e, ⟨by rw [List.length_take]; omega, fun hp => ?_⟩, fun s hs => hws s (List.mem_of_mem_take hs), by omega, by omega⟩
    obtain ⟨b, off, spot⟩ := a
    have h0 := hcell 0 (by omega)
    have hspot : spot = none := by simpa [Addr.add] using World.cell?_spot h0
    subst hspot
    refine ⟨b, off, rfl, World.block_lt_of_cell? w _ (by simpa [Addr.add] using h0), fun j hj => ?_⟩
    have hj' := hcell j (by omega)
    rw [Go.WideShapes.add_plain] at hj'
    rw [hj', List.getD_eq_getElem?_getD, List.getD_eq_getElem?_getD, List.getElem?_take_of_lt hj]
end
section
variable {H : Type} {enc : TypeId × Value → H} {w : World} {base : Nat} {spare : Nat → Bool} {held : Bool}
set_option maxRecDepth 100000 in
theorem open_Node {fuel : Nat} {cs : List Value} {x : DataW H × List MemPlace} (h : DataW.trod enc Tryz.prog w base spare held fuel 95 cs = some x) :
    ∃ c0 c1 c2 d, cs = [c0, c1, c2] ∧ NodeR w w.heap.size c0 c1 c2 d ∧ d.fine := by
  obtain ⟨xs, n, _, _, hlen, hxl, hg⟩ := DataW.trod_struct Tryz.underlying95 h
  have h1 : Tryz.prog.cellsOf 9 = 1 := by kernel_rfl
  have h2 : Tryz.prog.cellsOf 25 = 1 := by kernel_rfl
  have hC : Tryz.prog.cellsOf 95 = 3 := by kernel_rfl
  rw [hC] at hlen
  match cs, hlen, xs, hxl with
  | [c0, c1, c2], _, [y0, y1, y2], _ =>
    have g0 : DataW.trod enc Tryz.prog w base spare held n 9 [c0] = some y0 := by simpa [Value.cells, h1] using hg 0 _ rfl
    have g1 : DataW.trod enc Tryz.prog w base spare held n 25 [c1] = some y1 := by simpa [Value.cells, h1, h2] using hg 1 _ rfl
    have g2 : DataW.trod enc Tryz.prog w base spare held n 9 [c2] = some y2 := by simpa [Value.cells, h1, h2] using hg 2 _ rfl
    obtain ⟨x0, e0, _, k0⟩ := DataW.trod_string Tryz.underlying9 g0
    obtain ⟨A1, m1, cap1, x1, rfl, hS1, hz1, hn1, hc1⟩ := open_strs_cap Tryz.underlying25 Tryz.underlying9 (by kernel_rfl) g1
    obtain ⟨x2, e2, _, k2⟩ := DataW.trod_string Tryz.underlying9 g2
    simp at e0 e2
    subst e0 e2
    exact ⟨_, _, _, ⟨x0, x1, x2⟩, rfl, ⟨rfl, ⟨A1, m1, cap1, rfl, hS1, hc1⟩, rfl⟩, ⟨k0, ⟨hz1, by rw [hS1.1]; exact hn1⟩, k2⟩⟩
set_option maxRecDepth 100000 in
theorem open_Nodes {ts : TypeId} (hs : Tryz.prog.underlying ts = some (.slice 95)) {fuel : Nat} {v : Value} {x : DataW H × List MemPlace} (h : DataW.trod enc Tryz.prog w base spare held fuel ts [v] = some x) :
    ∃ (A : Option Addr) (n cap : Nat) (fs : List NodeD), v = .slice A n cap ∧ Nodes w w.heap.size A n fs ∧ (∀ d ∈ fs, d.fine) ∧ n ≤ maxLen ∧ n ≤ cap := by
  have hC : Tryz.prog.cellsOf 95 = 3 := by kernel_rfl
  rcases open_slice hs h with ⟨hcs, _⟩ | ⟨a, len, cap, m, n, D, Pl, hcs, hb, hl, hm, hmm, hx, hi⟩
  · injection hcs with e _
    exact ⟨none, 0, 0, [], e, ⟨rfl, fun h => absurd h (by omega)⟩, (fun s hs => by cases hs), by omega, by omega⟩
  · injection hcs with e _
    subst e
    have hlm : len ≤ m := by rw [hmm]; split <;> omega
    obtain ⟨fs, hfl, hfs⟩ := list_of (fun i d => ∃ c0 c1 c2, w.cell? ((a.add (i * 3)).add 0) = some c0 ∧ w.cell? ((a.add (i * 3)).add 1) = some c1 ∧ w.cell? ((a.add (i * 3)).add 2) = some c2 ∧ NodeR w w.heap.size c0 c1 c2 d ∧ d.fine) len (fun i hil => by
      obtain ⟨cs', hc, ht'⟩ := hi i (by omega)
      rw [hC] at hc
      obtain ⟨c0, c1, c2, d, rfl, hr, hf⟩ := open_Node ht'
      obtain ⟨_, _, hat⟩ := World.cells?_some hc
      exact ⟨d, c0, c1, c2, hat 0 (by omega), hat 1 (by omega), hat 2 (by omega), hr, hf⟩)
    refine ⟨some a, len, cap, fs, rfl, ⟨hfl, fun hp => ?_⟩, fun d hd => ?_, by omega, by omega⟩
    · obtain ⟨b, off, spot⟩ := a
      obtain ⟨c0, _, _, h0, _⟩ := hfs 0 hp
      have hspot : spot = none := by simpa [Addr.add] using World.cell?_spot h0
      subst hspot
      refine ⟨b, off, rfl, World.block_lt_of_cell? w _ (by simpa [Addr.add] using h0), fun j hj => ?_⟩
      obtain ⟨c0, c1, c2, h0, h1, h2, hr, _⟩ := hfs j hj
      simp only [Go.WideShapes.add_plain, Nat.add_zero] at h0 h1 h2
      exact ⟨c0, c1, c2, h0, h1, h2, hr⟩
    · obtain ⟨i, hi', rfl⟩ := List.getElem_of_mem hd
      obtain ⟨_, _, _, _, _, _, _, hf⟩ := hfs i (by omega)
      rwa [List.getD_eq_getElem?_getD, List.getElem?_eq_getElem hi'] at hf
set_option maxRecDepth 100000 in
theorem open_Cond {fuel : Nat} {cs : List Value} {x : DataW H × List MemPlace} (h : DataW.trod enc Tryz.prog w base spare held fuel 98 cs = some x) :
    ∃ c0 c1 c2 d, cs = [c0, c1, c2] ∧ CondR w w.heap.size c0 c1 c2 d ∧ d.fine := by
  obtain ⟨xs, n, _, _, hlen, hxl, hg⟩ := DataW.trod_struct Tryz.underlying98 h
  have h1 : Tryz.prog.cellsOf 9 = 1 := by kernel_rfl
  have h2 : Tryz.prog.cellsOf 2 = 1 := by kernel_rfl
  have hC : Tryz.prog.cellsOf 98 = 3 := by kernel_rfl
  rw [hC] at hlen
  match cs, hlen, xs, hxl with
  | [c0, c1, c2], _, [y0, y1, y2], _ =>
    have g0 : DataW.trod enc Tryz.prog w base spare held n 9 [c0] = some y0 := by simpa [Value.cells, h1] using hg 0 _ rfl
    have g1 : DataW.trod enc Tryz.prog w base spare held n 2 [c1] = some y1 := by simpa [Value.cells, h1, h2] using hg 1 _ rfl
    have g2 : DataW.trod enc Tryz.prog w base spare held n 9 [c2] = some y2 := by simpa [Value.cells, h1, h2] using hg 2 _ rfl
    obtain ⟨x0, e0, _, k0⟩ := DataW.trod_string Tryz.underlying9 g0
    obtain ⟨x1, e1, _, _⟩ := DataW.trod_int Tryz.underlying2 g1
    obtain ⟨x2, e2, _, k2⟩ := DataW.trod_string Tryz.underlying9 g2
    simp at e0 e1 e2
    subst e0 e1 e2
    exact ⟨_, _, _, ⟨x0, x1, x2⟩, rfl, ⟨rfl, rfl, rfl⟩, ⟨k0, k2⟩⟩
set_option maxRecDepth 100000 in
theorem open_Conds {ts : TypeId} (hs : Tryz.prog.underlying ts = some (.slice 98)) {fuel : Nat} {v : Value} {x : DataW H × List MemPlace} (h : DataW.trod enc Tryz.prog w base spare held fuel ts [v] = some x) :
    ∃ (A : Option Addr) (n cap : Nat) (fs : List CondD), v = .slice A n cap ∧ Conds w w.heap.size A n fs ∧ (∀ d ∈ fs, d.fine) ∧ n ≤ maxLen ∧ n ≤ cap := by
  have hC : Tryz.prog.cellsOf 98 = 3 := by kernel_rfl
  rcases open_slice hs h with ⟨hcs, _⟩ | ⟨a, len, cap, m, n, D, Pl, hcs, hb, hl, hm, hmm, hx, hi⟩
  · injection hcs with e _
    exact ⟨none, 0, 0, [], e, ⟨rfl, fun h => absurd h (by omega)⟩, (fun s hs => by cases hs), by omega, by omega⟩
  · injection hcs with e _
    subst e
    have hlm : len ≤ m := by rw [hmm]; split <;> omega
    obtain ⟨fs, hfl, hfs⟩ := list_of (fun i d => ∃ c0 c1 c2, w.cell? ((a.add (i * 3)).add 0) = some c0 ∧ w.cell? ((a.add (i * 3)).add 1) = some c1 ∧ w.cell? ((a.add (i * 3)).add 2) = some c2 ∧ CondR w w.heap.size c0 c1 c2 d ∧ d.fine) len (fun i hil => by
      obtain ⟨cs', hc, ht'⟩ := hi i (by omega)
      rw [hC] at hc
      obtain ⟨c0, c1, c2, d, rfl, hr, hf⟩ := open_Cond ht'
      obtain ⟨_, _, hat⟩ := World.cells?_some hc
      exact ⟨d, c0, c1, c2, hat 0 (by omega), hat 1 (by omega), hat 2 (by omega), hr, hf⟩)
    refine ⟨some a, len, cap, fs, rfl, ⟨hfl, fun hp => ?_⟩, fun d hd => ?_, by omega, by omega⟩
    · obtain ⟨b, off, spot⟩ := a
      obtain ⟨c0, _, _, h0, _⟩ := hfs 0 hp
      have hspot : spot = none := by simpa [Addr.add] using World.cell?_spot h0
      subst hspot
      refine ⟨b, off, rfl, World.block_lt_of_cell? w _ (by simpa [Addr.add] using h0), fun j hj => ?_⟩
      obtain ⟨c0, c1, c2, h0, h1, h2, hr, _⟩ := hfs j hj
      simp only [Go.WideShapes.add_plain, Nat.add_zero] at h0 h1 h2
      exact ⟨c0, c1, c2, h0, h1, h2, hr⟩
    · obtain ⟨i, hi', rfl⟩ := List.getElem_of_mem hd
      obtain ⟨_, _, _, _, _, _, _, hf⟩ := hfs i (by omega)
      rwa [List.getD_eq_getElem?_getD, List.getElem?_eq_getElem hi'] at hf
set_option maxRecDepth 100000 in
theorem open_Tree {r : Reach} {b0 : Nat} {v : Value} {d : DataW H} {p : List MemPlace} (hv : Value.okWide Tryz.prog w r b0 24 v) (h : DataW.Trod enc Tryz.prog w base spare held 24 v d p) :
    ∃ c0 x, v = .agg #[c0] ∧ TreeR w w.heap.size c0 x ∧ x.fine := by
  obtain ⟨cs, rfl, hsz⟩ := okWide_struct Tryz.underlying24 hv
  obtain ⟨fuel, hf⟩ := h
  have hC : Tryz.prog.cellsOf 24 = 1 := by kernel_rfl
  have h1 : Tryz.prog.cellsOf 22 = 1 := by kernel_rfl
  rw [hC] at hsz
  obtain ⟨l⟩ := cs
  obtain ⟨xs, n, _, _, _, hxl, hg⟩ := DataW.trod_struct Tryz.underlying24 hf
  match l, hsz, xs, hxl with
  | [c0], _, [y0], _ =>
    have g0 : DataW.trod enc Tryz.prog w base spare held n 22 [c0] = some y0 := by simpa [Value.cells, h1] using hg 0 _ rfl
    obtain ⟨A0, m0, cap0, x0, rfl, hS0, hz0, hn0, hc0⟩ := open_Nodes Tryz.underlying22 g0
    exact ⟨_, ⟨x0⟩, rfl, ⟨A0, m0, cap0, rfl, hS0, hc0⟩, ⟨hz0, by rw [hS0.1]; exact hn0⟩⟩
set_option maxRecDepth 100000 in
theorem open_Table {r : Reach} {b0 : Nat} {v : Value} {d : DataW H} {p : List MemPlace} (hv : Value.okWide Tryz.prog w r b0 27 v) (h : DataW.Trod enc Tryz.prog w base spare held 27 v d p) :
    ∃ c0 c1 c2 c3 x, v = .agg #[c0, c1, c2, c3] ∧ TableR w w.heap.size c0 c1 c2 c3 x ∧ x.fine := by
  obtain ⟨cs, rfl, hsz⟩ := okWide_struct Tryz.underlying27 hv
  obtain ⟨fuel, hf⟩ := h
  have hC : Tryz.prog.cellsOf 27 = 4 := by kernel_rfl
  have h1 : Tryz.prog.cellsOf 9 = 1 := by kernel_rfl
  have h2 : Tryz.prog.cellsOf 25 = 1 := by kernel_rfl
  rw [hC] at hsz
  obtain ⟨l⟩ := cs
  obtain ⟨xs, n, _, _, _, hxl, hg⟩ := DataW.trod_struct Tryz.underlying27 hf
  match l, hsz, xs, hxl with
  | [c0, c1, c2, c3], _, [y0, y1, y2, y3], _ =>
    have g0 : DataW.trod enc Tryz.prog w base spare held n 9 [c0] = some y0 := by simpa [Value.cells, h1] using hg 0 _ rfl
    have g1 : DataW.trod enc Tryz.prog w base spare held n 9 [c1] = some y1 := by simpa [Value.cells, h1] using hg 1 _ rfl
    have g2 : DataW.trod enc Tryz.prog w base spare held n 25 [c2] = some y2 := by simpa [Value.cells, h1, h2] using hg 2 _ rfl
    have g3 : DataW.trod enc Tryz.prog w base spare held n 25 [c3] = some y3 := by simpa [Value.cells, h1, h2] using hg 3 _ rfl
    obtain ⟨x0, e0, _, k0⟩ := DataW.trod_string Tryz.underlying9 g0
    obtain ⟨x1, e1, _, k1⟩ := DataW.trod_string Tryz.underlying9 g1
    obtain ⟨A2, m2, cap2, x2, rfl, hS2, hz2, hn2, hc2⟩ := open_strs_cap Tryz.underlying25 Tryz.underlying9 (by kernel_rfl) g2
    obtain ⟨A3, m3, cap3, x3, rfl, hS3, hz3, hn3, hc3⟩ := open_strs_cap Tryz.underlying25 Tryz.underlying9 (by kernel_rfl) g3
    simp at e0 e1
    subst e0 e1
    exact ⟨_, _, _, _, ⟨x0, x1, x2, x3⟩, rfl, ⟨rfl, rfl, ⟨A2, m2, cap2, rfl, hS2, hc2⟩, ⟨A3, m3, cap3, rfl, hS3, hc3⟩⟩, ⟨k0, k1, ⟨hz2, by rw [hS2.1]; exact hn2⟩, ⟨hz3, by rw [hS3.1]; exact hn3⟩⟩⟩
set_option maxRecDepth 100000 in
theorem open_Query {r : Reach} {b0 : Nat} {v : Value} {d : DataW H} {p : List MemPlace} (hv : Value.okWide Tryz.prog w r b0 30 v) (h : DataW.Trod enc Tryz.prog w base spare held 30 v d p) :
    ∃ c0 c1 c2 c3 c4 c5 x, v = .agg #[c0, c1, c2, c3, c4, c5] ∧ QueryR w w.heap.size c0 c1 c2 c3 c4 c5 x ∧ x.fine := by
  obtain ⟨cs, rfl, hsz⟩ := okWide_struct Tryz.underlying30 hv
  obtain ⟨fuel, hf⟩ := h
  have hC : Tryz.prog.cellsOf 30 = 6 := by kernel_rfl
  have h1 : Tryz.prog.cellsOf 9 = 1 := by kernel_rfl
  have h2 : Tryz.prog.cellsOf 25 = 1 := by kernel_rfl
  have h3 : Tryz.prog.cellsOf 28 = 1 := by kernel_rfl
  have h4 : Tryz.prog.cellsOf 4 = 1 := by kernel_rfl
  have h5 : Tryz.prog.cellsOf 2 = 1 := by kernel_rfl
  rw [hC] at hsz
  obtain ⟨l⟩ := cs
  obtain ⟨xs, n, _, _, _, hxl, hg⟩ := DataW.trod_struct Tryz.underlying30 hf
  match l, hsz, xs, hxl with
  | [c0, c1, c2, c3, c4, c5], _, [y0, y1, y2, y3, y4, y5], _ =>
    have g0 : DataW.trod enc Tryz.prog w base spare held n 9 [c0] = some y0 := by simpa [Value.cells, h1] using hg 0 _ rfl
    have g1 : DataW.trod enc Tryz.prog w base spare held n 25 [c1] = some y1 := by simpa [Value.cells, h1, h2] using hg 1 _ rfl
    have g2 : DataW.trod enc Tryz.prog w base spare held n 28 [c2] = some y2 := by simpa [Value.cells, h1, h2, h3] using hg 2 _ rfl
    have g3 : DataW.trod enc Tryz.prog w base spare held n 9 [c3] = some y3 := by simpa [Value.cells, h1, h2, h3] using hg 3 _ rfl
    have g4 : DataW.trod enc Tryz.prog w base spare held n 4 [c4] = some y4 := by simpa [Value.cells, h1, h2, h3, h4] using hg 4 _ rfl
    have g5 : DataW.trod enc Tryz.prog w base spare held n 2 [c5] = some y5 := by simpa [Value.cells, h1, h2, h3, h4, h5] using hg 5 _ rfl
    obtain ⟨x0, e0, _, k0⟩ := DataW.trod_string Tryz.underlying9 g0
    obtain ⟨A1, m1, cap1, x1, rfl, hS1, hz1, hn1, hc1⟩ := open_strs_cap Tryz.underlying25 Tryz.underlying9 (by kernel_rfl) g1
    obtain ⟨A2, m2, cap2, x2, rfl, hS2, hz2, hn2, hc2⟩ := open_Conds Tryz.underlying28 g2
    obtain ⟨x3, e3, _, k3⟩ := DataW.trod_string Tryz.underlying9 g3
    obtain ⟨x4, e4, _⟩ := DataW.trod_bool Tryz.underlying4 g4
    obtain ⟨x5, e5, _, _⟩ := DataW.trod_int Tryz.underlying2 g5
    simp at e0 e3 e4 e5
    subst e0 e3 e4 e5
    exact ⟨_, _, _, _, _, _, ⟨x0, x1, x2, x3, x4, x5⟩, rfl, ⟨rfl, ⟨A1, m1, cap1, rfl, hS1, hc1⟩, ⟨A2, m2, cap2, rfl, hS2, hc2⟩, rfl, rfl, rfl⟩, ⟨k0, ⟨hz1, by rw [hS1.1]; exact hn1⟩, ⟨hz2, by rw [hS2.1]; exact hn2⟩, k3⟩⟩
set_option maxRecDepth 100000 in
theorem open_Plan {r : Reach} {b0 : Nat} {v : Value} {d : DataW H} {p : List MemPlace} (hv : Value.okWide Tryz.prog w r b0 32 v) (h : DataW.Trod enc Tryz.prog w base spare held 32 v d p) :
    ∃ c0 c1 c2 x, v = .agg #[c0, c1, c2] ∧ PlanR w w.heap.size c0 c1 c2 x ∧ x.fine := by
  obtain ⟨cs, rfl, hsz⟩ := okWide_struct Tryz.underlying32 hv
  obtain ⟨fuel, hf⟩ := h
  have hC : Tryz.prog.cellsOf 32 = 3 := by kernel_rfl
  have h1 : Tryz.prog.cellsOf 2 = 1 := by kernel_rfl
  have h2 : Tryz.prog.cellsOf 9 = 1 := by kernel_rfl
  rw [hC] at hsz
  obtain ⟨l⟩ := cs
  obtain ⟨xs, n, _, _, _, hxl, hg⟩ := DataW.trod_struct Tryz.underlying32 hf
  match l, hsz, xs, hxl with
  | [c0, c1, c2], _, [y0, y1, y2], _ =>
    have g0 : DataW.trod enc Tryz.prog w base spare held n 2 [c0] = some y0 := by simpa [Value.cells, h1] using hg 0 _ rfl
    have g1 : DataW.trod enc Tryz.prog w base spare held n 9 [c1] = some y1 := by simpa [Value.cells, h1, h2] using hg 1 _ rfl
    have g2 : DataW.trod enc Tryz.prog w base spare held n 9 [c2] = some y2 := by simpa [Value.cells, h1, h2] using hg 2 _ rfl
    obtain ⟨x0, e0, _, _⟩ := DataW.trod_int Tryz.underlying2 g0
    obtain ⟨x1, e1, _, k1⟩ := DataW.trod_string Tryz.underlying9 g1
    obtain ⟨x2, e2, _, k2⟩ := DataW.trod_string Tryz.underlying9 g2
    simp at e0 e1 e2
    subst e0 e1 e2
    exact ⟨_, _, _, ⟨x0, x1, x2⟩, rfl, ⟨rfl, rfl, rfl⟩, ⟨k1, k2⟩⟩
end
end Go.Proofs.YtalpafaflgddpaaGreatDoor

