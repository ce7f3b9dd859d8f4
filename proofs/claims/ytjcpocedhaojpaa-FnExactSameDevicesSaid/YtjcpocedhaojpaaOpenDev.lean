/-
  Arguments opened: files, slices of files and devices that came in, as data.
-/
import Derived.Test.YtjcpocedhaojpaaOpen
import Derived.Test.YtjcpocedhaojpaaDev2
import Derived.Deep.Slices
import Derived.Deep.Fields
namespace Go.Proofs.Ytjcpocedhaojpaa
open Go.ChangeShapes Go.WideShapes Go.ChangeAt Go.RowKit Go.Joins Go.Deep

theorem list_of {α : Type} [Inhabited α] (p : Nat → α → Prop) : ∀ n, (∀ i, i < n → ∃ d, p i d) → ∃ l : List α, l.length = n ∧ ∀ i, i < n → p i (l.getD i default)
  | 0, _ => ⟨[], rfl, fun i h => absurd h (by omega)⟩
  | n + 1, h => by
    obtain ⟨l, hl, hp⟩ := list_of p n fun i hi => h i (by omega)
    obtain ⟨d, hd⟩ := h n (by omega)
    refine ⟨l ++ [d], by simp [hl], fun i hi => ?_⟩
    by_cases e : i = n
    · subst e
      rw [List.getD_eq_getElem?_getD, List.getElem?_append_right (by omega), hl]
      simpa using hd
    · rw [List.getD_eq_getElem?_getD, List.getElem?_append_left (by omega), ← List.getD_eq_getElem?_getD]
      exact hp i (by omega)

section
variable {H : Type} {enc : TypeId × Value → H} {w : World} {base : Nat} {spare : Nat → Bool} {held : Bool}
theorem open_file {fuel : Nat} {cs : List Value} {x : DataW H × List MemPlace} (h : DataW.trod enc Try.prog w base spare held fuel 80 cs = some x) :
    ∃ c0 c1 c2 c3 d, cs = [c0, c1, c2, c3] ∧ FileR w w.heap.size c0 c1 c2 c3 d ∧ d.fine := by
  obtain ⟨xs, n, _, _, hlen, hxl, hg⟩ := DataW.trod_struct Try.underlying80 h
  have hC : Try.prog.cellsOf 80 = 4 := by kernel_rfl
  have h1 : Try.prog.cellsOf 9 = 1 := by kernel_rfl
  have h2 : Try.prog.cellsOf 22 = 1 := by kernel_rfl
  have h3 : Try.prog.cellsOf 2 = 1 := by kernel_rfl
  rw [hC] at hlen
  match cs, hlen, xs, hxl with
  | [c0, c1, c2, c3], _, [y0, y1, y2, y3], _ =>
    have g0 : DataW.trod enc Try.prog w base spare held n 9 [c0] = some y0 := by simpa [h1] using hg 0 _ rfl
    have g1 : DataW.trod enc Try.prog w base spare held n 22 [c1] = some y1 := by simpa [h2] using hg 1 _ rfl
    have g2 : DataW.trod enc Try.prog w base spare held n 9 [c2] = some y2 := by simpa [h1] using hg 2 _ rfl
    have g3 : DataW.trod enc Try.prog w base spare held n 2 [c3] = some y3 := by simpa [h3] using hg 3 _ rfl
    obtain ⟨nm, e0, _, k0⟩ := DataW.trod_string Try.underlying9 g0
    obtain ⟨A, m, cap, ss, rfl, hS, hz, hn⟩ := open_strs_in Try.underlying22 Try.underlying9 h1 g1
    obtain ⟨pt, e2, _, k2⟩ := DataW.trod_string Try.underlying9 g2
    obtain ⟨a, e3, _, _⟩ := DataW.trod_int Try.underlying2 g3
    simp at e0 e2 e3
    subst e0 e2 e3
    exact ⟨_, _, _, _, ⟨nm, ss, pt, a⟩, rfl, ⟨rfl, ⟨A, m, cap, rfl, hS⟩, rfl, rfl⟩, k0, hz, by rw [hS.1]; exact hn, k2⟩

theorem open_files {fuel : Nat} {v : Value} {x : DataW H × List MemPlace} (h : DataW.trod enc Try.prog w base spare held fuel 33 [v] = some x) :
    ∃ (A : Option Addr) (n cap : Nat) (fs : List FileD), v = .slice A n cap ∧ Files w w.heap.size A n fs ∧ (∀ d ∈ fs, d.fine) ∧ n ≤ maxLen := by
  have hC : Try.prog.cellsOf 80 = 4 := by kernel_rfl
  rcases open_slice Try.underlying33 h with ⟨hcs, _⟩ | ⟨a, len, cap, m, n, D, Pl, hcs, hb, hl, hm, hmm, hx, hi⟩
  · injection hcs with e _
    exact ⟨none, 0, 0, [], e, ⟨rfl, fun h => absurd h (by omega)⟩, (fun s hs => by cases hs), by omega⟩
  · injection hcs with e _
    subst e
    have hlm : len ≤ m := by rw [hmm]; split <;> omega
    obtain ⟨fs, hfl, hfs⟩ := list_of (fun i d => ∃ c0 c1 c2 c3, w.cell? ((a.add (i * 4)).add 0) = some c0 ∧ w.cell? ((a.add (i * 4)).add 1) = some c1 ∧ w.cell? ((a.add (i * 4)).add 2) = some c2 ∧ w.cell? ((a.add (i * 4)).add 3) = some c3 ∧ FileR w w.heap.size c0 c1 c2 c3 d ∧ d.fine) len (fun i hil => by
      obtain ⟨cs', hc, ht'⟩ := hi i (by omega)
      rw [hC] at hc
      obtain ⟨c0, c1, c2, c3, d, rfl, hr, hf⟩ := open_file ht'
      obtain ⟨_, _, hat⟩ := World.cells?_some hc
      exact ⟨d, c0, c1, c2, c3, hat 0 (by omega), hat 1 (by omega), hat 2 (by omega), hat 3 (by omega), hr, hf⟩)
    refine ⟨some a, len, cap, fs, rfl, ⟨hfl, fun hp => ?_⟩, fun d hd => ?_, by omega⟩
    · obtain ⟨b, off, spot⟩ := a
      obtain ⟨c0, _, _, _, h0, _⟩ := hfs 0 hp
      have hspot : spot = none := by simpa [Addr.add] using World.cell?_spot h0
      subst hspot
      refine ⟨b, off, rfl, World.block_lt_of_cell? w _ (by simpa [Addr.add] using h0), fun j hj => ?_⟩
      obtain ⟨c0, c1, c2, c3, h0, h1, h2, h3, hr, _⟩ := hfs j hj
      simp only [Go.WideShapes.add_plain, Nat.add_zero] at h0 h1 h2 h3
      exact ⟨c0, c1, c2, c3, h0, h1, h2, h3, hr⟩
    · obtain ⟨i, hi', rfl⟩ := List.getElem_of_mem hd
      obtain ⟨_, _, _, _, _, _, _, _, _, hf⟩ := hfs i (by omega)
      rwa [List.getD_eq_getElem?_getD, List.getElem?_eq_getElem hi'] at hf

theorem open_dev {r : Reach} {b0 : Nat} {v : Value} {d : DataW H} {p : List MemPlace} (hv : Value.okWide Try.prog w r b0 35 v) (h : DataW.Trod enc Try.prog w base spare held 35 v d p) :
    ∃ c0 c1 c2 c3 c4 c5 dd, v = .agg #[c0, c1, c2, c3, c4, c5] ∧ DevR w w.heap.size c0 c1 c2 c3 c4 c5 dd ∧ dd.fine := by
  obtain ⟨cs, rfl, hsz⟩ := okWide_struct Try.underlying35 hv
  obtain ⟨fuel, hf⟩ := h
  have hC : Try.prog.cellsOf 35 = 6 := by kernel_rfl
  have hS : Try.prog.cellsOf 24 = 3 := by kernel_rfl
  have h1 : Try.prog.cellsOf 9 = 1 := by kernel_rfl
  have h2 : Try.prog.cellsOf 22 = 1 := by kernel_rfl
  have h3 : Try.prog.cellsOf 2 = 1 := by kernel_rfl
  have h4 : Try.prog.cellsOf 33 = 1 := by kernel_rfl
  rw [hC] at hsz
  obtain ⟨l⟩ := cs
  obtain ⟨xs, n, _, _, _, hxl, hg⟩ := DataW.trod_struct Try.underlying35 hf
  match l, hsz, xs, hxl with
  | [c0, c1, c2, c3, c4, c5], _, [y0, y1, y2, y3], _ =>
    have g0 : DataW.trod enc Try.prog w base spare held n 2 [c0] = some y0 := by simpa [Value.cells, h3] using hg 0 _ rfl
    have g1 : DataW.trod enc Try.prog w base spare held n 24 [c1, c2, c3] = some y1 := by simpa [Value.cells, hS] using hg 1 _ rfl
    have g2 : DataW.trod enc Try.prog w base spare held n 33 [c4] = some y2 := by simpa [Value.cells, h4] using hg 2 _ rfl
    have g3 : DataW.trod enc Try.prog w base spare held n 22 [c5] = some y3 := by simpa [Value.cells, h2] using hg 3 _ rfl
    obtain ⟨us, e0, _, _⟩ := DataW.trod_int Try.underlying2 g0
    obtain ⟨zs, n', _, _, _, hzl, hgs⟩ := DataW.trod_struct Try.underlying24 g1
    match zs, hzl with
    | [z0, z1, z2], _ =>
      have s0 : DataW.trod enc Try.prog w base spare held n' 2 [c1] = some z0 := by simpa [h3] using hgs 0 _ rfl
      have s1 : DataW.trod enc Try.prog w base spare held n' 2 [c2] = some z1 := by simpa [h3] using hgs 1 _ rfl
      have s2 : DataW.trod enc Try.prog w base spare held n' 22 [c3] = some z2 := by simpa [h2] using hgs 2 _ rfl
      obtain ⟨rw', e1, _, _⟩ := DataW.trod_int Try.underlying2 s0
      obtain ⟨cl, e2, _, _⟩ := DataW.trod_int Try.underlying2 s1
      obtain ⟨A, m, cap, ss, rfl, hS1, hz1, hn1⟩ := open_strs_in Try.underlying22 Try.underlying9 h1 s2
      obtain ⟨A', m', cap', fs, rfl, hF, hff, hn2⟩ := open_files g2
      obtain ⟨A'', m'', cap'', ks, rfl, hK, hz3, hn3⟩ := open_strs_in Try.underlying22 Try.underlying9 h1 g3
      simp at e0 e1 e2
      subst e0 e1 e2
      exact ⟨_, _, _, _, _, _, ⟨us, rw', cl, ss, fs, ks⟩, rfl, ⟨rfl, rfl, rfl, ⟨A, m, cap, rfl, hS1⟩, ⟨A', m', cap', rfl, hF⟩, ⟨A'', m'', cap'', rfl, hK⟩⟩, hz1, by rw [hS1.1]; exact hn1, hff, by rw [hF.1]; exact hn2, hz3, by rw [hK.1]; exact hn3⟩
end
end Go.Proofs.Ytjcpocedhaojpaa
