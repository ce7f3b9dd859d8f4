/-
  Row nodes of the reference: what l29Nodes, l29At and l29Keys make.
-/
import Derived.Test.YtalpafaflgddpaaGreatDoorDtTo
import Derived.Test.YtalpafaflgddpaaGreatDoorTr2
import Derived.Test.YtalpafaflgddpaaGreatDoorApp
import Derived.Deep.RegionLaw
namespace Go.Proofs.YtalpafaflgddpaaGreatDoor
open Go.RowKit

theorem cells_newN (w : World) (cs : Array Value) (t : TypeId) : ∀ j u, cs.toList[j]? = some u → (w.alloc (.cells cs t)).cell? ((⟨w.heap.size, 0, none⟩ : Addr).add j) = some u := by
  intro j u hu
  have h := cell_of_row _ w.heap.size j cs t (0, 0) (heap_alloc_new w (.cells cs t))
  have hu' : cs[j]? = some u := by rw [← Array.getElem?_toList]; exact hu
  unfold Addr.add
  split
  · rename_i h0; subst h0; rw [h, hu']
  · rw [show (⟨w.heap.size, 0 + j, none⟩ : Addr) = ⟨w.heap.size, j, none⟩ from by simp, h, hu']
theorem cells_atN (w : World) (cs : Array Value) (t : TypeId) (g : Nat) (hg : w.heap.size = g) : ∀ j u, cs.toList[j]? = some u → (w.alloc (.cells cs t)).cell? ((⟨g, 0, none⟩ : Addr).add j) = some u := by
  subst hg
  exact cells_newN w cs t
theorem ne_bytes {s : ByteArray} {l : List UInt8} (h : s ≠ ⟨l.toArray⟩) : (s.toList == l) = false := by
  have := str_beq h
  simpa [toList_data] using this
/-- Cells that read as nodes in the world w. -/
def CellsN (w : World) : List NodeD → List Value → Prop
  | [], cs => cs = []
  | d :: r, cs => ∃ c0 c1 c2 cs', cs = c0 :: c1 :: c2 :: cs' ∧ NodeR w w.heap.size c0 c1 c2 d ∧ CellsN w r cs'
theorem CellsN.snoc {w : World} {d : NodeD} {c0 c1 c2 : Value} (hd : NodeR w w.heap.size c0 c1 c2 d) : ∀ {fs : List NodeD} {cs : List Value}, CellsN w fs cs → CellsN w (fs ++ [d]) (cs ++ [c0, c1, c2])
  | [], cs, h => by
    have h : cs = [] := h
    subst h
    exact ⟨c0, c1, c2, [], rfl, hd, rfl⟩
  | f :: r, cs, h => by
    obtain ⟨a0, a1, a2, cs', rfl, ha, hr⟩ := h
    exact ⟨a0, a1, a2, cs' ++ [c0, c1, c2], rfl, ha, CellsN.snoc hd hr⟩
theorem CellsN.at {w : World} : ∀ {fs : List NodeD} {cs : List Value} (j : Nat), CellsN w fs cs → j < fs.length → ∃ c0 c1 c2, cs[j * 3]? = some c0 ∧ cs[j * 3 + 1]? = some c1 ∧ cs[j * 3 + 2]? = some c2 ∧ NodeR w w.heap.size c0 c1 c2 (fs.getD j default)
  | [], _, j, _, hj => by simp at hj
  | f :: r, cs, 0, h, _ => by
    obtain ⟨a0, a1, a2, cs', rfl, ha, _⟩ := h
    exact ⟨a0, a1, a2, rfl, rfl, rfl, ha⟩
  | f :: r, cs, j + 1, h, hj => by
    obtain ⟨a0, a1, a2, cs', rfl, _, hr⟩ := h
    obtain ⟨b0, b1, b2, e0, e1, e2, hb⟩ := CellsN.at j hr (by simpa using hj)
    refine ⟨b0, b1, b2, ?_, ?_, ?_, by simpa using hb⟩
    · rw [show (j + 1) * 3 = j * 3 + 3 by omega]; simpa using e0
    · rw [show (j + 1) * 3 + 1 = (j * 3 + 1) + 3 by omega]; simpa using e1
    · rw [show (j + 1) * 3 + 2 = (j * 3 + 2) + 3 by omega]; simpa using e2
/-- A row of the call's own whose cells read as nodes. -/
theorem nodes_of_row {w W : World} {base n : Nat} {v : Value} {fs : List NodeD} {cs : List Value} (h : W.ownsRow base 78 3 v n cs) (hn : fs.length = n) (hc : CellsN w fs cs) (hb : Below w.heap.size w W) : ∃ A cap, v = .slice A n cap ∧ n ≤ cap ∧ Nodes W W.heap.size A n fs := by
  obtain ⟨A, cap, rfl, hcap, _, hA⟩ := Own.own_slice h
  refine ⟨A, cap, rfl, hcap, hn, fun hp => ?_⟩
  obtain ⟨g, rfl, hg, _⟩ := hA hp
  refine ⟨g, 0, rfl, hg, fun j hj => ?_⟩
  obtain ⟨c0, c1, c2, e0, e1, e2, hr⟩ := CellsN.at j hc (by omega)
  refine ⟨c0, c1, c2, ?_, ?_, ?_, hr.later hb⟩
  · rw [Nat.zero_add]; exact Own.own_cell h _ _ (by omega) e0
  · rw [Nat.zero_add]; exact Own.own_cell h _ _ (by omega) e1
  · rw [Nat.zero_add]; exact Own.own_cell h _ _ (by omega) e2
def isRowB (g : ByteArray) (d : NodeD) : Bool := decide (d.name = g) && (decide (d.subs.length = 2) && decide (d.subs.getD 0 ByteArray.empty = ⟨#[114]⟩))
def rowsN (g : ByteArray) (fs : List NodeD) : List NodeD := fs.filter (isRowB g)
theorem filter_snoc {α : Type} [Inhabited α] (p : α → Bool) (l : List α) (k : Nat) (h : k < l.length) : (l.take (k + 1)).filter p = if p (l.getD k default) = true then (l.take k).filter p ++ [l.getD k default] else (l.take k).filter p := by
  rw [List.take_succ_eq_append_getElem h, List.filter_append, List.getD_eq_getElem?_getD, List.getElem?_eq_getElem h, Option.getD_some]
  by_cases e : p l[k] = true
  · rw [if_pos e]; simp [e]
  · rw [if_neg e]; simp [e]
theorem filter_len {α : Type} (p : α → Bool) (l : List α) (k : Nat) : ((l.take k).filter p).length ≤ k := by
  have := List.length_filter_le p (l.take k)
  rw [List.length_take] at this
  omega
def NodesPost (w0 : World) (fs : List NodeD) (e : Ending) (w' : World) : Prop := ∃ v cs, e = .returned v ∧ w'.ownsRow w0.heap.size 78 3 v fs.length cs ∧ CellsN w0 fs cs ∧ Below w0.heap.size w0 w'

set_option maxRecDepth 100000 in
set_option maxHeartbeats 4000000 in
theorem l29Nodes_any (A : Option Addr) (n c : Nat) (b0 b1 b2 b3 : Value) (fs : List NodeD) (b : TableD) (w : World) (h : Nodes w w.heap.size A n fs) (hb : TableR w w.heap.size b0 b1 b2 b3 b) (hs : smallNs fs) :
    Calls Tryz.prog 35 #[.agg #[.slice A n c], .agg #[b0, b1, b2, b3]] w (NodesPost w (rowsN b.glob fs)) := by
  obtain ⟨i0, hi, hz0, hz1, hz2⟩ := info_parts infoNodeD
  obtain ⟨rfl, rfl, ⟨A2, n2, p2, rfl, s2, k2⟩, ⟨A3, n3, p3, rfl, s3, k3⟩⟩ := hb
  have Hh := Lib.hid h
  have Hlen := Lib.hid h.1
  have hn : n ≤ 1048576 := by rw [← h.1]; exact hs.1
  have Hs := Lib.hid hs
  clear h hs s2 s3
  have HP : Hid (∀ d, isRowB b.glob d = (decide (d.name = b.glob) && (decide (d.subs.length = 2) && decide (d.subs.getD 0 ByteArray.empty = ⟨#[114]⟩)))) := fun _ => rfl
  have HRN : Hid (rowsN b.glob fs = fs.filter (isRowB b.glob)) := rfl
  generalize rowsN b.glob fs = OUT at *
  generalize isRowB b.glob = P at *
  generalize b.glob = gl at *
  generalize b.name = nm at *
  go_enter Tryz.func35, Tryz.ntmps35
  go_wp2_with fail
  go_loopw [5, 6] (fun v i wr => ∃ (k : Nat) (cs : List Value), k ≤ n ∧ i = .int .i64 k ∧ wr.ownsRow (w.heap.size + 1 + 1) 78 3 v ((fs.take k).filter P).length cs ∧ CellsN w ((fs.take k).filter P) cs ∧ Below (w.heap.size + 1 + 1) ((w.alloc (.cells #[.slice A n c] 41)).alloc (.cells #[.string nm, .string gl, .slice A2 n2 p2, .slice A3 n3 p3] 43)) wr) (fun _ i _ => n - (intOf i).toNat)
  case atStart => exact ⟨0, [], Nat.zero_le _, rfl, by simpa using World.ownsRow_lit (e := 78) (size := 3) ((w.alloc (.cells #[.slice A n c] 41)).alloc (.cells #[.string nm, .string gl, .slice A2 n2 p2, .slice A3 n3 p3] 43)) #[] 0 (Nat.le_refl _) (by omega) rfl, rfl, (Below.refl _ _).alloc (by first | exact Nat.le_refl _ | (simp; done) | (simp; omega)) _⟩
  case round =>
    obtain ⟨k, cs, hk, rfl, hown, hcs, hb⟩ := hrel
    have px := (Blk.later (heap_two0 w _ _) hb (by omega)).cell
    have py := (Blk.later (heap_two1 w _ _) hb (by omega)).cell
    have hz3 : w.heap.size + 1 < wr.heap.size := by have := hb.size; simp at this; omega
    have HBk := Lib.hid hb
    have HBw := Lib.hid (((Below.new w _).later (Below.new _ _)).trans (hb.mono (by omega)))
    have HO := Lib.hid hown
    have HC := Lib.hid hcs
    have hml := filter_len P fs k
    clear hb hown hcs
    by_cases hlt : k < n
    · obtain ⟨bb, o, e0, hbB0, hc0⟩ := Hh.out.2 (by omega)
      obtain ⟨c0, c1, c2, k0, k1, k2, hr⟩ := hc0 k hlt
      obtain ⟨bb', o', e0', hbB, hc'⟩ := (Hh.out.later HBw.out).2 (by omega)
      obtain ⟨d0, d1, d2, l0, l1, l2, hrl⟩ := hc' k hlt
      subst e0
      simp only [Option.some.injEq, Addr.mk.injEq, and_true] at e0'
      obtain ⟨rfl, rfl⟩ := e0'
      have j0 := (HBw.out.cell (p := ⟨bb, o + k * 3, none⟩) hbB0).trans k0
      have j1 := (HBw.out.cell (p := ⟨bb, o + k * 3 + 1, none⟩) hbB0).trans k1
      have j2 := (HBw.out.cell (p := ⟨bb, o + k * 3 + 2, none⟩) hbB0).trans k2
      rw [j0] at l0
      rw [j1] at l1
      rw [j2] at l2
      cases l0
      cases l1
      cases l2
      clear hc0 hc' k0 k1 k2
      have hl1 : k < fs.length := by rw [Hlen.out]; exact hlt
      have HTS := Lib.hid (filter_snoc P fs k hl1)
      have HPd := Lib.hid (HP.out (fs.getD k default))
      clear hl1
      generalize fs.getD k default = d at *
      have HNR := Lib.hid hr
      clear hr
      obtain ⟨e0, ⟨A1, n1, cap1, e1, hs1, hcap1⟩, e2⟩ := hrl
      subst e0 e1 e2
      have HL1 := Lib.hid hs1.1
      have hc1 := hs1.2
      have HC1 := Lib.hid hc1
      clear hs1 hc1
      generalize hM : ((fs.take k).filter P).length = m at *
      have HM := Lib.hid hM
      clear hM
      by_cases hnm : d.name = gl
      case neg =>
        have HE : Hid ((fs.take (k + 1)).filter P = (fs.take k).filter P) := by unfold Hid; rw [HTS.out, if_neg (by rw [HPd.out]; simp [hnm])]
        have hbe := str_beq hnm
        clear hnm
        go_wp2_with fail
        go_roundw
        case rel =>
          refine ⟨k + 1, cs, by omega, by go_num, ?_, ?_, HBk.out.alloc (by omega) _⟩
          · rw [HE.out, HM.out]; exact Own.own_later HO.out (Below.new _ _)
          · rw [HE.out]; exact HC.out
        case measure => simp [intOf]; omega
      subst hnm
      by_cases hn2 : n1 = 2
      case neg =>
        have HE : Hid ((fs.take (k + 1)).filter P = (fs.take k).filter P) := by unfold Hid; rw [HTS.out, if_neg (by rw [HPd.out]; simp [HL1.out, hn2])]
        have hb3 : ((n1 : Int) == 2) = false := by rw [beq_eq_false_iff_ne]; omega
        have hb4 : (n1 == 2) = false := by rw [beq_eq_false_iff_ne]; omega
        clear hn2
        go_wp2_with fail
        go_roundw
        case rel =>
          refine ⟨k + 1, cs, by omega, by go_num, ?_, ?_, HBk.out.alloc (by omega) _⟩
          · rw [HE.out, HM.out]; exact Own.own_later HO.out (Below.new _ _)
          · rw [HE.out]; exact HC.out
        case measure => simp [intOf]; omega
      subst hn2
      obtain ⟨sb, so, e1, hsb, hsc⟩ := HC1.out (by omega)
      subst e1
      have hck := hsc 0 (by omega)
      clear hsc
      rw [Nat.add_zero] at hck
      by_cases hsub : d.subs.getD 0 ByteArray.empty = ⟨#[114]⟩
      case neg =>
        have HE : Hid ((fs.take (k + 1)).filter P = (fs.take k).filter P) := by unfold Hid; rw [HTS.out, if_neg (by rw [HPd.out]; rw [HL1.out, decide_eq_false hsub]; simp)]
        have hbe := str_beq hsub
        have hbe3 := ne_bytes hsub
        generalize d.subs.getD 0 ByteArray.empty = s0 at *
        clear hsub
        go_wp2_with fail
        go_roundw
        case rel =>
          refine ⟨k + 1, cs, by omega, by go_num, ?_, ?_, HBk.out.alloc (by omega) _⟩
          · rw [HE.out, HM.out]; exact Own.own_later HO.out (Below.new _ _)
          · rw [HE.out]; exact HC.out
        case measure => simp [intOf]; omega
      have HE : Hid ((fs.take (k + 1)).filter P = (fs.take k).filter P ++ [d]) := by unfold Hid; rw [HTS.out, if_pos (by rw [HPd.out, HL1.out, decide_eq_true hsub]; simp)]
      have hrow : Hid (∀ o o', ((wr.alloc o).alloc o').ownsRow (w.heap.size + 1 + 1) 78 3 u5 m cs) := fun o o' => Own.own_later (Own.own_later HO.out (Below.new _ _)) (Below.new _ _)
      rw [hsub] at hck
      clear hsub
      go_wp2_with (at_builtin; refine wpList_append_own _ rfl (.tmp 39) (.tmp 41) 39 rfl (w.heap.size + 1 + 1) 78 i0 _ 3 56 Tryz.underlying39 hi hz0 hz1 hz2 rfl (by decide) _ m _ rfl (hrow.out _ _) ⟨_, 0, none⟩ 1 1 [.string d.name, .slice (some ⟨sb, so, none⟩) 2 cap1, .string d.val] rfl rfl ?c1 ?c2 ?c3 ?c4 ?c5 ?_)
      case c2 => simp [Value.oneCell']
      case c3 => unfold maxLen; omega
      case c4 => omega
      case c5 => first | omega | (simp; omega)
      intro v1 w2 hown1 hg1 _
      have HO3 : Hid (w2.ownsRow (w.heap.size + 1 + 1) 78 3 v1 ((fs.take (k + 1)).filter P).length (cs ++ [.string d.name, .slice (some ⟨sb, so, none⟩) 2 cap1, .string d.val])) := by
        unfold Hid
        rw [HE.out, List.length_append, List.length_singleton, HM.out]
        exact hown1
      have HC3 : Hid (CellsN w ((fs.take (k + 1)).filter P) (cs ++ [.string d.name, .slice (some ⟨sb, so, none⟩) 2 cap1, .string d.val])) := by
        unfold Hid
        rw [HE.out]
        exact CellsN.snoc HNR.out HC.out
      have HB3 := Lib.hid (((HBk.out.alloc (by omega) _).alloc (by simp; omega) _).grown hg1 (by simp; omega) (fun g hg' => ((hrow.out (.cells #[] 0) (.cells #[] 0)).lt g hg').1))
      clear hown1 hg1
      go_wp2_with fail
      go_roundw
      case rel => exact ⟨k + 1, _, by omega, by go_num, HO3.out, HC3.out, HB3.out⟩
      case measure => simp [intOf]; omega
    · obtain rfl : k = n := by omega
      have HE : Hid ((fs.take k).filter P = OUT) := by unfold Hid; rw [HRN.out, List.take_of_length_le (by rw [Hlen.out]; omega)]
      go_wp2_with fail
      go_ret
      have h1 := HO.out
      have h2 := HC.out
      rw [HE.out] at h1 h2
      exact ⟨_, cs, rfl, Own.own_base h1 (by omega), h2, HBw.out⟩
end Go.Proofs.YtalpafaflgddpaaGreatDoor
