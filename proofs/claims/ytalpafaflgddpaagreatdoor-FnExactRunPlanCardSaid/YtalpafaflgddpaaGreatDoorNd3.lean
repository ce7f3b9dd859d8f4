/-
  Index nodes of the reference: what l29Keys makes. (Printed by gen_nd3.py.)
-/
import Derived.Test.YtalpafaflgddpaaGreatDoorNd1
namespace Go.Proofs.YtalpafaflgddpaaGreatDoor
open Go.RowKit

def isKeyB (g col val : ByteArray) (d : NodeD) : Bool := decide (d.name = g) && (decide (d.subs.length = 4) && (decide (d.subs.getD 0 ByteArray.empty = ⟨#[105]⟩) && (decide (d.subs.getD 1 ByteArray.empty = col) && decide (d.subs.getD 2 ByteArray.empty = val))))
def keyOfN (d : NodeD) : ByteArray := d.subs.getD 3 ByteArray.empty
def keysN (g col val : ByteArray) (fs : List NodeD) : List ByteArray := (fs.filter (isKeyB g col val)).map keyOfN

set_option maxRecDepth 100000 in
set_option maxHeartbeats 4000000 in
theorem l29Keys_any (A : Option Addr) (n c : Nat) (b0 b1 b2 b3 : Value) (fs : List NodeD) (b : TableD) (col val : ByteArray) (w : World) (h : Nodes w w.heap.size A n fs) (hb : TableR w w.heap.size b0 b1 b2 b3 b) (hs : smallNs fs) :
    Calls Tryz.prog 36 #[.agg #[.slice A n c], .agg #[b0, b1, b2, b3], .string col, .string val] w fun e w' => ∃ v, e = .returned v ∧ Own.SubO w' w.heap.size v (keysN b.glob col val fs) ∧ Below w.heap.size w w' := by
  obtain ⟨i0, hi, hz0, hz1, hz2⟩ := info_parts infoS
  obtain ⟨rfl, rfl, ⟨A2, n2, p2, rfl, s2, k2⟩, ⟨A3, n3, p3, rfl, s3, k3⟩⟩ := hb
  have Hh := Lib.hid h
  have Hlen := Lib.hid h.1
  have hn : n ≤ 1048576 := by rw [← h.1]; exact hs.1
  clear h hs s2 s3
  have HP : Hid (∀ d, isKeyB b.glob col val d = (decide (d.name = b.glob) && (decide (d.subs.length = 4) && (decide (d.subs.getD 0 ByteArray.empty = ⟨#[105]⟩) && (decide (d.subs.getD 1 ByteArray.empty = col) && decide (d.subs.getD 2 ByteArray.empty = val)))))) := fun _ => rfl
  have HRN : Hid (keysN b.glob col val fs = (fs.filter (isKeyB b.glob col val)).map keyOfN) := rfl
  generalize keysN b.glob col val fs = OUT at *
  generalize isKeyB b.glob col val = P at *
  generalize b.glob = gl at *
  generalize b.name = nm at *
  go_enter Tryz.func36, Tryz.ntmps36
  go_wp2_with fail
  go_loopw [9, 10] (fun v i wr => ∃ (k : Nat), k ≤ n ∧ i = .int .i64 k ∧ wr.ownsRow (w.heap.size + 1 + 1) 9 1 v (((fs.take k).filter P).map keyOfN).length ((((fs.take k).filter P).map keyOfN).map Value.string) ∧ Below (w.heap.size + 1 + 1) ((w.alloc (.cells #[.slice A n c] 41)).alloc (.cells #[.string nm, .string gl, .slice A2 n2 p2, .slice A3 n3 p3] 43)) wr) (fun _ i _ => n - (intOf i).toNat)
  case atStart => exact ⟨0, Nat.zero_le _, rfl, by simpa using World.ownsRow_lit (e := 9) (size := 1) ((w.alloc (.cells #[.slice A n c] 41)).alloc (.cells #[.string nm, .string gl, .slice A2 n2 p2, .slice A3 n3 p3] 43)) #[] 0 (Nat.le_refl _) (by omega) rfl, (Below.refl _ _).alloc (by first | exact Nat.le_refl _ | (simp; done) | (simp; omega)) _⟩
  case round =>
    obtain ⟨k, hk, rfl, hown, hb⟩ := hrel
    have px := (Blk.later (heap_two0 w _ _) hb (by omega)).cell
    have py := (Blk.later (heap_two1 w _ _) hb (by omega)).cell
    have hz3 : w.heap.size + 1 < wr.heap.size := by have := hb.size; simp at this; omega
    have HBk := Lib.hid hb
    have HBw := Lib.hid (((Below.new w _).later (Below.new _ _)).trans (hb.mono (by omega)))
    have hml := filter_len P fs k
    have hml2 : (((fs.take k).filter P).map keyOfN).length ≤ k := by rw [List.length_map]; exact hml
    have HO := Lib.hid hown
    clear hb hown hml
    by_cases hlt : k < n
    · obtain ⟨bb, o, rfl, hbB, hc'⟩ := (Hh.out.later HBw.out).2 (by omega)
      obtain ⟨d0, d1, d2, j0, j1, j2, hrl⟩ := hc' k hlt
      clear hc'
      have hl1 : k < fs.length := by rw [Hlen.out]; exact hlt
      have HTS := Lib.hid (filter_snoc P fs k hl1)
      have HPd := Lib.hid (HP.out (fs.getD k default))
      have HK : Hid (keyOfN (fs.getD k default) = (fs.getD k default).subs.getD 3 ByteArray.empty) := rfl
      clear hl1
      generalize fs.getD k default = d at *
      obtain ⟨e0, ⟨A1, n1, cap1, e1, hs1, hcap1⟩, e2⟩ := hrl
      subst e0 e1 e2
      have HL1 := Lib.hid hs1.1
      have HC1 := Lib.hid hs1.2
      clear hs1
      generalize hY : ((fs.take k).filter P).map keyOfN = ys at *
      have HY := Lib.hid hY
      clear hY
      by_cases hnm : d.name = gl
      case neg =>
        have HE : Hid (((fs.take (k + 1)).filter P).map keyOfN = ys) := by unfold Hid; rw [HTS.out, if_neg (by rw [HPd.out]; rw [decide_eq_false hnm]; simp), HY.out]
        have hbe := str_beq hnm
        clear hnm
        go_wp2_with fail
        go_roundw
        case rel =>
          refine ⟨k + 1, by omega, by go_num, ?_, HBk.out.alloc (by omega) _⟩
          rw [HE.out]; exact Own.own_later HO.out (Below.new _ _)
        case measure => simp [intOf]; omega
      subst hnm
      by_cases hn4 : n1 = 4
      case neg =>
        have HE : Hid (((fs.take (k + 1)).filter P).map keyOfN = ys) := by unfold Hid; rw [HTS.out, if_neg (by rw [HPd.out]; rw [HL1.out, decide_eq_false hn4]; simp), HY.out]
        have hb3 : ((n1 : Int) == 4) = false := by rw [beq_eq_false_iff_ne]; omega
        have hb4 : (n1 == 4) = false := by rw [beq_eq_false_iff_ne]; omega
        clear hn4
        go_wp2_with fail
        go_roundw
        case rel =>
          refine ⟨k + 1, by omega, by go_num, ?_, HBk.out.alloc (by omega) _⟩
          rw [HE.out]; exact Own.own_later HO.out (Below.new _ _)
        case measure => simp [intOf]; omega
      subst hn4
      obtain ⟨sb, so, e1, hsb, hsc⟩ := HC1.out (by omega)
      subst e1
      have h0 := hsc 0 (by omega)
      have h1 := hsc 1 (by omega)
      have h2 := hsc 2 (by omega)
      have h3 := hsc 3 (by omega)
      clear hsc HC1
      rw [Nat.add_zero] at h0
      generalize d.subs.getD 0 ByteArray.empty = t0 at *
      generalize d.subs.getD 1 ByteArray.empty = t1 at *
      generalize d.subs.getD 2 ByteArray.empty = t2 at *
      generalize d.subs.getD 3 ByteArray.empty = t3 at *
      by_cases hs0 : t0 = ⟨#[105]⟩
      case neg =>
        have HE : Hid (((fs.take (k + 1)).filter P).map keyOfN = ys) := by unfold Hid; rw [HTS.out, if_neg (by rw [HPd.out]; rw [decide_eq_false hs0]; simp), HY.out]
        have hbe := str_beq hs0
        have hbe3 := ne_bytes hs0
        clear hs0
        go_wp2_with fail
        go_roundw
        case rel =>
          refine ⟨k + 1, by omega, by go_num, ?_, HBk.out.alloc (by omega) _⟩
          rw [HE.out]; exact Own.own_later HO.out (Below.new _ _)
        case measure => simp [intOf]; omega
      subst hs0
      by_cases hs1 : t1 = col
      case neg =>
        have HE : Hid (((fs.take (k + 1)).filter P).map keyOfN = ys) := by unfold Hid; rw [HTS.out, if_neg (by rw [HPd.out]; rw [decide_eq_false hs1]; simp), HY.out]
        have hbe := str_beq hs1
        clear hs1
        go_wp2_with fail
        go_roundw
        case rel =>
          refine ⟨k + 1, by omega, by go_num, ?_, HBk.out.alloc (by omega) _⟩
          rw [HE.out]; exact Own.own_later HO.out (Below.new _ _)
        case measure => simp [intOf]; omega
      subst hs1
      by_cases hs2 : t2 = val
      case neg =>
        have HE : Hid (((fs.take (k + 1)).filter P).map keyOfN = ys) := by unfold Hid; rw [HTS.out, if_neg (by rw [HPd.out]; rw [decide_eq_false hs2]; simp), HY.out]
        have hbe := str_beq hs2
        clear hs2
        go_wp2_with fail
        go_roundw
        case rel =>
          refine ⟨k + 1, by omega, by go_num, ?_, HBk.out.alloc (by omega) _⟩
          rw [HE.out]; exact Own.own_later HO.out (Below.new _ _)
        case measure => simp [intOf]; omega
      subst hs2
      have HE : Hid (((fs.take (k + 1)).filter P).map keyOfN = ys ++ [t3]) := by unfold Hid; rw [HTS.out, if_pos (by rw [HPd.out, HL1.out]; simp only [decide_true, Bool.and_self]), List.map_append, HY.out, List.map_singleton, HK.out]
      have hrow : Hid (∀ o o', ((wr.alloc o).alloc o').ownsRow (w.heap.size + 1 + 1) 9 1 u9 ys.length (ys.map Value.string)) := fun o o' => Own.own_later (Own.own_later HO.out (Below.new _ _)) (Below.new _ _)
      go_wp2_with (at_builtin; refine wpList_append_own _ rfl (.tmp 59) (.tmp 64) 25 rfl (w.heap.size + 1 + 1) 9 i0 _ 1 16 Tryz.underlying25 hi hz0 hz1 hz2 rfl (by decide) _ ys.length _ rfl (hrow.out _ _) ⟨_, 0, none⟩ 1 1 [.string t3] rfl rfl ?c1 ?c2 ?c3 ?c4 ?c5 ?_)
      all_goals try (first | exact cells_atN _ #[.string t3] _ _ (by simp) | (simp [Value.oneCell']; done) | (unfold maxLen; omega) | omega)
      intro v1 w2 hown1 hg1 _
      have HO3 : Hid (w2.ownsRow (w.heap.size + 1 + 1) 9 1 v1 (((fs.take (k + 1)).filter P).map keyOfN).length ((((fs.take (k + 1)).filter P).map keyOfN).map Value.string)) := by
        unfold Hid
        rw [HE.out, List.length_append, List.length_singleton, List.map_append]
        exact hown1
      have HB3 := Lib.hid (((HBk.out.alloc (by omega) _).alloc (by first | omega | (simp; omega)) _).grown hg1 (by first | omega | (simp; omega)) (fun g hg' => ((hrow.out (.cells #[] 0) (.cells #[] 0)).lt g hg').1))
      clear hown1 hg1
      go_wp2_with fail
      go_roundw
      case rel => exact ⟨k + 1, by omega, by go_num, HO3.out, HB3.out⟩
      case measure => simp [intOf]; omega
    · obtain rfl : k = n := by omega
      have HE : Hid (((fs.take k).filter P).map keyOfN = OUT) := by unfold Hid; rw [HRN.out, List.take_of_length_le (by rw [Hlen.out]; omega)]
      go_wp2_with fail
      go_ret
      have h1 := HO.out
      rw [HE.out] at h1
      exact ⟨_, rfl, Own.own_base h1 (by omega), HBw.out⟩
end Go.Proofs.YtalpafaflgddpaaGreatDoor
