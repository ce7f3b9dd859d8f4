/-
  Locks: what l24Own of the reference makes.
-/
import Derived.Test.YtiebcdajoddkpaaGreatDoorLkI5
namespace Go.Proofs.YtiebcdajoddkpaaGreatDoor
open Go.RowKit

/-- Locks by value, of the call's own. -/
def OwnLks (base : Nat) (held asks : List ItD) (w : World) (e : Ending) (w' : World) : Prop :=
  ∃ v0 v1 vs us, e = .returned (.agg #[v0, v1]) ∧ OwnIts w' base 37 v0 held vs ∧ OwnIts w' base 42 v1 asks us ∧ (∀ x ∈ vs, ∀ y ∈ us, apart x y) ∧ Below w.heap.size w w'

set_option maxRecDepth 100000 in
set_option maxHeartbeats 4000000 in
theorem l24Own_any (A A' : Option Addr) (n c n' c' : Nat) (held asks : List ItD) (w : World) (h : Its w w.heap.size A n held) (ha : Its w w.heap.size A' n' asks) (hs : smalls held) (hsa : smalls asks) :
    Calls Tryz.prog 50 #[.agg #[.slice A n c, .slice A' n' c']] w (OwnLks w.heap.size held asks w) := by
  obtain ⟨i0, hi, hz0, hz1, hz2⟩ := info_parts infoLock
  obtain ⟨j0, gi, gz0, gz1, gz2⟩ := info_parts infoAsk
  have Hh := Lib.hid h
  have Ha := Lib.hid ha
  have Hlen := Lib.hid h.1
  have Hlena := Lib.hid ha.1
  have hn : n ≤ 1048576 := by rw [← h.1]; exact hs.1
  have hn' : n' ≤ 1048576 := by rw [← ha.1]; exact hsa.1
  have Hs := Lib.hid hs
  have Hsa := Lib.hid hsa
  clear h ha hs hsa
  go_enter Tryz.func50, Tryz.ntmps50
  go_wp2_with fail
  go_loopw [4] (fun i wr => ∃ (k : Nat) (v0 : Value) (vs : List Value), k ≤ n ∧ i = .int .i64 k ∧ OwnIts wr w.heap.size 37 v0 (held.take k) vs ∧ Blk wr (w.heap.size + 1 + 1) 27 #[v0, .slice none 0 0] ∧ Blk wr (w.heap.size + 1) 27 #[.slice none 0 0, .slice none 0 0] ∧ Below (w.heap.size + 1) (w.alloc (.cells #[.slice A n c, .slice A' n' c'] 27)) wr) (fun i _ => n - (intOf i).toNat)
  case atStart =>
    refine ⟨0, .slice none 0 0, [], Nat.zero_le _, rfl, ⟨rfl, World.ownsRow_nil _ _ _ _, fun j hj => by simp at hj, List.Pairwise.nil⟩, heap_new2 _ _ _ _, heap_new1 _ _ _ _, ((Below.refl _ _).alloc (by simp) _).alloc (by simp) _⟩
  case round =>
    obtain ⟨k, v0, vs, hk, rfl, hO, hB2, hB1, hb⟩ := hrel
    have p0 := (Blk.later (heap_alloc_new w _) hb (by omega)).cell
    have hzz := hB2.lt
    have hw0 : w.heap.size < wr.heap.size := by omega
    have HB := Lib.hid hb
    have HBw := Lib.hid ((Below.new _ _).trans (hb.mono (by omega)))
    have HO := Lib.hid hO
    have HB2 := Lib.hid hB2
    have HB1 := Lib.hid hB1
    clear hb hO hB2 hB1
    by_cases hlt : k < n
    · obtain ⟨bb, o, rfl, hbB, hc'⟩ := (Hh.out.later HBw.out).2 (by omega)
      obtain ⟨c0, c1, c2, c3, k0, k1, k2, k3, hr⟩ := hc' k hlt
      clear hc'
      have hl1 : k < held.length := by rw [Hlen.out]; exact hlt
      have HTS := Lib.hid (take_snoc_it held k hl1)
      have hsm := Hs.out.2 _ (getD_mem held k hl1)
      have HLK : Hid ((held.take k).length = k) := by unfold Hid; rw [List.length_take]; omega
      clear hl1
      generalize held.getD k default = d at *
      obtain ⟨e0, e1, e2, A1, n1, cap1, e3, hs1, _⟩ := hr
      subst e0 e1 e2 e3
      have hn1 : n1 ≤ 1048576 := by rw [← hs1.1]; exact hsm.2.1
      have HK := Lib.hid (fun W (hW : Below wr.heap.size wr W) => l24Subs_own A1 n1 cap1 d.subs W (hs1.later hW) hn1)
      clear hs1 hsm
      go_wp2_with fail
      refine (HK.out _ (Below.new _ _)).mono ?_
      rintro e w1 ⟨v', rfl, hsub, hb1⟩
      have hbk := Blk.later (heap_alloc_new wr _) hb1 (by simp)
      obtain ⟨A2, cap2, rfl, hcap2, _, _⟩ := own_slice hsub
      have p3 := hbk.cell
      have f3 := hbk.frozen
      have z3 := hbk.lt
      have HBn := Lib.hid (((Below.new wr _).later hb1).setCell (p := ⟨wr.heap.size, 3, none⟩) (Nat.le_refl _) (.slice A2 d.subs.length cap2))
      have HSub : Hid (SubO (w1.setCell ⟨wr.heap.size, 3, none⟩ (.slice A2 d.subs.length cap2)) (wr.heap.size + 1) (.slice A2 d.subs.length cap2) d.subs) := by
        have hs2 : SubO w1 (wr.heap.size + 1) (.slice A2 d.subs.length cap2) d.subs := by simpa using hsub
        refine World.ownsRow.kept hs2 (row := some wr.heap.size) (grown_set _ _ _ _) (.inr ?_)
        intro he
        have := (World.ownsRow.lt hs2 wr.heap.size he).1
        omega
      have HO2 := Lib.hid (HO.out.later HBn.out)
      have hB2' := (HB2.out.later HBn.out HB2.out.lt)
      have hB2w := HB2.out.later ((Below.new wr _).later hb1) HB2.out.lt
      have r2 := hB2w.cell
      have g2 := hB2w.frozen
      have HB2' := Lib.hid hB2'
      have HB1' := Lib.hid (HB1.out.later HBn.out HB1.out.lt)
      have HRow : Hid (∀ o, ((w1.setCell ⟨wr.heap.size, 3, none⟩ (.slice A2 d.subs.length cap2)).alloc o).ownsRow w.heap.size 37 4 v0 k (flat (held.take k) vs)) := fun o => by
        have hx := own_later HO2.out.row (Below.new _ o)
        rwa [HLK.out] at hx
      have hne3 : w.heap.size + 1 + 1 ≠ wr.heap.size := by omega
      have zz := hB2w.lt
      clear hb1 hbk hsub hB2' hB2w
      go_wp2_with (at_builtin; refine wpList_append_own _ rfl (.tmp 26) (.tmp 28) 24 rfl w.heap.size 37 i0 _ 4 56 Tryz.underlying24 hi hz0 hz1 hz2 rfl (by decide) _ k _ rfl (HRow.out _) ⟨_, 0, none⟩ 1 1 (cellsIt d (.slice A2 d.subs.length cap2)) rfl rfl ?c1 ?c2 ?c3 ?c4 ?c5 ?_)
      case c1 => exact cells_at _ #[.int .i64 d.a, .int .i64 d.b, .string d.name, .slice A2 d.subs.length cap2] _ _ (by simp)
      case c2 => simp [cellsIt, Value.oneCell']
      case c3 => unfold maxLen; omega
      case c4 => omega
      case c5 => simp; omega
      intro v1 w2 hown1 hg1 _
      obtain ⟨A5, cap5, rfl, hcap5, _, _⟩ := own_slice hown1
      have HN := Lib.hid (Below.new (w1.setCell ⟨wr.heap.size, 3, none⟩ (.slice A2 d.subs.length cap2)) (.cells #[.int .i64 d.a, .int .i64 d.b, .string d.name, .slice A2 d.subs.length cap2] 37))
      have hO3 : OwnIts w2 w.heap.size 37 (.slice A5 (k + 1) cap5) (held.take (k + 1)) (vs ++ [.slice A2 d.subs.length cap2]) := by
        rw [HTS.out]
        refine OwnIts.snoc (HO2.out.later HN.out) (own_later (own_base HSub.out (by omega)) HN.out) (HO.out.fresh HSub.out (by omega)) ?_ hg1 (by decide)
        rw [HLK.out]
        exact hown1
      have hBg2 := (HB2'.out.later HN.out HB2'.out.lt).grown hg1 (fun e => own_blk_ne (HRow.out (.cells #[.int .i64 d.a, .int .i64 d.b, .string d.name, .slice A2 d.subs.length cap2] 37)) (HB2'.out.later HN.out HB2'.out.lt) (by decide) e.symm)
      have hBg1 := (HB1'.out.later HN.out HB1'.out.lt).grown hg1 (fun e => own_blk_ne (HRow.out (.cells #[.int .i64 d.a, .int .i64 d.b, .string d.name, .slice A2 d.subs.length cap2] 37)) (HB1'.out.later HN.out HB1'.out.lt) (by decide) e.symm)
      have r5 := hBg2.cell
      have g5 := hBg2.frozen
      have z5 := hBg2.lt
      have HON : Hid (OwnIts (w2.setCell ⟨w.heap.size + 1 + 1, 0, none⟩ (.slice A5 (k + 1) cap5)) w.heap.size 37 (.slice A5 (k + 1) cap5) (held.take (k + 1)) (vs ++ [.slice A2 d.subs.length cap2])) :=
        hO3.grownOther hBg2 (by decide) (by decide) (grown_set _ _ _ _)
      have HBN2 := Lib.hid (hBg2.set_ 0 (.slice A5 (k + 1) cap5))
      have HBN1 := Lib.hid (hBg1.far (p := ⟨w.heap.size + 1 + 1, 0, none⟩) (by simp) (.slice A5 (k + 1) cap5))
      have HBNb : Hid (Below (w.heap.size + 1) (w.alloc (.cells #[.slice (some ⟨bb, o, none⟩) n c, .slice A' n' c'] 27)) (w2.setCell ⟨w.heap.size + 1 + 1, 0, none⟩ (.slice A5 (k + 1) cap5))) :=
        (((HB.out.trans (HBn.out.mono (by omega))).trans (HN.out.mono (by simp; omega))).grown hg1 (by simp; omega) (fun g hg => by
          have h1 := own_blk_ne (HRow.out (.cells #[.int .i64 d.a, .int .i64 d.b, .string d.name, .slice A2 d.subs.length cap2] 37)) (Blk.later (heap_alloc_new w _) ((HB.out.trans (HBn.out.mono (by omega))).trans (HN.out.mono (by simp; omega))) (by omega)) (by decide)
          have h2 := ((HRow.out (.cells #[] 0)).lt g hg).1
          rcases Nat.lt_or_ge w.heap.size g with h3 | h3
          · omega
          · exfalso
            apply h1
            rw [hg, show g = w.heap.size from by omega])).setCell (by first | omega | (simp; done) | (simp; omega)) _
      clear hown1 hg1 hO3 hBg2 hBg1 r2 g2 p3 f3
      go_wp2_with fail
      go_roundw
      case rel => exact ⟨k + 1, _, _, by omega, by go_num, HON.out, HBN2.out, HBN1.out, HBNb.out⟩
      case measure => simp [intOf]; omega
    · obtain rfl : k = n := by omega
      have HO1 : Hid (OwnIts wr w.heap.size 37 v0 held vs) := by
        have hx := HO.out
        rwa [List.take_of_length_le (by rw [Hlen.out]; omega)] at hx
      clear HO
      go_wp2_with fail
      go_loopw [6] (fun i wr => ∃ (j : Nat) (v1 : Value) (us : List Value), j ≤ n' ∧ i = .int .i64 j ∧ OwnIts wr w.heap.size 37 v0 held vs ∧ OwnIts wr w.heap.size 42 v1 (asks.take j) us ∧ Hid (∀ x ∈ vs, ∀ y ∈ us, apart x y) ∧ Blk wr (w.heap.size + 1 + 1) 27 #[v0, v1] ∧ Blk wr (w.heap.size + 1) 27 #[.slice none 0 0, .slice none 0 0] ∧ Below (w.heap.size + 1) (w.alloc (.cells #[.slice A k c, .slice A' n' c'] 27)) wr) (fun i _ => n' - (intOf i).toNat)
      case atStart =>
        exact ⟨0, .slice none 0 0, [], Nat.zero_le _, rfl, HO1.out, ⟨rfl, World.ownsRow_nil _ _ _ _, fun j hj => by simp at hj, List.Pairwise.nil⟩, fun x _ y hy => (by cases hy), HB2.out, HB1.out, HB.out⟩
      case round =>
        clear p0 hzz hw0 hlt
        obtain ⟨j, v1, us, hj, rfl, hO1, hO, hX, hB2, hB1, hb⟩ := hrel
        have p0 := (Blk.later (heap_alloc_new w _) hb (by omega)).cell
        have hzz := hB2.lt
        have hw0 : w.heap.size < wr.heap.size := by omega
        have HB := Lib.hid hb
        have HBw := Lib.hid ((Below.new _ _).trans (hb.mono (by omega)))
        have HO := Lib.hid hO
        have HOh := Lib.hid hO1
        have HB2 := Lib.hid hB2
        have HB1 := Lib.hid hB1
        clear hb hO hO1 hB2 hB1
        by_cases hlt : j < n'
        · obtain ⟨bb, o, rfl, hbB, hc'⟩ := (Ha.out.later HBw.out).2 (by omega)
          obtain ⟨c0, c1, c2, c3, k0, k1, k2, k3, hr⟩ := hc' j hlt
          clear hc'
          have hl1 : j < asks.length := by rw [Hlena.out]; exact hlt
          have HTS := Lib.hid (take_snoc_it asks j hl1)
          have hsm := Hsa.out.2 _ (getD_mem asks j hl1)
          have HLK : Hid ((asks.take j).length = j) := by unfold Hid; rw [List.length_take]; omega
          clear hl1
          generalize asks.getD j default = d at *
          obtain ⟨e0, e1, e2, A1, n1, cap1, e3, hs1, _⟩ := hr
          subst e0 e1 e2 e3
          have hn1 : n1 ≤ 1048576 := by rw [← hs1.1]; exact hsm.2.1
          have HK := Lib.hid (fun W (hW : Below wr.heap.size wr W) => l24Subs_own A1 n1 cap1 d.subs W (hs1.later hW) hn1)
          clear hs1 hsm
          go_wp2_with fail
          refine (HK.out _ (Below.new _ _)).mono ?_
          rintro e w1 ⟨v', rfl, hsub, hb1⟩
          have hbk := Blk.later (heap_alloc_new wr _) hb1 (by simp)
          obtain ⟨A2, cap2, rfl, hcap2, _, _⟩ := own_slice hsub
          have p3 := hbk.cell
          have f3 := hbk.frozen
          have z3 := hbk.lt
          have HBn := Lib.hid (((Below.new wr _).later hb1).setCell (p := ⟨wr.heap.size, 3, none⟩) (Nat.le_refl _) (.slice A2 d.subs.length cap2))
          have HSub : Hid (SubO (w1.setCell ⟨wr.heap.size, 3, none⟩ (.slice A2 d.subs.length cap2)) (wr.heap.size + 1) (.slice A2 d.subs.length cap2) d.subs) := by
            have hs2 : SubO w1 (wr.heap.size + 1) (.slice A2 d.subs.length cap2) d.subs := by simpa using hsub
            refine World.ownsRow.kept hs2 (row := some wr.heap.size) (grown_set _ _ _ _) (.inr ?_)
            intro he
            have := (World.ownsRow.lt hs2 wr.heap.size he).1
            omega
          have HO2 := Lib.hid (HO.out.later HBn.out)
          have hB2' := (HB2.out.later HBn.out HB2.out.lt)
          have hB2w := HB2.out.later ((Below.new wr _).later hb1) HB2.out.lt
          have r2 := hB2w.cell
          have g2 := hB2w.frozen
          have HB2' := Lib.hid hB2'
          have HB1' := Lib.hid (HB1.out.later HBn.out HB1.out.lt)
          have HRow : Hid (∀ o, ((w1.setCell ⟨wr.heap.size, 3, none⟩ (.slice A2 d.subs.length cap2)).alloc o).ownsRow w.heap.size 42 4 v1 j (flat (asks.take j) us)) := fun o => by
            have hx := own_later HO2.out.row (Below.new _ o)
            rwa [HLK.out] at hx
          have hne3 : w.heap.size + 1 + 1 ≠ wr.heap.size := by omega
          have zz := hB2w.lt
          clear hb1 hbk hsub hB2' hB2w
          go_wp2_with (at_builtin; refine wpList_append_own _ rfl (.tmp 48) (.tmp 50) 25 rfl w.heap.size 42 j0 _ 4 56 Tryz.underlying25 gi gz0 gz1 gz2 rfl (by decide) _ j _ rfl (HRow.out _) ⟨_, 0, none⟩ 1 1 (cellsIt d (.slice A2 d.subs.length cap2)) rfl rfl ?c1b ?c2b ?c3b ?c4b ?c5b ?_)
          case c1b => exact cells_at _ #[.int .i64 d.a, .int .i64 d.b, .string d.name, .slice A2 d.subs.length cap2] _ _ (by simp)
          case c2b => simp [cellsIt, Value.oneCell']
          case c3b => unfold maxLen; omega
          case c4b => omega
          case c5b => simp; omega
          intro v2 w2 hown1 hg1 _
          obtain ⟨A5, cap5, rfl, hcap5, _, _⟩ := own_slice hown1
          have HN := Lib.hid (Below.new (w1.setCell ⟨wr.heap.size, 3, none⟩ (.slice A2 d.subs.length cap2)) (.cells #[.int .i64 d.a, .int .i64 d.b, .string d.name, .slice A2 d.subs.length cap2] 42))
          have hO3 : OwnIts w2 w.heap.size 42 (.slice A5 (j + 1) cap5) (asks.take (j + 1)) (us ++ [.slice A2 d.subs.length cap2]) := by
            rw [HTS.out]
            refine OwnIts.snoc (HO2.out.later HN.out) (own_later (own_base HSub.out (by omega)) HN.out) (HO.out.fresh HSub.out (by omega)) ?_ hg1 (by decide)
            rw [HLK.out]
            exact hown1
          have hBg2 := (HB2'.out.later HN.out HB2'.out.lt).grown hg1 (fun e => own_blk_ne (HRow.out (.cells #[.int .i64 d.a, .int .i64 d.b, .string d.name, .slice A2 d.subs.length cap2] 42)) (HB2'.out.later HN.out HB2'.out.lt) (by decide) e.symm)
          have hBg1 := (HB1'.out.later HN.out HB1'.out.lt).grown hg1 (fun e => own_blk_ne (HRow.out (.cells #[.int .i64 d.a, .int .i64 d.b, .string d.name, .slice A2 d.subs.length cap2] 42)) (HB1'.out.later HN.out HB1'.out.lt) (by decide) e.symm)
          have r5 := hBg2.cell
          have g5 := hBg2.frozen
          have z5 := hBg2.lt
          have HON : Hid (OwnIts (w2.setCell ⟨w.heap.size + 1 + 1, 1, none⟩ (.slice A5 (j + 1) cap5)) w.heap.size 42 (.slice A5 (j + 1) cap5) (asks.take (j + 1)) (us ++ [.slice A2 d.subs.length cap2])) :=
            hO3.grownOther hBg2 (by decide) (by decide) (grown_set _ _ _ _)
          have HOhN : Hid (OwnIts (w2.setCell ⟨w.heap.size + 1 + 1, 1, none⟩ (.slice A5 (j + 1) cap5)) w.heap.size 37 v0 held vs) :=
            (((HOh.out.later HBn.out).later HN.out).keptRow (HRow.out _) (by decide) (by decide) hg1).grownOther hBg2 (by decide) (by decide) (grown_set _ _ _ _)
          have HXN : Hid (∀ x ∈ vs, ∀ y ∈ us ++ [.slice A2 d.subs.length cap2], apart x y) := fun x hx y hy => by
            rcases List.mem_append.1 hy with hy | hy
            · exact hX.out x hx y hy
            · rw [List.mem_singleton.1 hy]
              exact HOh.out.fresh HSub.out (by omega) x hx
          have HBN2 := Lib.hid (hBg2.set_ 1 (.slice A5 (j + 1) cap5))
          have HBN1 := Lib.hid (hBg1.far (p := ⟨w.heap.size + 1 + 1, 1, none⟩) (by simp) (.slice A5 (j + 1) cap5))
          have HBNb : Hid (Below (w.heap.size + 1) (w.alloc (.cells #[.slice A k c, .slice (some ⟨bb, o, none⟩) n' c'] 27)) (w2.setCell ⟨w.heap.size + 1 + 1, 1, none⟩ (.slice A5 (j + 1) cap5))) :=
            (((HB.out.trans (HBn.out.mono (by omega))).trans (HN.out.mono (by simp; omega))).grown hg1 (by simp; omega) (fun g hg => by
              have h1 := own_blk_ne (HRow.out (.cells #[.int .i64 d.a, .int .i64 d.b, .string d.name, .slice A2 d.subs.length cap2] 42)) (Blk.later (heap_alloc_new w _) ((HB.out.trans (HBn.out.mono (by omega))).trans (HN.out.mono (by simp; omega))) (by omega)) (by decide)
              have h2 := ((HRow.out (.cells #[] 0)).lt g hg).1
              rcases Nat.lt_or_ge w.heap.size g with h3 | h3
              · omega
              · exfalso
                apply h1
                rw [hg, show g = w.heap.size from by omega])).setCell (by first | omega | (simp; done) | (simp; omega)) _
          clear hown1 hg1 hO3 hBg2 hBg1 r2 g2 p3 f3
          go_wp2_with fail
          go_roundw
          case rel => exact ⟨j + 1, _, _, by omega, by go_num, HOhN.out, HON.out, HXN.out, HBN2.out, HBN1.out, HBNb.out⟩
          case measure => simp [intOf]; omega
        · obtain rfl : j = n' := by omega
          have HOa : Hid (OwnIts wr w.heap.size 42 v1 asks us) := by
            have hx := HO.out
            rwa [List.take_of_length_le (by rw [Hlena.out]; omega)] at hx
          obtain ⟨A7, cap7, e7, _⟩ := own_slice HOh.out.row
          obtain ⟨A8, cap8, e8, _⟩ := own_slice HOa.out.row
          subst e7 e8
          have r2 := HB2.out.cell
          have r1 := HB1.out.cell
          have g1 := HB1.out.frozen
          have HHn : Hid (OwnIts ((wr.setCell ⟨w.heap.size + 1, 0, none⟩ (.slice A7 held.length cap7)).setCell ⟨w.heap.size + 1, 1, none⟩ (.slice A8 asks.length cap8)) w.heap.size 37 (.slice A7 held.length cap7) held vs) :=
            (HOh.out.grownOther HB1.out (by decide) (by decide) (grown_set _ _ _ _)).grownOther (HB1.out.set_ 0 _) (by decide) (by decide) (grown_set _ _ _ _)
          have HAn : Hid (OwnIts ((wr.setCell ⟨w.heap.size + 1, 0, none⟩ (.slice A7 held.length cap7)).setCell ⟨w.heap.size + 1, 1, none⟩ (.slice A8 asks.length cap8)) w.heap.size 42 (.slice A8 asks.length cap8) asks us) :=
            (HOa.out.grownOther HB1.out (by decide) (by decide) (grown_set _ _ _ _)).grownOther (HB1.out.set_ 0 _) (by decide) (by decide) (grown_set _ _ _ _)
          have HBr := Lib.hid (((HBw.out.setCell (p := ⟨w.heap.size + 1, 0, none⟩) (by simp) (.slice A7 held.length cap7)).setCell (p := ⟨w.heap.size + 1, 1, none⟩) (by simp) (.slice A8 asks.length cap8)))
          go_wp2_with fail
          refine bodyPost_ret (v := .agg #[.slice A7 held.length cap7, .slice A8 asks.length cap8]) (by simp [results, Tryz.results50, go_sem, r1]) rfl ?_
          exact ⟨_, _, vs, us, rfl, HHn.out, HAn.out, hX.out, HBr.out⟩
end Go.Proofs.YtiebcdajoddkpaaGreatDoor

