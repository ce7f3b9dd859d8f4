/-
  Locks of the program: what copyLocks makes.
-/
import Derived.Test.YtiebcdajoddkpaaGreatDoorLkI4
namespace Go.Proofs.YtiebcdajoddkpaaGreatDoor
open Go.RowKit

theorem Blk.ne_ {w : World} {g g' : Nat} {t t' : TypeId} {cs cs' : Array Value} (h : Blk w g t cs) (h' : Blk w g' t' cs') (hne : t ≠ t') : g ≠ g' := by
  rintro rfl
  unfold Blk at h h'
  rw [h] at h'
  injection h' with h'
  injection h' with _ ht
  exact hne ht
theorem own_blk_ne {w : World} {base e size n g t : Nat} {v : Value} {xs : List Value} {cs : Array Value} (h : w.ownsRow base e size v n xs) (hg : Blk w g t cs) (hne : e ≠ t) : v.ownBlock ≠ some g := by
  rcases h.2 with ⟨rfl, _⟩ | ⟨g', cap, cur, rfl, _, hh, _⟩
  · simp [Value.ownBlock]
  · intro he
    have : g' = g := by simpa [Value.ownBlock] using he
    subst this
    exact Blk.ne_ (t := e) hh hg hne rfl
theorem grown_set (w : World) (g i : Nat) (u : Value) : w.grownBy (w.setCell ⟨g, i, none⟩ u) (some g) :=
  ⟨rfl, rfl, rfl, by simp, fun k _ hk => Below.heap_setCell _ _ _ _ (by rintro rfl; exact hk rfl)⟩
theorem OwnIts.grownOther {w w' : World} {base t : Nat} {v : Value} {fs : List ItD} {vs : List Value} {g tp : Nat} {cs : Array Value} (h : OwnIts w base t v fs vs) (hB : Blk w g tp cs) (h1 : t ≠ tp) (h2 : 9 ≠ tp) (hg : w.grownBy w' (some g)) : OwnIts w' base t v fs vs :=
  ⟨h.len, h.row.kept hg (.inr (own_blk_ne h.row hB h1)), fun j hj => World.ownsRow.kept (h.subs j hj) hg (.inr (own_blk_ne (h.subs j hj) hB h2)), h.aprt⟩
theorem OwnIts.keptRow {w w' : World} {base t base' t' size' n' : Nat} {v v' : Value} {fs : List ItD} {vs xs' : List Value} (h : OwnIts w base t v fs vs) (hr : w.ownsRow base' t' size' v' n' xs') (h1 : t ≠ t') (h2 : 9 ≠ t') (hg : w.grownBy w' v'.ownBlock) : OwnIts w' base t v fs vs :=
  ⟨h.len, kept_apart h.row hg (apart_types h.row hr h1), fun j hj => kept_apart (h.subs j hj) hg (apart_types (h.subs j hj) hr h2), h.aprt⟩
theorem OwnIts.base {w : World} {base base' t : Nat} {v : Value} {fs : List ItD} {vs : List Value} (h : OwnIts w base' t v fs vs) (hb : base ≤ base') : OwnIts w base t v fs vs :=
  ⟨h.len, own_base h.row hb, fun j hj => own_base (h.subs j hj) hb, h.aprt⟩

/-- Locks of the call's own, behind the pointer p; vs, us: the subscripts' slices. -/
structure LkO (w : World) (base p : Nat) (v0 v1 : Value) (held asks : List ItD) (vs us : List Value) : Prop where
  blk : Blk w p 27 #[v0, v1]
  above : base ≤ p
  h : OwnIts w base 37 v0 held vs
  a : OwnIts w base 42 v1 asks us
  cross : ∀ x ∈ vs, ∀ y ∈ us, apart x y
theorem LkO.later {w w' : World} {base p : Nat} {v0 v1 : Value} {held asks : List ItD} {vs us : List Value} (h : LkO w base p v0 v1 held asks vs us) (hb : Below w.heap.size w w') : LkO w' base p v0 v1 held asks vs us :=
  ⟨h.blk.later hb h.blk.lt, h.above, h.h.later hb, h.a.later hb, h.cross⟩
def CopyPost (held asks : List ItD) (w : World) (e : Ending) (w' : World) : Prop := ∃ p v0 v1 vs us, e = .returned (.pointer (some ⟨p, 0, none⟩)) ∧ LkO w' w.heap.size p v0 v1 held asks vs us ∧ Below w.heap.size w w'

set_option maxRecDepth 100000 in
set_option maxHeartbeats 2000000 in
theorem copyLocks_any (A A' : Option Addr) (n c n' c' : Nat) (held asks : List ItD) (w : World) (h : Its w w.heap.size A n held) (ha : Its w w.heap.size A' n' asks) (hs : smalls held) (hsa : smalls asks) :
    Calls Tryz.prog 39 #[.agg #[.slice A n c, .slice A' n' c']] w (CopyPost held asks w) := by
  obtain ⟨i0, hi, hz0, hz1, hz2⟩ := info_parts infoAsk
  have HKC := Lib.hid (fun o => copyHeld_any A n c held (w.alloc o) (h.alloc o) hs)
  have Ha := Lib.hid ha
  have Hlen := Lib.hid ha.1
  have hn' : n' ≤ 1048576 := by rw [← ha.1]; exact hsa.1
  have Hs := Lib.hid hsa
  clear h ha hs hsa
  go_enter Tryz.func39, Tryz.ntmps39
  go_wp2_with fail
  refine (HKC.out _).mono ?_
  rintro e w1 ⟨v0, vs, rfl, hO0, hb1⟩
  have p0 := (Blk.later (heap_alloc_new w _) hb1 (by simp)).cell
  obtain ⟨A0, cap0, rfl, hcap0, _, _⟩ := own_slice hO0.row
  have hz : w.heap.size < w1.heap.size := by have := hb1.size; simp at this; omega
  have HO0 := Lib.hid (hO0.base (base := w.heap.size) (by simp))
  have HB1 := Lib.hid ((Below.new w _).later hb1)
  clear hO0 hb1
  go_wp2_with fail
  go_loopw [14] (fun i wr => ∃ (k : Nat) (v1 : Value) (us : List Value), k ≤ n' ∧ i = .int .i64 k ∧ LkO wr w.heap.size w1.heap.size (.slice A0 held.length cap0) v1 held (asks.take k) vs us ∧ Below w.heap.size w wr) (fun i _ => n' - (intOf i).toNat)
  case atStart =>
    refine ⟨0, .slice none 0 0, [], Nat.zero_le _, rfl, ⟨heap_alloc_new _ _, by omega, HO0.out.later (Below.new _ _), ⟨rfl, World.ownsRow_nil _ _ _ _, fun j hj => by simp at hj, List.Pairwise.nil⟩, fun x _ y hy => by cases hy⟩, HB1.out.later (Below.new _ _)⟩
  case round =>
    obtain ⟨k, v1, us, hk, rfl, hL, hb⟩ := hrel
    have HB := Lib.hid hb
    have HL := Lib.hid hL
    clear hb hL p0
    by_cases hlt : k < n'
    · obtain ⟨bb, o, rfl, hbB, hc'⟩ := (Ha.out.later HB.out).2 (by omega)
      obtain ⟨c0, c1, c2, c3, k0, k1, k2, k3, hr⟩ := hc' k hlt
      clear hc'
      have hl1 : k < asks.length := by rw [Hlen.out]; exact hlt
      have HTS := Lib.hid (take_snoc_it asks k hl1)
      have hsm := Hs.out.2 _ (getD_mem asks k hl1)
      have HLK : Hid ((asks.take k).length = k) := by unfold Hid; rw [List.length_take]; omega
      clear hl1
      generalize asks.getD k default = d at *
      obtain ⟨e0, e1, e2, A1, n1, cap1, e3, hs1, _⟩ := hr
      subst e0 e1 e2 e3
      have hn1 : n1 ≤ 1048576 := by rw [← hs1.1]; exact hsm.2.1
      have HK := Lib.hid (fun W (hW : Below wr.heap.size wr W) => CloneS_any A1 n1 cap1 d.subs W (hs1.later hW) hn1)
      clear hs1 hsm
      go_wp2_with fail
      refine (HK.out _ (Below.new _ _)).mono ?_
      rintro e w2 ⟨v', rfl, hsub, hb2⟩
      have hbk := Blk.later (heap_alloc_new wr _) hb2 (by simp)
      obtain ⟨A2, cap2, rfl, hcap2, _, _⟩ := own_slice hsub
      have p3 := hbk.cell
      have f3 := hbk.frozen
      have z3 := hbk.lt
      have HB2 := Lib.hid (((Below.new wr _).later hb2).setCell (p := ⟨wr.heap.size, 3, none⟩) (Nat.le_refl _) (.slice A2 d.subs.length cap2))
      have hsub2 : SubO (w2.setCell ⟨wr.heap.size, 3, none⟩ (.slice A2 d.subs.length cap2)) (wr.heap.size + 1) (.slice A2 d.subs.length cap2) d.subs := by
        have hs2 : SubO w2 (wr.heap.size + 1) (.slice A2 d.subs.length cap2) d.subs := by simpa using hsub
        refine World.ownsRow.kept hs2 (row := some wr.heap.size) (grown_set _ _ _ _) (.inr ?_)
        intro he
        have := (World.ownsRow.lt hs2 wr.heap.size he).1
        omega
      have HSub := Lib.hid hsub2
      have hbk2 := hbk.set_ 3 (.slice A2 d.subs.length cap2)
      have HL2 := Lib.hid (HL.out.later HB2.out)
      have HBs := Lib.hid (HB.out.later HB2.out)
      clear hb2 hbk hsub hsub2
      go_wp2_with fail
      generalize hV : w2.setCell ⟨wr.heap.size, 3, none⟩ (.slice A2 d.subs.length cap2) = V at *
      clear hV p3 f3 z3
      have q0 := hbk2.cell 0
      have q1 := hbk2.cell 1
      have q2 := hbk2.cell 2
      have q3 := hbk2.cell 3
      have r1 := HL2.out.blk.cell 1
      have zV := HL2.out.blk.lt
      have zW := hbk2.lt
      simp at q0 q1 q2 q3 r1
      clear hbk2
      have HV : Hid (∀ o, (V.alloc o).ownsRow w.heap.size 42 4 v1 k (flat (asks.take k) us)) := fun o => by
        have hx := own_later HL2.out.a.row (Below.new _ o)
        rwa [HLK.out] at hx
      have hsz := HBs.out.size
      go_region_law (first
        | (refine step_append_lies _ (by rfl) _ _ _ (by rfl) w.heap.size 42 i0 _ 4 56 Tryz.underlying25 hi hz0 hz1 hz2 rfl (by omega) v1 k (flat (asks.take k) us) (by rfl) (by exact HV.out _)
            ⟨V.heap.size, 0, none⟩ 1 1 (cellsIt d (.slice A2 d.subs.length cap2)) (by rfl) (by rfl) (by exact cells_new V #[.int .i64 d.a, .int .i64 d.b, .string d.name, .slice A2 d.subs.length cap2] _) (by simp [cellsIt, Value.oneCell'])
            (by omega) (by unfold maxLen; omega) (by omega) (by simp; omega) (V.heap.size + 1) (by simp) ?_
           intro gg cap w3 hown3 hgrow hat hlt2
           have hgrow' : (V.alloc (.cells #[.int .i64 d.a, .int .i64 d.b, .string d.name, .slice A2 d.subs.length cap2] 42)).grownBy w3 v1.ownBlock := ⟨hgrow.os, hgrow.tape, hgrow.output, hgrow.size, hgrow.block⟩
           have hbg := (HL2.out.blk.alloc (.cells #[.int .i64 d.a, .int .i64 d.b, .string d.name, .slice A2 d.subs.length cap2] 42)).grown hgrow' (fun e => own_blk_ne (HV.out (.cells #[.int .i64 d.a, .int .i64 d.b, .string d.name, .slice A2 d.subs.length cap2] 42)) (HL2.out.blk.alloc _) (by decide) e.symm)
           have p5 := hbg.cell
           have f5 := hbg.frozen
           have z5 := hbg.lt
           have HBG := Lib.hid hbg
           have HOW := Lib.hid hown3
           have HGR := Lib.hid hgrow'
           clear hbg hown3 hgrow hgrow'))
      all_goals
        have HN := Lib.hid (Below.new V (.cells #[.int .i64 d.a, .int .i64 d.b, .string d.name, .slice A2 d.subs.length cap2] 42))
        have HRow := Lib.hid (HV.out (.cells #[.int .i64 d.a, .int .i64 d.b, .string d.name, .slice A2 d.subs.length cap2] 42))
        have HLN : Hid (LkO (w3.setCell ⟨w1.heap.size, 1, none⟩ (.slice (some ⟨gg, 0, none⟩) (k + 1) cap)) w.heap.size w1.heap.size (.slice A0 held.length cap0) (.slice (some ⟨gg, 0, none⟩) (k + 1) cap) held (asks.take (k + 1)) vs (us ++ [.slice A2 d.subs.length cap2])) := by
          refine ⟨HBG.out.set_ 1 _, HL.out.above, ?_, ?_, ?_⟩
          · exact ((HL2.out.h.later HN.out).keptRow HRow.out (by decide) (by decide) HGR.out).grownOther HBG.out (by decide) (by decide) (grown_set _ _ _ _)
          · refine OwnIts.grownOther ?_ HBG.out (by decide) (by decide) (grown_set _ _ _ _)
            rw [HTS.out]
            refine OwnIts.snoc (HL2.out.a.later HN.out) (own_later (own_base HSub.out (by have := HB.out.size; omega)) HN.out) (HL.out.a.fresh HSub.out (by omega)) ?_ HGR.out (by decide)
            rw [HLK.out]
            exact HOW.out
          · intro x hx y hy
            rcases List.mem_append.1 hy with hy | hy
            · exact HL.out.cross x hx y hy
            · rw [List.mem_singleton.1 hy]
              exact HL.out.h.fresh HSub.out (by omega) x hx
        have HBN : Hid (Below w.heap.size w (w3.setCell ⟨w1.heap.size, 1, none⟩ (.slice (some ⟨gg, 0, none⟩) (k + 1) cap))) :=
          ((HBs.out.later HN.out).grown HGR.out (by simp; omega) (fun g hg => (HRow.out.lt g hg).1)).setCell (by simp; omega) _
        clear p5 f5 z5 q0 q1 q2 q3 r1 zV zW
        go_wp2_with fail
        go_roundw
        case rel => exact ⟨k + 1, _, _, by omega, by go_num, HLN.out, HBN.out⟩
        case measure => simp [intOf]; omega
    · obtain rfl : k = n' := by omega
      have HL3 : Hid (LkO wr w.heap.size w1.heap.size (.slice A0 held.length cap0) v1 held asks vs us) := by
        have hx := HL.out
        rwa [List.take_of_length_le (by rw [Hlen.out]; omega)] at hx
      go_wp2_with fail
      go_ret
      exact ⟨_, _, _, vs, us, rfl, HL3.out, HB.out⟩
end Go.Proofs.YtiebcdajoddkpaaGreatDoor
