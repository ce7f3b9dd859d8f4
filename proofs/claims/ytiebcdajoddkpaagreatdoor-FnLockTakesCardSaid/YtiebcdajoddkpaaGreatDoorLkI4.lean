/-
  Locks of the program: what copyHeld and copyLocks make.
-/
import Derived.Test.YtiebcdajoddkpaaGreatDoorLkO
import Derived.Test.YtiebcdajoddkpaaGreatDoorLkI3
import Derived.Deep.RegionLaw
namespace Go.Proofs.YtiebcdajoddkpaaGreatDoor
open Go.RowKit

theorem cells_new (w : World) (cs : Array Value) (t : TypeId) : ∀ j u, cs.toList[j]? = some u → (w.alloc (.cells cs t)).cell? ((⟨w.heap.size, 0, none⟩ : Addr).add j) = some u := by
  intro j u hu
  have h := cell_of_row _ w.heap.size j cs t (0, 0) (heap_alloc_new w (.cells cs t))
  have hu' : cs[j]? = some u := by rw [← Array.getElem?_toList]; exact hu
  unfold Addr.add
  split
  · rename_i h0; subst h0; rw [h, hu']
  · rw [show (⟨w.heap.size, 0 + j, none⟩ : Addr) = ⟨w.heap.size, j, none⟩ from by simp, h, hu']
theorem cells_at (w : World) (cs : Array Value) (t : TypeId) (g : Nat) (hg : w.heap.size = g) : ∀ j u, cs.toList[j]? = some u → (w.alloc (.cells cs t)).cell? ((⟨g, 0, none⟩ : Addr).add j) = some u := by
  subst hg
  exact cells_new w cs t
theorem infoLock : (Tryz.prog.info? 37).map (fun i => (i.zero, i.size, i.bytes)) = some (some (.agg #[.int .i64 0, .int .i64 0, .string .empty, .slice none 0 0]), 4, 56) := by kernel_rfl
theorem infoAsk : (Tryz.prog.info? 42).map (fun i => (i.zero, i.size, i.bytes)) = some (some (.agg #[.int .i64 0, .int .i64 0, .string .empty, .slice none 0 0]), 4, 56) := by kernel_rfl

theorem OwnIts.snoc {w w' : World} {base t : Nat} {v v1 v' : Value} {fs : List ItD} {vs : List Value} {d : ItD} (h : OwnIts w base t v fs vs) (hsub : SubO w base v' d.subs) (hap : ∀ u ∈ vs, apart u v')
    (hrow : w'.ownsRow base t 4 v1 (fs.length + 1) (flat fs vs ++ cellsIt d v')) (hg : w.grownBy w' v.ownBlock) (ht : 9 ≠ t) : OwnIts w' base t v1 (fs ++ [d]) (vs ++ [v']) := by
  refine ⟨by simp [h.len], ?_, fun j hj => ?_, ?_⟩
  · rw [List.length_append, flat_append _ _ _ _ h.len]
    simpa [flat] using hrow
  · simp only [List.length_append, List.length_cons, List.length_nil] at hj
    by_cases hlt : j < fs.length
    · have hs := h.subs j hlt
      have e1 : (fs ++ [d]).getD j default = fs.getD j default := by simp [List.getD_eq_getElem?_getD, List.getElem?_append_left hlt]
      have e2 : (vs ++ [v']).getD j (.slice none 0 0) = vs.getD j (.slice none 0 0) := by simp [List.getD_eq_getElem?_getD, List.getElem?_append_left (show j < vs.length by rw [h.len]; exact hlt)]
      rw [e1, e2]
      exact kept_apart hs hg (apart_types hs h.row ht)
    · have hj' : j = fs.length := by omega
      subst hj'
      have e1 : (fs ++ [d]).getD fs.length default = d := by simp [List.getD_eq_getElem?_getD]
      have e2 : (vs ++ [v']).getD fs.length (.slice none 0 0) = v' := by rw [← h.len]; simp [List.getD_eq_getElem?_getD]
      rw [e1, e2]
      exact kept_apart hsub hg (apart_types hsub h.row ht)
  · rw [List.pairwise_append]
    exact ⟨h.aprt, List.pairwise_singleton _ _, fun a ha b hb => by rw [List.mem_singleton.1 hb]; exact hap a ha⟩
theorem mem_getD {vs : List Value} {u : Value} (h : u ∈ vs) : ∃ j, j < vs.length ∧ vs.getD j (.slice none 0 0) = u := by
  obtain ⟨j, hj, rfl⟩ := List.getElem_of_mem h
  exact ⟨j, hj, by simp [List.getD_eq_getElem?_getD, hj]⟩
theorem OwnIts.fresh {w w' : World} {base base' t : Nat} {v v' : Value} {fs : List ItD} {vs : List Value} {ss : List ByteArray} (h : OwnIts w base t v fs vs) (hs : SubO w' base' v' ss) (hb : w.heap.size ≤ base') : ∀ u ∈ vs, apart u v' := by
  intro u hu
  obtain ⟨j, hj, rfl⟩ := mem_getD hu
  exact apart_new (h.subs j (by rw [← h.len]; exact hj)) hs hb
theorem take_snoc_it (fs : List ItD) (k : Nat) (h : k < fs.length) : fs.take (k + 1) = fs.take k ++ [fs.getD k default] := by
  rw [List.take_succ_eq_append_getElem h, List.getD_eq_getElem?_getD, List.getElem?_eq_getElem h]; rfl

def OwnPost (base : Nat) (t : TypeId) (fs : List ItD) (w : World) (e : Ending) (w' : World) : Prop := ∃ v vs, e = .returned v ∧ OwnIts w' base t v fs vs ∧ Below w.heap.size w w'

set_option maxRecDepth 100000 in
set_option maxHeartbeats 1000000 in
theorem copyHeld_any (A : Option Addr) (n c : Nat) (held : List ItD) (w : World) (h : Its w w.heap.size A n held) (hs : smalls held) :
    Calls Tryz.prog 80 #[.slice A n c] w (OwnPost w.heap.size 37 held w) := by
  obtain ⟨i0, hi, hz0, hz1, hz2⟩ := info_parts infoLock
  have Hh := Lib.hid h
  have Hlen := Lib.hid h.1
  have hn : n ≤ 1048576 := by rw [← h.1]; exact hs.1
  have Hs := Lib.hid hs
  clear h hs
  go_enter Tryz.func80, Tryz.ntmps80
  go_wp2_with fail
  go_loopw [3, 9] (fun v i wr => ∃ (k : Nat) (vs : List Value), k ≤ n ∧ i = .int .i64 k ∧ OwnIts wr w.heap.size 37 v (held.take k) vs ∧ Below w.heap.size w wr) (fun _ i _ => n - (intOf i).toNat)
  case atStart => exact ⟨0, [], Nat.zero_le _, rfl, ⟨rfl, World.ownsRow_lit _ _ 0 (Nat.le_refl _) (by omega) rfl, fun j hj => by simp at hj, List.Pairwise.nil⟩, Below.new _ _⟩
  case round =>
    obtain ⟨k, vs, hk, rfl, hown, hb⟩ := hrel
    have HB := Lib.hid hb
    have HO := Lib.hid hown
    clear hb hown
    by_cases hlt : k < n
    · obtain ⟨bb, o, rfl, hbB, hc'⟩ := (Hh.out.later HB.out).2 (by omega)
      obtain ⟨c0, c1, c2, c3, k0, k1, k2, k3, hr⟩ := hc' k hlt
      clear hc'
      have hl1 : k < held.length := by rw [Hlen.out]; exact hlt
      have HTS := Lib.hid (take_snoc_it held k hl1)
      have hsm := Hs.out.2 _ (getD_mem held k hl1)
      have hlk : (held.take k).length = k := by rw [List.length_take]; omega
      clear hl1
      generalize held.getD k default = d at *
      obtain ⟨e0, e1, e2, A1, n1, cap1, e3, hs1, _⟩ := hr
      subst e0 e1 e2 e3
      have hn1 : n1 ≤ 1048576 := by rw [← hs1.1]; exact hsm.2.1
      have HK := Lib.hid (fun W (hW : Below wr.heap.size wr W) => CloneS_any A1 n1 cap1 d.subs W (hs1.later hW) hn1)
      clear hs1 hsm
      go_wp2_with fail
      refine (HK.out _ (Below.new _ _)).mono ?_
      rintro e w1 ⟨v', rfl, hsub, hb1⟩
      have hbk := Blk.later (heap_alloc_new wr _) hb1 (by simp)
      obtain ⟨A', cap', rfl, hcap', _, _⟩ := own_slice hsub
      have p0 := hbk.cell
      have f0 := hbk.frozen
      have zlt := hbk.lt
      have HB1 := Lib.hid (((Below.new wr _).later hb1).setCell (p := ⟨wr.heap.size, 3, none⟩) (Nat.le_refl _) (.slice A' d.subs.length cap'))
      have hsub2 : SubO (w1.setCell ⟨wr.heap.size, 3, none⟩ (.slice A' d.subs.length cap')) (wr.heap.size + 1) (.slice A' d.subs.length cap') d.subs := by
        have hs2 : SubO w1 (wr.heap.size + 1) (.slice A' d.subs.length cap') d.subs := by simpa using hsub
        refine World.ownsRow.kept hs2 (row := some wr.heap.size) ⟨rfl, rfl, rfl, by simp, fun i _ hi => Below.heap_setCell _ _ _ _ (by rintro rfl; exact hi rfl)⟩ ?_
        refine .inr ?_
        intro he
        have := (World.ownsRow.lt hs2 wr.heap.size he).1
        omega
      have HSub := Lib.hid hsub2
      clear hb1 hbk hsub hsub2
      have HO2 := Lib.hid (HO.out.later HB1.out)
      have HRow : Hid (∀ o, ((w1.setCell ⟨wr.heap.size, 3, none⟩ (.slice A' d.subs.length cap')).alloc o).ownsRow w.heap.size 37 4 u3 k (flat (held.take k) vs)) := fun o => by
        have hx := own_later HO2.out.row (Below.new _ o)
        rwa [hlk] at hx
      have HLK := Lib.hid hlk
      clear hlk
      go_wp2_with (at_builtin; refine wpList_append_own _ rfl (.tmp 17) (.tmp 19) 24 rfl w.heap.size 37 i0 _ 4 56 Tryz.underlying24 hi hz0 hz1 hz2 rfl (by decide) _ k _ rfl (HRow.out _) ⟨_, 0, none⟩ 1 1 (cellsIt d (.slice A' d.subs.length cap')) rfl rfl ?c1 ?c2 ?c3 ?c4 ?c5 ?_)
      case c1 => exact cells_at _ #[.int .i64 d.a, .int .i64 d.b, .string d.name, .slice A' d.subs.length cap'] _ _ (by simp)
      case c2 => simp [cellsIt, Value.oneCell']
      case c3 => unfold maxLen; omega
      case c4 => omega
      case c5 => have := HB.out.size; have := HB1.out.size; simp at this ⊢; omega
      intro v1 w2 hown1 hg1 _
      have HO3 : Hid (OwnIts w2 w.heap.size 37 v1 (held.take (k + 1)) (vs ++ [.slice A' d.subs.length cap'])) := by
        unfold Hid
        rw [HTS.out]
        refine OwnIts.snoc (HO2.out.later (Below.new _ _)) (own_later (own_base HSub.out (by have := HB.out.size; omega)) (Below.new _ _)) (HO.out.fresh HSub.out (by omega)) ?_ hg1 (by decide)
        rw [HLK.out]
        exact hown1
      have HB3 := Lib.hid (((HB.out.later HB1.out).later (Below.new _ _)).grown hg1 (by have := HB.out.size; have := HB1.out.size; simp at this ⊢; omega) (fun g hg' => ((HRow.out (.cells #[] 0)).lt g hg').1))
      clear hown1 hg1
      go_wp2_with fail
      go_roundw
      case rel => exact ⟨k + 1, _, by omega, by go_num, HO3.out, HB3.out⟩
      case measure => simp [intOf]; omega
    · obtain rfl : k = n := by omega
      have HO3 : Hid (OwnIts wr w.heap.size 37 u3 held vs) := by
        have hx := HO.out
        rwa [List.take_of_length_le (by rw [Hlen.out]; omega)] at hx
      go_wp2_with fail
      go_ret
      exact ⟨_, vs, rfl, HO3.out, HB.out⟩
end Go.Proofs.YtiebcdajoddkpaaGreatDoor
