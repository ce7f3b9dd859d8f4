/-
  What NewScreen of the reference computes.
-/
import Derived.Test.YtjcpocedhaojpaaMark
import Derived.Test.YtjcpocedhaojpaaBlanks
import Derived.Deep.AppendLies
import Derived.Deep.RegionLaw
import Derived.Laws.CopyOwn
import Derived.Test.YtjcpocedhaojpaaShelf2
namespace Go.Proofs.Ytjcpocedhaojpaa
open Go.RowKit

def blank20 : ByteArray := ⟨(blanks 20).toArray⟩

theorem rep_get {α : Type} (n j : Nat) (x : α) (h : j < n) : (List.replicate n x)[j]? = some x := by rw [List.getElem?_replicate, if_pos h]
theorem rep_getD {α : Type} (n j : Nat) (x d : α) (h : j < n) : (List.replicate n x).getD j d = x := by rw [List.getD_eq_getElem?_getD, rep_get n j x h]; rfl
theorem ownsRow_later {w w' : World} {base : Nat} {e : TypeId} {size : Nat} {v : Value} {n : Nat} {xs : List Value} (h : w.ownsRow base e size v n xs) (hb : Below w.heap.size w w') : w'.ownsRow base e size v n xs :=
  h.kept (grown_of_below hb none) (by cases v.ownBlock <;> simp)

set_option maxHeartbeats 1000000 in
theorem specNewScreen_any (w : World) :
    Calls Try.prog 19 #[] w fun e w' => ∃ g cap, e = .returned (.agg #[.int .i64 0, .int .i64 0, .slice (some ⟨g, 0, none⟩) 6 cap]) ∧ OwnA w' (some ⟨g, 0, none⟩) 6 g (List.replicate 6 blank20) ∧ w.heap.size ≤ g ∧ Below w.heap.size w w' := by
  obtain ⟨i0, hi, hz0, hz1, hz2⟩ := info_parts infoS
  have HK : Hid (∀ W, Calls Try.prog 31 #[.int .i64 20] W fun e w' => e = .returned (.string blank20) ∧ Below W.heap.size W w') := fun W => l31Blanks_any 20 W (by omega)
  generalize blank20 = bl at *
  go_enter Try.func19, Try.ntmps19
  go_wp2_with fail
  go_loopw [2] (fun i wr => ∃ (k : Nat) (v : Value), k ≤ 6 ∧ i = .int .i64 k ∧ Blk wr w.heap.size 27 #[.int .i64 0, .int .i64 0, .slice none 0 0] ∧ Blk wr (w.heap.size + 1) 27 #[.int .i64 0, .int .i64 0, v] ∧ wr.ownsRow (w.heap.size + 1 + 1) 9 1 v k (List.replicate k (.string bl)) ∧ Below w.heap.size w wr) (fun i _ => 6 - (intOf i).toNat)
  case atStart =>
    refine ⟨0, .slice none 0 0, by omega, rfl, heap_two0 w _ _, heap_two1 w _ _, World.ownsRow_nil _ _ _ _, (Below.new _ _).later (Below.new _ _)⟩
  case round =>
    obtain ⟨k, v, hk, rfl, hB0, hB1, hO, hb⟩ := hrel
    have HB0 := Lib.hid hB0
    have HB1 := Lib.hid hB1
    have HO := Lib.hid hO
    have HB := Lib.hid hb
    have p1 := hB1.cell
    have f1 := hB1.frozen
    have z1 := hB1.lt
    have hvb : ∀ g, v.ownBlock = some g → w.heap.size + 1 + 1 ≤ g := fun g hg => (hO.lt g hg).1
    have HVB := Lib.hid hvb
    clear hB0 hB1 hO hb hvb
    by_cases hlt : k < 6
    · go_wp2_with fail
      go_region_law (first
        | (refine step_append_lies _ (by rfl) _ _ _ (by rfl) (w.heap.size + 1 + 1) 9 i0 _ 1 16 Try.underlying22 hi hz0 hz1 hz2 rfl (by omega) v k (List.replicate k (.string bl)) (by rfl) (by exact (ownsRow_later HO.out hb1).alloc _)
            ⟨w1.heap.size, 0, none⟩ 1 1 [.string bl] (by rfl) (by rfl) (World.news_of_block (cs := #[.string bl]) (t := 9) (fr := (0, 0)) (heap_alloc_new w1 _)) (by simp [Value.oneCell'])
            (by omega) (by unfold maxLen; omega) (by omega) (by simp; omega) (w1.heap.size + 1) (by simp) ?_
           intro gg cap w2 hown2 hgrow hat hlt2
           have hbg : Blk w2 (w.heap.size + 1) _ _ := ((HB1.out.later hb1 z1).alloc _).grown hgrow (fun e => by have := HVB.out _ e.symm; omega)
           have p2 := hbg.cell
           have f2 := hbg.frozen
           have HBG := Lib.hid hbg
           have HOW := Lib.hid hown2
           have HBX := Lib.hid ((HB.out.later (hb1.later (Below.new _ _))).grown hgrow (by simp; omega) (fun g hg => by have := HVB.out g hg; omega))
           have HB0X : Hid (Blk w2 w.heap.size _ _) := ((HB0.out.later hb1 (by omega)).alloc _).grown hgrow (fun e => by have := HVB.out _ e.symm; omega)
           clear hbg hown2 hgrow)
        | (go_simp; go_at_call 31; refine (HK.out _).mono ?_; rintro e w1 ⟨rfl, hb1'⟩; have hb1 := undrew hb1'; clear hb1'; have zz := hb1.size; have zw : w.heap.size + 1 < w1.heap.size := (by omega); have p1' := (HB1.out.later hb1 z1).cell))
      all_goals
        go_wp2_with fail
        go_roundw
        case rel =>
          refine ⟨k + 1, .slice (some ⟨gg, 0, none⟩) (k + 1) cap, by omega, by go_num, HB0X.out.far (by simp) _, HBG.out.set_ _ _, ?_, HBX.out.setCell (by simp) _⟩
          rw [List.replicate_succ']
          exact ownsRow_setCell_below HOW.out (by simp) _
        case measure => simp [intOf]; omega
    · obtain rfl : k = 6 := by omega
      obtain ⟨g, cap, hv, hbg, hgl⟩ := HO.out.form (by omega)
      subst hv
      have p0 := HB0.out.cell
      have f0 := HB0.out.frozen
      go_wp2_with fail
      refine bodyPost_ret (v := .agg #[.int .i64 0, .int .i64 0, .slice (some ⟨g, 0, none⟩) 6 cap]) (by simp [results, Try.results19, go_sem, p0]) rfl ⟨g, cap, rfl, ?_, by omega, ?_⟩
      · refine ⟨by simp, fun _ => ⟨0, rfl, ?_⟩⟩
        rcases HO.out.2 with ⟨hx, _⟩ | ⟨g', cap', cur, hv', _, hh, _, _, _, htake⟩
        · cases hx
        · injection hv' with e1 e2 e3
          injection e1 with e1
          injection e1 with e1
          subst e1
          refine ⟨cur, ?_, fun j hj => ?_⟩
          · iterate 3 (refine Blk.far ?_ (by simp <;> omega) _)
            exact hh
          · have hj6 : j < 6 := by simpa using hj
            have hx : (List.replicate 6 (Value.string bl))[j]? = some (.string bl) := rep_get 6 j _ hj6
            rw [← htake, List.getElem?_take_of_lt (by omega)] at hx
            have hy : (List.replicate 6 bl).getD j ByteArray.empty = bl := rep_getD 6 j _ _ hj6
            rw [Nat.zero_add, hy, ← hx, Array.getElem?_toList]
      · exact ((HB.out.setCell (by simp) _).setCell (by simp) _).setCell (by simp) _

/-- The row after m copies. -/
def repRow (s : ByteArray) (m : Nat) : List Value := List.replicate m (.string s) ++ List.replicate (6 - m) (.string .empty)

theorem sizeS : (Try.prog.info? 9).map (·.size) = some 1 := by kernel_rfl

theorem copy_in {P : Program} (w : World) (dT sT ty elem : TypeId) (g o dLen dCap : Nat) (a : Addr) (sLen sCap : Nat) (cur : List Value) (t : TypeId) (cs : List Value) (hu : P.underlying dT = some (.slice elem)) (hsz : (P.info? elem).map (·.size) = some 1)
    (hg : w.heap[g]? = some (.cells cur.toArray t (0, 0))) (hn : cs.length = Nat.min sLen dLen) (hsrc : ∀ j v, cs[j]? = some v → w.cell? (a.add j) = some v) (hfit : o + cs.length ≤ cur.length) (h1 : ∀ v ∈ cs, v.oneCell' = true)
    (B : Nat) (w0 : World) (hb : Below B w0 w) (hBg : B ≤ g) :
    ∃ w3, (Builtin.copy_ #[dT, sT] ty #[.slice (some ⟨g, o, none⟩) dLen dCap, .slice (some a) sLen sCap]).run P w = .ok (goInt cs.length) w3 ∧ w3.heap[g]? = some (.cells (splice cur o cs).toArray t (0, 0)) ∧ Below B w0 w3 :=
  ⟨_, run_copy_row (P := P) w dT sT ty elem g o dLen dCap a sLen sCap cur.toArray t cs hu hsz hg hn hsrc (by simpa using hfit) h1, by simpa [splice] using setRow_heap w g _ _ t _ hg, below_setRow hb hBg _⟩

set_option maxHeartbeats 2000000 in
theorem slicesRepeat6_any (s : ByteArray) (B : Nat) (w : World) (hB : w.cell? ⟨B, 0, none⟩ = some (.string s)) :
    Calls Try.prog 41 #[.slice (some ⟨B, 0, none⟩) 1 1, .int .i64 6] w fun e w' => ∃ g, e = .returned (.slice (some ⟨g, 0, none⟩) 6 6) ∧ Blk w' g 9 (strArr (List.replicate 6 s)) ∧ w.heap.size ≤ g ∧ Below w.heap.size w w' := by
  obtain ⟨i0, hi, hz0, hz1, hz2⟩ := info_parts infoS
  have hmk : ∀ W, (Instr.makeSlice 22 (.int .i64 6) (.int .i64 6)).run Try.prog W = .ok (.slice (some ⟨W.heap.size, 0, none⟩) 6 6) (W.alloc (.cells (repRow s 0).toArray 9)) := fun W => by
    have h := run_make_rowN (P := Try.prog) 22 9 i0 _ Try.underlying22 hi hz0 .i64 .i64 6 6 (Nat.le_refl _) (by rw [hz2]; omega) (by omega) W
    simp only [hz1, Nat.mul_one] at h
    have hm0 : madeCells (Value.string ByteArray.empty).cells 6 = (repRow s 0).toArray := by
      apply Array.toList_inj.1
      show (madeCells #[Value.string ByteArray.empty] 6).toList = _
      rw [toList_madeCells_one]
      rfl
    rw [hm0] at h
    exact h
  go_enter Try.func41, Try.ntmps41
  go_wp2_with fail
  refine (Try.bits_Mul 1 6 (by omega) (by omega) _).mono ?_
  rintro e w' ⟨rfl, hw'⟩
  obtain ⟨w1, rfl⟩ : ∃ w1, w1 = w := ⟨w, rfl⟩
  subst hw'
  have HB := Lib.hid hB
  clear hB
  have hlt := World.block_lt_of_cell? _ _ HB.out
  have e1 : splice (repRow s 0) 0 [.string s] = repRow s 1 := rfl
  have HE1 := Lib.hid e1
  clear e1
  go_wp2_with (with_reducible refine wpList_copy_splice rfl (.tmp 31) (.tmp 32) _ _ rfl 9 Try.underlying22 sizeS _ _ 6 6 1 1 rfl rfl _ 0 (repRow s 0) 9 (heap_alloc_new _ _) [.string s] rfl ?c2 ?c3 ?c4 w'.heap.size w' ?c5 ?c6 ?_)
  case c2 =>
    intro j v hj
    match j, hj with
    | 0, hj => simp at hj; subst hj; exact HB.out
    | j + 1, hj => simp at hj
  case c3 => show 0 + 1 ≤ 6; omega
  case c4 => intro v hv; rw [List.mem_singleton.1 hv]; rfl
  case c5 => exact Below.new _ _
  case c6 => exact Nat.le_refl _
  intro w2 hblk hb2
  rw [HE1.out] at hblk
  have HK2 := Lib.hid hblk.out
  have HBb := Lib.hid hb2
  clear hblk hb2 hmk HE1
  go_wp2_with fail
  go_loopw [8] (fun q wr => ∃ m : Nat, (m = 1 ∨ m = 2 ∨ m = 4 ∨ m = 6) ∧ q = .int .i64 m ∧ Blk wr w'.heap.size 9 (repRow s m).toArray ∧ Below w'.heap.size w' wr) (fun q _ => 6 - (intOf q).toNat)
  case atStart => exact ⟨1, by omega, rfl, HK2.out, HBb.out⟩
  case round =>
    obtain ⟨m, hm, rfl, hk, hb⟩ := hrel
    have HK := Lib.hid hk
    have HB2 := Lib.hid hb
    clear hk hb
    rcases hm with rfl | rfl | rfl | rfl
    · have e1 : splice (repRow s 1) 1 (List.replicate 1 (.string s)) = repRow s 2 := rfl
      have HE := Lib.hid e1
      have HC : Hid (∀ j v, (List.replicate 1 (Value.string s))[j]? = some v → wr.cell? ((⟨w'.heap.size, 0, none⟩ : Addr).add j) = some v) := fun j v hj => by
        have hj' : j < 1 := by
          rcases Nat.lt_or_ge j 1 with h | h
          · exact h
          · rw [List.getElem?_eq_none (by rw [List.length_replicate]; exact h)] at hj; cases hj
        rw [rep_get _ _ _ hj'] at hj
        rw [Go.WideShapes.add_plain, Nat.zero_add, HK.out.cell, ← hj]
        show (repRow s 1).toArray[j]? = _
        rw [List.getElem?_toArray]
        unfold repRow
        rw [List.getElem?_append_left (by rw [List.length_replicate]; omega), rep_get _ _ _ (by omega)]
      clear e1
      obtain ⟨w3, hrun, hblk3, hb3⟩ := copy_in (P := Try.prog) wr.drew 22 22 3 9 w'.heap.size 1 5 5 ⟨w'.heap.size, 0, none⟩ 1 6 (repRow s 1) 9 (List.replicate 1 (.string s)) Try.underlying22 sizeS (by exact HK.out) (by rfl) (by exact HC.out) (by show 1 + 1 ≤ 6; omega) (by intro v hv; rw [List.eq_of_mem_replicate hv]; rfl) w'.heap.size w' (by exact HB2.out.drew) (Nat.le_refl _)
      rw [HE.out] at hblk3
      have hlen : (List.replicate 1 (Value.string s)).length = 1 := by rw [List.length_replicate]
      rw [hlen] at hrun
      have hgi : goInt ((1 : Nat) : Int) = .int .i64 1 := rfl
      rw [hgi] at hrun
      have HK3 := Lib.hid hblk3
      have HB3 := Lib.hid hb3
      clear hblk3 hb3 hlen hgi
      go_wp2_with fail
      go_region
      all_goals
        go_wp2_with fail
        go_roundw
        case rel => exact ⟨2, by omega, rfl, HK3.out, HB3.out⟩
        case measure => simp [intOf]
    · have e1 : splice (repRow s 2) 2 (List.replicate 2 (.string s)) = repRow s 4 := rfl
      have HE := Lib.hid e1
      have HC : Hid (∀ j v, (List.replicate 2 (Value.string s))[j]? = some v → wr.cell? ((⟨w'.heap.size, 0, none⟩ : Addr).add j) = some v) := fun j v hj => by
        have hj' : j < 2 := by
          rcases Nat.lt_or_ge j 2 with h | h
          · exact h
          · rw [List.getElem?_eq_none (by rw [List.length_replicate]; exact h)] at hj; cases hj
        rw [rep_get _ _ _ hj'] at hj
        rw [Go.WideShapes.add_plain, Nat.zero_add, HK.out.cell, ← hj]
        show (repRow s 2).toArray[j]? = _
        rw [List.getElem?_toArray]
        unfold repRow
        rw [List.getElem?_append_left (by rw [List.length_replicate]; omega), rep_get _ _ _ (by omega)]
      clear e1
      obtain ⟨w3, hrun, hblk3, hb3⟩ := copy_in (P := Try.prog) wr.drew 22 22 3 9 w'.heap.size 2 4 4 ⟨w'.heap.size, 0, none⟩ 2 6 (repRow s 2) 9 (List.replicate 2 (.string s)) Try.underlying22 sizeS (by exact HK.out) (by rfl) (by exact HC.out) (by show 2 + 2 ≤ 6; omega) (by intro v hv; rw [List.eq_of_mem_replicate hv]; rfl) w'.heap.size w' (by exact HB2.out.drew) (Nat.le_refl _)
      rw [HE.out] at hblk3
      have hlen : (List.replicate 2 (Value.string s)).length = 2 := by rw [List.length_replicate]
      rw [hlen] at hrun
      have hgi : goInt ((2 : Nat) : Int) = .int .i64 2 := rfl
      rw [hgi] at hrun
      have HK3 := Lib.hid hblk3
      have HB3 := Lib.hid hb3
      clear hblk3 hb3 hlen hgi
      go_wp2_with fail
      go_region
      all_goals
        go_wp2_with fail
        go_roundw
        case rel => exact ⟨4, by omega, rfl, HK3.out, HB3.out⟩
        case measure => simp [intOf]
    · have e1 : splice (repRow s 4) 4 (List.replicate 2 (.string s)) = repRow s 6 := rfl
      have HE := Lib.hid e1
      have HC : Hid (∀ j v, (List.replicate 2 (Value.string s))[j]? = some v → wr.cell? ((⟨w'.heap.size, 0, none⟩ : Addr).add j) = some v) := fun j v hj => by
        have hj' : j < 2 := by
          rcases Nat.lt_or_ge j 2 with h | h
          · exact h
          · rw [List.getElem?_eq_none (by rw [List.length_replicate]; exact h)] at hj; cases hj
        rw [rep_get _ _ _ hj'] at hj
        rw [Go.WideShapes.add_plain, Nat.zero_add, HK.out.cell, ← hj]
        show (repRow s 4).toArray[j]? = _
        rw [List.getElem?_toArray]
        unfold repRow
        rw [List.getElem?_append_left (by rw [List.length_replicate]; omega), rep_get _ _ _ (by omega)]
      clear e1
      obtain ⟨w3, hrun, hblk3, hb3⟩ := copy_in (P := Try.prog) wr.drew 22 22 3 9 w'.heap.size 4 2 2 ⟨w'.heap.size, 0, none⟩ 4 6 (repRow s 4) 9 (List.replicate 2 (.string s)) Try.underlying22 sizeS (by exact HK.out) (by rfl) (by exact HC.out) (by show 4 + 2 ≤ 6; omega) (by intro v hv; rw [List.eq_of_mem_replicate hv]; rfl) w'.heap.size w' (by exact HB2.out.drew) (Nat.le_refl _)
      rw [HE.out] at hblk3
      have hlen : (List.replicate 2 (Value.string s)).length = 2 := by rw [List.length_replicate]
      rw [hlen] at hrun
      have hgi : goInt ((2 : Nat) : Int) = .int .i64 2 := rfl
      rw [hgi] at hrun
      have HK3 := Lib.hid hblk3
      have HB3 := Lib.hid hb3
      clear hblk3 hb3 hlen hgi
      go_wp2_with fail
      go_region
      all_goals
        go_wp2_with fail
        go_roundw
        case rel => exact ⟨6, by omega, rfl, HK3.out, HB3.out⟩
        case measure => simp [intOf]
    · go_wp2_with fail
      go_ret
      exact ⟨_, rfl, HK.out, Nat.le_refl _, HB2.out⟩
end Go.Proofs.Ytjcpocedhaojpaa
