/-
  Queries of the program: what QueryFits computes: just what the reference's l30Fits does.
-/
import Derived.Test.YtalpafaflgddpaaGreatDoorPi4
import Derived.Test.YtalpafaflgddpaaGreatDoorQr2
import Derived.Test.YtalpafaflgddpaaGreatDoorNd1
namespace Go.Proofs.YtalpafaflgddpaaGreatDoor
open Go.RowKit

theorem CloneS_any (A : Option Addr) (n c : Nat) (ss : List ByteArray) (w : World) (h : Strs w w.heap.size A n ss) (hn : n ≤ 1048576) :
    Calls Tryz.prog 90 #[.slice A n c] w fun e w' => ∃ v, e = .returned v ∧ Own.SubO w' w.heap.size v ss ∧ Below w.heap.size w w' := by
  rcases Nat.eq_zero_or_pos n with h0 | h0
  · subst h0
    obtain rfl : ss = [] := List.eq_nil_of_length_eq_zero h.1
    cases A with
    | none => exact (Tryz.slices_Clone_string_nil 0 c w).mono fun e w' ⟨he, hw⟩ => ⟨_, he, by subst hw; exact Own.sub_nil _ _, by subst hw; exact Below.refl _ _⟩
    | some a => exact (Tryz.slices_Clone_string_zero a c w).mono fun e w' ⟨v, he, ho, _, hb⟩ => ⟨v, he, ho, hb⟩
  · obtain ⟨b, o, rfl, hb, hc⟩ := h.2 h0
    have hl := h.1
    refine (Tryz.slices_Clone_string b o n c ss w (by omega) (by omega) (fun j hj => hc j (by omega))).mono fun e w' ⟨v, he, ho, _, hb⟩ => ⟨v, he, ?_, hb⟩
    rw [List.take_of_length_le (by omega), ← hl] at ho
    exact ho
set_option maxHeartbeats 1000000 in
theorem QueryFits1_any (g : Nat) (A : Option Addr) (n c : Nat) (bc : List ByteArray) (s : ByteArray) (W : World) (hc : W.cell? ⟨g, 2, none⟩ = some (.slice A n c)) (h : Strs W W.heap.size A n bc) (hn : n ≤ 1048576) :
    Calls Tryz.prog 92 #[.string s, .pointer (some ⟨g, 0, none⟩)] W fun e w' => e = .returned (.bool (!inP bc s)) ∧ Below W.heap.size W w' := by
  have HK := Lib.hid (ContainsS_any A n c bc s W h hn)
  have HI : Hid (inP bc s = decide (0 ≤ placeI bc s)) := rfl
  clear h
  rw [← HI.out] at HK
  generalize inP bc s = x at *
  go_enter Tryz.func92, Tryz.ntmps92
  go_wp2_with fail
  refine HK.out.mono ?_
  rintro e w1 ⟨rfl, rfl⟩
  go_wp2_with fail
  go_ret
  exact ⟨rfl, Below.refl _ _⟩
def usedC (d : QueryD) : List ByteArray := (d.cols ++ d.wher.map CondD.col) ++ (if d.order = ⟨#[]⟩ then [] else [d.order])
theorem used_eq (bc : List ByteArray) (d : QueryD) : (!((usedC d).any fun s => !inP bc s)) = ((decide (d.order = ⟨#[]⟩) || inP bc d.order) && (d.cols.all (inP bc) && d.wher.all fun c => inP bc c.col)) := by
  rw [any_not_all]
  unfold usedC
  rw [List.all_append, List.all_append, List.all_map]
  have hx : (d.wher.all (inP bc ∘ CondD.col)) = d.wher.all fun c => inP bc c.col := rfl
  rw [hx]
  by_cases h : d.order = ⟨#[]⟩
  · rw [if_pos h, decide_eq_true h]; simp
  · rw [if_neg h, decide_eq_false h]
    simp only [List.all_cons, List.all_nil, Bool.and_true, Bool.false_or]
    rw [Bool.and_comm]

set_option maxRecDepth 100000 in
set_option maxHeartbeats 4000000 in
theorem QueryFits_any (b0 b1 b2 b3 c0 c1 c2 c3 c4 c5 : Value) (b : TableD) (d : QueryD) (w : World) (hb : TableR w w.heap.size b0 b1 b2 b3 b) (h : QueryR w w.heap.size c0 c1 c2 c3 c4 c5 d) (hbs : b.small) (hs : d.small) :
    Calls Tryz.prog 54 #[.agg #[b0, b1, b2, b3], .agg #[c0, c1, c2, c3, c4, c5]] w fun e w' => e = .returned (.bool (fitsB b d)) ∧ Below w.heap.size w w' := by
  obtain ⟨i0, hi, hz0, hzs1, hzs2⟩ := info_parts infoS
  have HKT := Lib.hid (fun W (hW : Below w.heap.size w W) => TableOk_any b0 b1 b2 b3 b W (hb.later hW) hbs)
  have HKQ := Lib.hid (fun W (hW : Below w.heap.size w W) => QueryOk_any c0 c1 c2 c3 c4 c5 d W (h.later hW) hs)
  have HR : Hid (fitsB b d = (tabB b && (queryB d && (decide (d.table = b.name) && !((usedC d).any fun s => !inP b.cols s))))) := by unfold Hid; rw [used_eq]; rfl
  have HU : Hid (usedC d = (d.cols ++ d.wher.map CondD.col) ++ (if d.order = ⟨#[]⟩ then [] else [d.order])) := rfl
  obtain ⟨rfl, rfl, ⟨A2, n2, p2, rfl, s2, k2⟩, ⟨A3, n3, p3, rfl, s3, k3⟩⟩ := hb
  obtain ⟨rfl, ⟨B1, m1, q1, rfl, t1, l1⟩, ⟨B2, m2, q2, rfl, t2, l2⟩, rfl, rfl, rfl⟩ := h
  have hn2 : n2 ≤ 1048576 := by rw [← s2.1]; exact hbs.2.2.1.1
  have hm1 : m1 ≤ 1048576 := by rw [← t1.1]; exact hs.2.1.1
  have hm2 : m2 ≤ 1048576 := by rw [← t2.1]; exact hs.2.2.1.1
  have HS2 := Lib.hid s2
  have HT2 := Lib.hid t2
  have HLc := Lib.hid t1.1
  have HKC := Lib.hid (fun W (hW : Below w.heap.size w W) => CloneS_any B1 m1 q1 d.cols W (t1.later hW) hm1)
  have HQ5 : Hid (queryB d = true → m1 ≤ 5 ∧ m2 ≤ 3) := fun hq => by
    unfold queryB at hq
    simp only [Bool.and_eq_true, decide_eq_true_eq] at hq
    have e1 := t1.1
    have e2 := t2.1
    omega
  clear s2 s3 t1 t2 hs hbs
  generalize fitsB b d = R at *
  generalize tabB b = x0 at *
  generalize queryB d = x1 at *
  generalize usedC d = US at *
  generalize b.name = nm at *
  generalize b.glob = gl at *
  generalize b.cols = bc at *
  generalize d.table = tb at *
  generalize d.order = od at *
  generalize d.desc = ds at *
  generalize d.limit = lm at *
  generalize d.cols = cols at *
  generalize d.wher = wher at *
  have HB0 := Lib.hid ((Below.new w (.cells #[.string nm, .string gl, .slice A2 n2 p2, .slice A3 n3 p3] 43)).later (Below.new _ (.cells #[.string tb, .slice B1 m1 q1, .slice B2 m2 q2, .string od, .bool ds, .int .i64 lm] 47)))
  go_enter Tryz.func54, Tryz.ntmps54
  go_wp2_with fail
  refine (HKT.out _ HB0.out).mono ?_
  rintro e w1 ⟨rfl, hb1⟩
  have HB1 := Lib.hid (HB0.out.later hb1)
  have px := (Blk.later (heap_two0 w _ _) hb1 (by simp; omega)).cell
  have py := (Blk.later (heap_two1 w _ _) hb1 (by simp)).cell
  have hz1 : w.heap.size + 1 < w1.heap.size := by have := hb1.size; simp at this; omega
  cases x0
  · have HE : Hid (R = false) := by unfold Hid; rw [HR.out]; rfl
    clear hb1
    go_wp2_with fail
    go_ret
    exact ⟨ret_bool HE.out.symm, HB1.out⟩
  have HBB := Lib.hid hb1
  clear hb1
  go_wp2_with fail
  refine (HKQ.out _ HB1.out).mono ?_
  rintro e w2 ⟨rfl, hb2'⟩
  have hb2 := HBB.out.trans (hb2'.mono (by simp; omega))
  have HB2 := Lib.hid (HB1.out.later hb2')
  clear px py hb2'
  have px := (Blk.later (heap_two0 w _ _) hb2 (by simp; omega)).cell
  have py := (Blk.later (heap_two1 w _ _) hb2 (by simp)).cell
  have hz2 : w.heap.size + 1 < w2.heap.size := by have := hb2.size; simp at this; omega
  have HBB2 := Lib.hid hb2
  clear hb2
  cases x1
  · have HE : Hid (R = false) := by unfold Hid; rw [HR.out]; rfl
    go_wp2_with fail
    go_ret
    exact ⟨ret_bool HE.out.symm, HB2.out⟩
  have hq5 := HQ5.out (by trivial)
  by_cases hnm : tb = nm
  case neg =>
    have HE : Hid (R = false) := by unfold Hid; rw [HR.out, decide_eq_false hnm]; rfl
    have hbn := str_bne hnm
    have hbe := str_beq hnm
    clear hnm
    go_wp2_with fail
    go_ret
    exact ⟨ret_bool HE.out.symm, HB2.out⟩
  subst hnm
  have HR1 : Hid (R = !(US.any fun s => !inP bc s)) := by unfold Hid; rw [HR.out]; simp
  clear HR
  go_wp2_with fail
  refine (HKC.out _ HB2.out).mono ?_
  rintro e w3 ⟨v, rfl, hown, hb3⟩
  obtain ⟨A5, cap5, rfl, _⟩ := Own.own_slice hown
  have hO3 := Own.own_base hown (show w.heap.size + 1 + 1 ≤ w2.heap.size by omega)
  have HO3 := Lib.hid hO3
  have hb4 := HBB2.out.trans (hb3.mono (by simp; omega))
  have HSt : Hid (Below (w.heap.size + 1 + 1) ((w.alloc (.cells #[.string tb, .string gl, .slice A2 n2 p2, .slice A3 n3 p3] 43)).alloc (.cells #[.string tb, .slice B1 m1 q1, .slice B2 m2 q2, .string od, .bool ds, .int .i64 lm] 47)) w3) := by
    have := hb4
    simp only [World.size_alloc] at this
    exact this
  clear px py hown hO3
  have px := (Blk.later (heap_two0 w _ _) hb4 (by simp; omega)).cell
  have py := (Blk.later (heap_two1 w _ _) hb4 (by simp)).cell
  have hz3 : w.heap.size + 1 < w3.heap.size := by have := hb4.size; simp at this; omega
  clear hb3 hb4
  go_wp2_with fail
  go_loopw [5, 29] (fun v i wr => ∃ (j : Nat), j ≤ m2 ∧ i = .int .i64 j ∧ wr.ownsRow (w.heap.size + 1 + 1) 9 1 v (cols ++ (wher.take j).map CondD.col).length ((cols ++ (wher.take j).map CondD.col).map Value.string) ∧ Below (w.heap.size + 1 + 1) ((w.alloc (.cells #[.string tb, .string gl, .slice A2 n2 p2, .slice A3 n3 p3] 43)).alloc (.cells #[.string tb, .slice B1 m1 q1, .slice B2 m2 q2, .string od, .bool ds, .int .i64 lm] 47)) wr) (fun _ i _ => m2 - (intOf i).toNat)
  case atStart => exact ⟨0, Nat.zero_le _, rfl, by simpa using HO3.out, HSt.out⟩
  case round =>
    obtain ⟨j, hj, rfl, hown, hb⟩ := hrel
    clear px py hz3
    have px := (Blk.later (heap_two0 w _ _) hb (by omega)).cell
    have py := (Blk.later (heap_two1 w _ _) hb (by omega)).cell
    have hz3 : w.heap.size + 1 < wr.heap.size := by have := hb.size; simp at this; omega
    have HBk := Lib.hid hb
    have HBw := Lib.hid (HB0.out.trans (hb.mono (by omega)))
    have HO := Lib.hid hown
    clear hb hown
    by_cases hlt : j < m2
    · obtain ⟨bb, o, rfl, hbB, hc'⟩ := (HT2.out.later HBw.out).2 (by omega)
      obtain ⟨d0, d1, d2, j0, j1, j2, hr⟩ := hc' j hlt
      clear hc'
      have hl1 : j < wher.length := by rw [HT2.out.1]; exact hlt
      have HTS : Hid (cols ++ (wher.take (j + 1)).map CondD.col = (cols ++ (wher.take j).map CondD.col) ++ [(wher.getD j default).col]) := by
        unfold Hid
        rw [List.take_succ_eq_append_getElem hl1, List.map_append, List.append_assoc, List.getD_eq_getElem?_getD, List.getElem?_eq_getElem hl1]; rfl
      have hml : (cols ++ (wher.take j).map CondD.col).length ≤ 8 := by rw [List.length_append, List.length_map, List.length_take, HLc.out]; omega
      clear hl1
      generalize wher.getD j default = f at *
      generalize cols ++ (wher.take j).map CondD.col = ys at *
      obtain ⟨e0, e1, e2⟩ := hr
      subst e0 e1 e2
      generalize f.col = fc at *
      generalize f.op = fo at *
      generalize f.val = fv at *
      have hrow : Hid (∀ o o', ((wr.alloc o).alloc o').ownsRow (w.heap.size + 1 + 1) 9 1 u5 ys.length (ys.map Value.string)) := fun o o' => Own.own_later (Own.own_later HO.out (Below.new _ _)) (Below.new _ _)
      go_wp2_with (at_builtin; refine wpList_append_own _ rfl (.tmp 33) (.tmp 36) 25 rfl (w.heap.size + 1 + 1) 9 i0 _ 1 16 Tryz.underlying25 hi hz0 hzs1 hzs2 rfl (by decide) _ ys.length _ rfl (hrow.out _ _) ⟨_, 0, none⟩ 1 1 [.string fc] rfl rfl ?c1 ?c2 ?c3 ?c4 ?c5 ?_)
      all_goals try (first | exact cells_atN _ #[.string fc] _ _ (by simp) | (simp [Value.oneCell']; done) | (unfold maxLen; omega) | omega | (simp; omega))
      intro v1 w4 hown1 hg1 _
      have HO4 : Hid (w4.ownsRow (w.heap.size + 1 + 1) 9 1 v1 (cols ++ (wher.take (j + 1)).map CondD.col).length ((cols ++ (wher.take (j + 1)).map CondD.col).map Value.string)) := by
        unfold Hid
        rw [HTS.out, List.length_append, List.length_singleton, List.map_append]
        exact hown1
      have HB4 := Lib.hid (((HBk.out.alloc (by omega) _).alloc (by first | omega | (simp; omega)) _).grown hg1 (by first | omega | (simp; omega)) (fun g hg' => ((hrow.out (.cells #[] 0) (.cells #[] 0)).lt g hg').1))
      clear hown1 hg1
      go_wp2_with fail
      go_roundw
      case rel => exact ⟨j + 1, by omega, by go_num, HO4.out, HB4.out⟩
      case measure => simp [intOf]; omega
    · obtain rfl : j = m2 := by omega
      have HYS : Hid (cols ++ (wher.take j).map CondD.col = cols ++ wher.map CondD.col) := by unfold Hid; rw [List.take_of_length_le (by rw [HT2.out.1]; omega)]
      have hml : (cols ++ (wher.take j).map CondD.col).length ≤ 8 := by rw [List.length_append, List.length_map, List.length_take, HLc.out]; omega
      rw [HYS.out] at HO hml
      generalize cols ++ wher.map CondD.col = ys at *
      by_cases ho : od = ⟨#[]⟩
      · have HUS : Hid (US = ys) := by unfold Hid; rw [HU.out, if_pos ho, List.append_nil]
        have hlu : US.length ≤ 8 := by rw [HUS.out]; exact hml
        have hu := HUS.out
        subst hu
        subst ho
        obtain ⟨A7, cap7, hv7, _, hS7⟩ := Own.SubO.strs HO.out
        subst hv7
        have HKL := Lib.hid (fun W (hW : Below w.heap.size w W) (hc : W.cell? ⟨w.heap.size, 2, none⟩ = some (.slice A2 n2 p2)) A c (hs : Strs W W.heap.size A US.length US) => ContainsFuncS_any 92 #[.pointer (some ⟨w.heap.size, 0, none⟩)] (fun s => !inP bc s) A US.length c US W hs (by omega) (enters_of Tryz.func92 (by kernel_rfl) rfl) (fun s _ W' hW' => QueryFits1_any w.heap.size A2 n2 p2 bc s W' ((hW'.cell (p := ⟨w.heap.size, 2, none⟩) (by have := World.block_lt_of_cell? W ⟨w.heap.size, 2, none⟩ hc; exact this)).trans hc) ((HS2.out.later hW).later hW') hn2))
        generalize (US.any fun s => !inP bc s) = X at *
        go_wp2_with fail
        refine (HKL.out _ HBw.out (px 2) _ _ hS7).mono ?_
        rintro e w5 ⟨rfl, hb5⟩
        have HB5 := Lib.hid (Below.later HBw.out hb5)
        clear hb5
        go_wp2_with fail
        go_ret
        exact ⟨ret_bool HR1.out.symm, HB5.out⟩
      · have HUS : Hid (US = ys ++ [od]) := by unfold Hid; rw [HU.out, if_neg ho]
        have hbe := str_beq ho
        have hbn := str_bne ho
        have hbe3 := ne_empty ho
        clear ho
        have hrow : Hid (∀ o, (wr.alloc o).ownsRow (w.heap.size + 1 + 1) 9 1 u5 ys.length (ys.map Value.string)) := fun o => Own.own_later HO.out (Below.new _ _)
        go_wp2_with (at_builtin; refine wpList_append_own _ rfl (.tmp 42) (.tmp 45) 25 rfl (w.heap.size + 1 + 1) 9 i0 _ 1 16 Tryz.underlying25 hi hz0 hzs1 hzs2 rfl (by decide) _ ys.length _ rfl (hrow.out _) ⟨_, 0, none⟩ 1 1 [.string od] rfl rfl ?k1 ?k2 ?k3 ?k4 ?k5 ?_)
        all_goals try (first | exact cells_atN _ #[.string od] _ _ (by simp) | (simp [Value.oneCell']; done) | (unfold maxLen; omega) | omega | (simp; omega))
        intro v1 w4 hown1 hg1 _
        have HO4 : Hid (w4.ownsRow (w.heap.size + 1 + 1) 9 1 v1 US.length (US.map Value.string)) := by
          unfold Hid
          rw [HUS.out, List.length_append, List.length_singleton, List.map_append]
          exact hown1
        have hB4 := (HBk.out.alloc (by omega) _).grown hg1 (by first | omega | (simp; omega)) (fun g hg' => ((hrow.out (.cells #[] 0)).lt g hg').1)
        have HB4 := Lib.hid (HB0.out.trans (hB4.mono (by omega)))
        have px4 := (Blk.later (heap_two0 w _ _) hB4 (by omega)).cell
        have hlu : US.length ≤ 9 := by rw [HUS.out, List.length_append, List.length_singleton]; omega
        obtain ⟨A7, cap7, hv7, _, hS7⟩ := Own.SubO.strs HO4.out
        subst hv7
        clear hown1 hg1 hB4
        have HKL := Lib.hid (fun W (hW : Below w.heap.size w W) (hc : W.cell? ⟨w.heap.size, 2, none⟩ = some (.slice A2 n2 p2)) A c (hs : Strs W W.heap.size A US.length US) => ContainsFuncS_any 92 #[.pointer (some ⟨w.heap.size, 0, none⟩)] (fun s => !inP bc s) A US.length c US W hs (by omega) (enters_of Tryz.func92 (by kernel_rfl) rfl) (fun s _ W' hW' => QueryFits1_any w.heap.size A2 n2 p2 bc s W' ((hW'.cell (p := ⟨w.heap.size, 2, none⟩) (by have := World.block_lt_of_cell? W ⟨w.heap.size, 2, none⟩ hc; exact this)).trans hc) ((HS2.out.later hW).later hW') hn2))
        generalize (US.any fun s => !inP bc s) = X at *
        go_wp2_with fail
        refine (HKL.out _ HB4.out (px4 2) _ _ hS7).mono ?_
        rintro e w5 ⟨rfl, hb5⟩
        have HB5 := Lib.hid (Below.later HB4.out hb5)
        clear hb5
        go_wp2_with fail
        go_ret
        exact ⟨ret_bool HR1.out.symm, HB5.out⟩
end Go.Proofs.YtalpafaflgddpaaGreatDoor
