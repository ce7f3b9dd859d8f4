import Derived.Test.YtlicffeicmoifaaGreatDoorZ19
import Derived.Test.YtlicffeicmoifaaGreatDoorZ15
import Derived.Test.YtlicffeicmoifaaGreatDoorZ07
set_option linter.unusedSimpArgs false
namespace Go.Proofs.YtlicffeicmoifaaGreatDoor
open Go.RowKit
set_option linter.unusedVariables false
theorem str_emp {s : ByteArray} (h : s ≠ ⟨#[]⟩) : s.toList.isEmpty = false := by
 rw [toList_data]
 cases e : s.data.toList with
 | nil => exact absurd (bytes_ext (by rw [toList_data, toList_data, e])) h
 | cons c r => rfl
theorem hb_of {w w1 : World} {q : Nat} (h : w1 = w.drew.drewN q) : Below w.heap.size w w1 := by
 subst h
 exact below_drewN (Below.refl _ _).drew q
theorem ord_snoc (nm : ByteArray) (ss : List ByteArray) (back : Bool) (fs : List NodeD) (k : Nat) (hk : k < fs.length) : ordF nm ss back (fs.take (k + 1)) = ordN nm ss back (fs.getD k default) (ordF nm ss back (fs.take k)) := by
 unfold ordF
 rw [List.take_add_one, List.getElem?_eq_getElem hk, List.foldl_append, List.getD_eq_getElem?_getD, List.getElem?_eq_getElem hk]
 rfl
set_option maxRecDepth 100000 in
set_option maxHeartbeats 16000000 in
theorem l03Order_any (A : Option Addr) (n c : Nat) (fs : List NodeD) (nm : ByteArray) (S : Option Addr) (m q : Nat) (ss : List ByteArray) (back : Bool) (w : World) (h : Nodes w w.heap.size A n fs) (hs : smallNs fs) (h' : Strs w w.heap.size S (m + 1) ss) (hmq : m + 1 ≤ q) (hm : m + 1 ≤ 1048576) (hz : ∀ s ∈ ss, s.size ≤ 1048576) :
 Calls Tryz.prog 252 #[.agg #[.slice A n c], .string nm, .slice S (m + 1) q, .bool back] w fun e w' => e = .returned (.string (ordF nm ss back fs)) ∧ Below w.heap.size w w' := by
 have Hh := Lib.hid h
 have Hlen := Lib.hid h.1
 have hn : n ≤ 1048576 := by rw [← h.1]; exact hs.1
 have hl0 : fs.length = n := h.1
 have Hs := Lib.hid hs
 have Hst := Lib.hid h'
 have Hsl : Hid (ss.length = m + 1) := h'.1
 obtain ⟨sb, so, rfl, hsb, hsc⟩ := h'.2 (by omega)
 have hlast := hsc m (by omega)
 have HLS : Hid (ss.getD m ByteArray.empty = lastS ss) := by unfold Hid lastS; rw [h'.1, Nat.add_sub_cancel]
 rw [HLS.out] at hlast
 have hLz : (lastS ss).size ≤ 1048576 := by rw [← HLS.out]; exact hz _ (Own.mem_of_getD ss m _ (by rw [h'.1]; omega))
 have HALL : Hid (ordF nm ss back (fs.take n) = ordF nm ss back fs) := by unfold Hid; rw [List.take_of_length_le (by omega)]
 have HSN : Hid (∀ k, k < n → ordF nm ss back (fs.take (k + 1)) = ordN nm ss back (fs.getD k default) (ordF nm ss back (fs.take k))) := fun k hk => ord_snoc nm ss back fs k (by omega)
 have HKB := Lib.hid (fun W a b (ha : a.size ≤ 1048576) (hb : b.size ≤ 1048576) => specBefore_any a b W ha hb)
 clear h hs h' hl0 hsc HLS hz
 generalize ordF nm ss back fs = OUT at *
 generalize hD : (fun k => ordF nm ss back (fs.take k)) = D at *
 have HD : Hid (∀ k, ordF nm ss back (fs.take k) = D k) := by subst hD; exact fun _ => rfl
 have HD0 : Hid (D 0 = ⟨#[]⟩) := by subst hD; rfl
 clear hD
 have HS2 : Hid (∀ k, k < n → D (k + 1) = ordN nm ss back (fs.getD k default) (D k)) := fun k hk => by rw [← HD.out, ← HD.out]; exact HSN.out k hk
 have HA2 : Hid (D n = OUT) := by unfold Hid; rw [← HD.out]; exact HALL.out
 clear HSN HALL HD
 have HLV : Hid (lastS ss = lastS ss) := rfl
 have HORD : Hid (∀ d best, ordN nm ss back d best = if (decide (d.name = nm) && (startsB (ss.take m) d.subs && decide (m + 1 ≤ d.subs.length))) = true then
  (if (if back = true then (decide (lastS ss = ⟨#[]⟩) || beforeB (d.subs.getD m ByteArray.empty) (lastS ss)) && (decide (best = ⟨#[]⟩) || beforeB best (d.subs.getD m ByteArray.empty))
    else (decide (lastS ss = ⟨#[]⟩) || beforeB (lastS ss) (d.subs.getD m ByteArray.empty)) && (decide (best = ⟨#[]⟩) || beforeB (d.subs.getD m ByteArray.empty) best)) = true
  then d.subs.getD m ByteArray.empty else best)
 else best) := fun d best => by unfold ordN inN; rw [Hsl.out, Nat.add_sub_cancel, Bool.and_assoc]
 generalize lastS ss = L at *
 clear HLV
 go_enter Tryz.func252, Tryz.ntmps252
 go_wp2_with fail
 go_loopw [11, 12] (fun o i wr => ∃ (k : Nat) (b : ByteArray), k ≤ n ∧ o = .string b ∧ i = .int .i64 k ∧ Hid (b = D k) ∧ b.size ≤ 1048576 ∧ Below (w.heap.size + 1) (w.alloc (.cells #[.slice A n c] 26)) wr) (fun _ i _ => n - (intOf i).toNat)
 case atStart => exact ⟨0, ⟨#[]⟩, Nat.zero_le _, rfl, rfl, HD0.out.symm, by decide, Below.refl _ _⟩
 case round =>
  obtain ⟨k, b, hk, rfl, rfl, HZ, hbz, hb⟩ := hrel
  have p0 := (Blk.later (heap_alloc_new w _) hb (by omega)).cell 0
  have hzz : w.heap.size < wr.heap.size := by have := hb.size; simp at this; omega
  have HB := Lib.hid hb
  have HBw := Lib.hid ((Below.new _ _).trans (hb.mono (by omega)))
  simp at p0
  clear hb
  by_cases hlt : k < n
  · have hki : (k : Int) < (n : Int) := by omega
    obtain ⟨bb, o, rfl, hbB, hc⟩ := (Hh.out.later HBw.out).2 (by omega)
    obtain ⟨c0, c1, c2, k0, k1, k2, hr⟩ := hc k hlt
    have HSK := Lib.hid (HS2.out k hlt)
    have hsm := Hs.out.2 _ (getD_memD fs k (by rw [Hlen.out]; exact hlt))
    clear hc
    generalize fs.getD k default = d at *
    have HOD := Lib.hid (HORD.out d b)
    obtain ⟨rfl, ⟨A1, n1, cap1, rfl, hs1, hcap1⟩, rfl⟩ := hr
    have hn1 : n1 ≤ 1048576 := by rw [← hs1.1]; exact hsm.2.1.1
    have HN : Hid (D (k + 1) = ordN nm ss back d b) := by unfold Hid; rw [HSK.out, ← HZ.out]
    rw [HOD.out, hs1.1] at HN
    have HS1 := Lib.hid hs1
    have HSM := Lib.hid hsm
    have HSS : Hid (∀ W, Below wr.heap.size wr W → Strs W W.heap.size (some ⟨sb, so, none⟩) m (ss.take m)) := fun W hW => (Hst.out.later (HBw.out.later hW)).take m (by omega)
    clear HSK HOD hs1 hsm
    by_cases hnm : d.name = nm
    · by_cases hle : m + 1 ≤ n1
      · have HKI := Lib.hid (fun W cq (hW : Below wr.heap.size wr W) => l03Begins_any A1 (some ⟨sb, so, none⟩) n1 cap1 m cq d.subs (ss.take m) W (HS1.out.later hW) (HSS.out W hW) (by omega) hcap1)
        have HY : Hid (startsB (ss.take m) d.subs = startsB (ss.take m) d.subs) := rfl
        obtain ⟨xb, xo, rfl, hxb, hxc⟩ := HS1.out.2 (by omega)
        have x0 := hxc m (by omega)
        have hxz : (d.subs.getD m ByteArray.empty).size ≤ 1048576 := HSM.out.2.1.2 _ (Own.mem_of_getD d.subs m _ (by rw [HS1.out.1]; omega))
        rw [decide_eq_true hnm, decide_eq_true hle, Bool.true_and, Bool.and_true] at HN
        have hle2 : ¬ (n1 : Int) < (m : Int) + 1 := by omega
        have hle3 : decide ((n1 : Int) < (m : Int) + 1) = false := decide_eq_false hle2
        have hle4 : decide (n1 < m + 1) = false := decide_eq_false (by omega)
        have hle5 : ¬ n1 < m + 1 := by omega
        have hq0 : ¬ q = 0 := by omega
        have hmq1 : m ≤ q := by omega
        have hmqI : (m : Int) ≤ (q : Int) := by omega
        have hm0I : (0 : Int) ≤ (m : Int) := by omega
        have hwm : IntKind.i64.wrap ((m : Int) + 1 - 1) = (m : Int) := by rw [IntKind.wrap_i64]; omega
        have hwm2 : IntKind.i64.wrap (m : Int) = (m : Int) := by rw [IntKind.wrap_i64]; omega
        have hcp1 : m ≤ cap1 := by omega
        have hcpI : (m : Int) ≤ (cap1 : Int) := by omega
        have hcp0 : ¬ cap1 = 0 := by omega
        have htnm : (m : Int).toNat = m := by omega
        clear hxc HY HSS
        generalize startsB (ss.take m) d.subs = y at *
        generalize d.subs.getD m ByteArray.empty = X at *
        generalize d.name = dn at *
        generalize d.val = vl at *
        subst hnm
        have hWn := Below.new wr (.cells #[.string dn, .slice (some ⟨xb, xo, none⟩) n1 cap1, .string vl] 89)
        have r0 := (show Blk _ _ _ _ from heap_alloc_new wr (.cells #[.string dn, .slice (some ⟨xb, xo, none⟩) n1 cap1, .string vl] 89)).cell
        have q0 : (wr.alloc (.cells #[.string dn, .slice (some ⟨xb, xo, none⟩) n1 cap1, .string vl] 89)).cell? ⟨wr.heap.size, 0, none⟩ = some (.string dn) := r0 0
        have q1 : (wr.alloc (.cells #[.string dn, .slice (some ⟨xb, xo, none⟩) n1 cap1, .string vl] 89)).cell? ⟨wr.heap.size, 1, none⟩ = some (.slice (some ⟨xb, xo, none⟩) n1 cap1) := r0 1
        have HWn := Lib.hid hWn
        clear r0 hWn
        have xk := cell_later HWn.out x0
        clear x0
        go_wp2_with fail
        go_region_held3 (fun w' => w'.cell? ⟨wr.heap.size, 0, none⟩ = some (.string dn) ∧ w'.cell? ⟨wr.heap.size, 1, none⟩ = some (.slice (some ⟨xb, xo, none⟩) n1 cap1))
         (first | exact ⟨q0, q1⟩ | exact ⟨cell_later hb1 q0, cell_later hb1 q1⟩)
         (first | (go_at_call 302; refine (HKI.out _ _ (by exact HWn.out.drew)).mono ?_; rintro e w1 ⟨rfl, z1, hw1⟩; have hb1 := hb_of hw1; clear hw1))
        have HBZ := Lib.hid (HWn.out.later hb1)
        have x1 := cell_later hb1 xk
        have z1' := cell_later hb1 q1
        clear hb1 HWn q0 q1 xk p0 k0 k1 k2 HKI
        cases y
        · have HBF := Lib.hid (HB.out.trans (HBZ.out.mono (by omega)))
          have HE2 : Hid (b = D (k + 1)) := by
           unfold Hid
           rw [HN.out, if_neg (by simp)]
          clear HN HORD
          go_wp2_with fail
          go_roundw
          case rel => exact ⟨k + 1, b, by omega, rfl, by go_num, HE2.out, hbz, HBF.out⟩
          case measure => simp [intOf]; omega
        · rw [if_pos rfl] at HN
          cases back
          · rw [if_neg Bool.false_ne_true] at HN
            by_cases hL0 : L = ⟨#[]⟩
            · have el1 : L.toList.isEmpty = true := by rw [hL0, toList_data]; rfl
              have HL0e := Lib.hid hL0
              clear hL0
              by_cases hb0 : b = ⟨#[]⟩
              · have eb1 : b.toList.isEmpty = true := by rw [hb0, toList_data]; rfl
                have HB0e := Lib.hid hb0
                clear hb0
                have HBF := Lib.hid (HB.out.trans (HBZ.out.mono (by omega)))
                have HE2 : Hid (X = D (k + 1)) := by
                 unfold Hid
                 rw [HN.out, if_pos (by rw [decide_eq_true HL0e.out, Bool.true_or, Bool.true_and]; simp [HB0e.out])]
                clear HN HORD
                go_wp2_with fail
                go_roundw
                case rel => exact ⟨k + 1, X, by omega, rfl, by go_num, HE2.out, hxz, HBF.out⟩
                case measure => simp [intOf]; omega
              · have eb1 := str_emp hb0
                have HB0e := Lib.hid hb0
                clear hb0
                have HKb := Lib.hid (fun W (hW : Below w1.heap.size w1 W) => HKB.out W X b hxz hbz)
                generalize hyy : beforeB X b = yb at *
                have HYY := Lib.hid hyy
                clear hyy
                go_wp2_with fail
                refine (HKb.out _ (Below.refl _ _)).mono ?_
                rintro e w2 ⟨rfl, hb2⟩
                have HBF := Lib.hid (HB.out.trans ((HBZ.out.later hb2).mono (by omega)))
                clear hb2
                cases yb
                · have HE2 : Hid (b = D (k + 1)) := by
                   unfold Hid
                   rw [HN.out, if_neg (by rw [decide_eq_true HL0e.out, Bool.true_or, Bool.true_and]; simp [HB0e.out, HYY.out])]
                  clear HN HORD
                  go_wp2_with fail
                  go_roundw
                  case rel => exact ⟨k + 1, b, by omega, rfl, by go_num, HE2.out, hbz, HBF.out⟩
                  case measure => simp [intOf]; omega
                · have HE2 : Hid (X = D (k + 1)) := by
                   unfold Hid
                   rw [HN.out, if_pos (by rw [decide_eq_true HL0e.out, Bool.true_or, Bool.true_and]; simp [HB0e.out, HYY.out])]
                  clear HN HORD
                  go_wp2_with fail
                  go_roundw
                  case rel => exact ⟨k + 1, X, by omega, rfl, by go_num, HE2.out, hxz, HBF.out⟩
                  case measure => simp [intOf]; omega
            · have el1 := str_emp hL0
              have HL0e := Lib.hid hL0
              clear hL0
              have HKa := Lib.hid (fun W (hW : Below w1.heap.size w1 W) => HKB.out W L X hLz hxz)
              generalize hya : beforeB L X = ya at *
              have HYA := Lib.hid hya
              clear hya
              go_wp2_with fail
              refine (HKa.out _ (Below.refl _ _)).mono ?_
              rintro e w1' ⟨rfl, hb1'⟩
              have HBZ' := Lib.hid (HBZ.out.later hb1')
              clear hb1' HBZ HKa
              have HBZ := HBZ'
              clear HBZ'
              rename_i wOld
              cases ya
              · have HBF := Lib.hid (HB.out.trans (HBZ.out.mono (by omega)))
                have HE2 : Hid (b = D (k + 1)) := by
                 unfold Hid
                 rw [HN.out, if_neg (by simp [HL0e.out, HYA.out])]
                clear HN HORD
                go_wp2_with fail
                go_roundw
                case rel => exact ⟨k + 1, b, by omega, rfl, by go_num, HE2.out, hbz, HBF.out⟩
                case measure => simp [intOf]; omega
              · by_cases hb0 : b = ⟨#[]⟩
                · have eb1 : b.toList.isEmpty = true := by rw [hb0, toList_data]; rfl
                  have HB0e := Lib.hid hb0
                  clear hb0
                  have HBF := Lib.hid (HB.out.trans (HBZ.out.mono (by omega)))
                  have HE2 : Hid (X = D (k + 1)) := by
                   unfold Hid
                   rw [HN.out, if_pos (by rw [decide_eq_false HL0e.out, Bool.false_or]; simp [HB0e.out])]
                  clear HN HORD
                  go_wp2_with fail
                  go_roundw
                  case rel => exact ⟨k + 1, X, by omega, rfl, by go_num, HE2.out, hxz, HBF.out⟩
                  case measure => simp [intOf]; omega
                · have eb1 := str_emp hb0
                  have HB0e := Lib.hid hb0
                  clear hb0
                  have HKb := Lib.hid (fun W (hW : Below w1'.heap.size w1' W) => HKB.out W X b hxz hbz)
                  generalize hyy : beforeB X b = yb at *
                  have HYY := Lib.hid hyy
                  clear hyy
                  go_wp2_with fail
                  refine (HKb.out _ (Below.refl _ _)).mono ?_
                  rintro e w2 ⟨rfl, hb2⟩
                  have HBF := Lib.hid (HB.out.trans ((HBZ.out.later hb2).mono (by omega)))
                  clear hb2
                  cases yb
                  · have HE2 : Hid (b = D (k + 1)) := by
                     unfold Hid
                     rw [HN.out, if_neg (by rw [decide_eq_false HL0e.out, Bool.false_or]; simp [HB0e.out, HYY.out])]
                    clear HN HORD
                    go_wp2_with fail
                    go_roundw
                    case rel => exact ⟨k + 1, b, by omega, rfl, by go_num, HE2.out, hbz, HBF.out⟩
                    case measure => simp [intOf]; omega
                  · have HE2 : Hid (X = D (k + 1)) := by
                     unfold Hid
                     rw [HN.out, if_pos (by rw [decide_eq_false HL0e.out, Bool.false_or]; simp [HB0e.out, HYY.out])]
                    clear HN HORD
                    go_wp2_with fail
                    go_roundw
                    case rel => exact ⟨k + 1, X, by omega, rfl, by go_num, HE2.out, hxz, HBF.out⟩
                    case measure => simp [intOf]; omega
          · rw [if_pos rfl] at HN
            by_cases hL0 : L = ⟨#[]⟩
            · have el1 : L.toList.isEmpty = true := by rw [hL0, toList_data]; rfl
              have HL0e := Lib.hid hL0
              clear hL0
              by_cases hb0 : b = ⟨#[]⟩
              · have eb1 : b.toList.isEmpty = true := by rw [hb0, toList_data]; rfl
                have HB0e := Lib.hid hb0
                clear hb0
                have HBF := Lib.hid (HB.out.trans (HBZ.out.mono (by omega)))
                have HE2 : Hid (X = D (k + 1)) := by
                 unfold Hid
                 rw [HN.out, if_pos (by rw [decide_eq_true HL0e.out, Bool.true_or, Bool.true_and]; simp [HB0e.out])]
                clear HN HORD
                go_wp2_with fail
                go_roundw
                case rel => exact ⟨k + 1, X, by omega, rfl, by go_num, HE2.out, hxz, HBF.out⟩
                case measure => simp [intOf]; omega
              · have eb1 := str_emp hb0
                have HB0e := Lib.hid hb0
                clear hb0
                have HKb := Lib.hid (fun W (hW : Below w1.heap.size w1 W) => HKB.out W b X hbz hxz)
                generalize hyy : beforeB b X = yb at *
                have HYY := Lib.hid hyy
                clear hyy
                go_wp2_with fail
                refine (HKb.out _ (Below.refl _ _)).mono ?_
                rintro e w2 ⟨rfl, hb2⟩
                have HBF := Lib.hid (HB.out.trans ((HBZ.out.later hb2).mono (by omega)))
                clear hb2
                cases yb
                · have HE2 : Hid (b = D (k + 1)) := by
                   unfold Hid
                   rw [HN.out, if_neg (by rw [decide_eq_true HL0e.out, Bool.true_or, Bool.true_and]; simp [HB0e.out, HYY.out])]
                  clear HN HORD
                  go_wp2_with fail
                  go_roundw
                  case rel => exact ⟨k + 1, b, by omega, rfl, by go_num, HE2.out, hbz, HBF.out⟩
                  case measure => simp [intOf]; omega
                · have HE2 : Hid (X = D (k + 1)) := by
                   unfold Hid
                   rw [HN.out, if_pos (by rw [decide_eq_true HL0e.out, Bool.true_or, Bool.true_and]; simp [HB0e.out, HYY.out])]
                  clear HN HORD
                  go_wp2_with fail
                  go_roundw
                  case rel => exact ⟨k + 1, X, by omega, rfl, by go_num, HE2.out, hxz, HBF.out⟩
                  case measure => simp [intOf]; omega
            · have el1 := str_emp hL0
              have HL0e := Lib.hid hL0
              clear hL0
              have HKa := Lib.hid (fun W (hW : Below w1.heap.size w1 W) => HKB.out W X L hxz hLz)
              generalize hya : beforeB X L = ya at *
              have HYA := Lib.hid hya
              clear hya
              go_wp2_with fail
              refine (HKa.out _ (Below.refl _ _)).mono ?_
              rintro e w1' ⟨rfl, hb1'⟩
              have HBZ' := Lib.hid (HBZ.out.later hb1')
              clear hb1' HBZ HKa
              have HBZ := HBZ'
              clear HBZ'
              rename_i wOld
              cases ya
              · have HBF := Lib.hid (HB.out.trans (HBZ.out.mono (by omega)))
                have HE2 : Hid (b = D (k + 1)) := by
                 unfold Hid
                 rw [HN.out, if_neg (by simp [HL0e.out, HYA.out])]
                clear HN HORD
                go_wp2_with fail
                go_roundw
                case rel => exact ⟨k + 1, b, by omega, rfl, by go_num, HE2.out, hbz, HBF.out⟩
                case measure => simp [intOf]; omega
              · by_cases hb0 : b = ⟨#[]⟩
                · have eb1 : b.toList.isEmpty = true := by rw [hb0, toList_data]; rfl
                  have HB0e := Lib.hid hb0
                  clear hb0
                  have HBF := Lib.hid (HB.out.trans (HBZ.out.mono (by omega)))
                  have HE2 : Hid (X = D (k + 1)) := by
                   unfold Hid
                   rw [HN.out, if_pos (by rw [decide_eq_false HL0e.out, Bool.false_or]; simp [HB0e.out])]
                  clear HN HORD
                  go_wp2_with fail
                  go_roundw
                  case rel => exact ⟨k + 1, X, by omega, rfl, by go_num, HE2.out, hxz, HBF.out⟩
                  case measure => simp [intOf]; omega
                · have eb1 := str_emp hb0
                  have HB0e := Lib.hid hb0
                  clear hb0
                  have HKb := Lib.hid (fun W (hW : Below w1'.heap.size w1' W) => HKB.out W b X hbz hxz)
                  generalize hyy : beforeB b X = yb at *
                  have HYY := Lib.hid hyy
                  clear hyy
                  go_wp2_with fail
                  refine (HKb.out _ (Below.refl _ _)).mono ?_
                  rintro e w2 ⟨rfl, hb2⟩
                  have HBF := Lib.hid (HB.out.trans ((HBZ.out.later hb2).mono (by omega)))
                  clear hb2
                  cases yb
                  · have HE2 : Hid (b = D (k + 1)) := by
                     unfold Hid
                     rw [HN.out, if_neg (by rw [decide_eq_false HL0e.out, Bool.false_or]; simp [HB0e.out, HYY.out])]
                    clear HN HORD
                    go_wp2_with fail
                    go_roundw
                    case rel => exact ⟨k + 1, b, by omega, rfl, by go_num, HE2.out, hbz, HBF.out⟩
                    case measure => simp [intOf]; omega
                  · have HE2 : Hid (X = D (k + 1)) := by
                     unfold Hid
                     rw [HN.out, if_pos (by rw [decide_eq_false HL0e.out, Bool.false_or]; simp [HB0e.out, HYY.out])]
                    clear HN HORD
                    go_wp2_with fail
                    go_roundw
                    case rel => exact ⟨k + 1, X, by omega, rfl, by go_num, HE2.out, hxz, HBF.out⟩
                    case measure => simp [intOf]; omega
      · have hle2 : (n1 : Int) < (m : Int) + 1 := by omega
        have hle3 : decide ((n1 : Int) < (m : Int) + 1) = true := decide_eq_true hle2
        have hle4 : decide (n1 < m + 1) = true := decide_eq_true (by omega)
        have hle5 : n1 < m + 1 := by omega
        rw [decide_eq_false hle, Bool.and_false, Bool.and_false] at HN
        generalize d.name = dn at *
        generalize d.val = vl at *
        clear HSS
        subst hnm
        have hWn := Below.new wr (.cells #[.string dn, .slice A1 n1 cap1, .string vl] 89)
        have r0 := (show Blk _ _ _ _ from heap_alloc_new wr (.cells #[.string dn, .slice A1 n1 cap1, .string vl] 89)).cell
        have q0 : (wr.alloc (.cells #[.string dn, .slice A1 n1 cap1, .string vl] 89)).cell? ⟨wr.heap.size, 0, none⟩ = some (.string dn) := r0 0
        have q1 : (wr.alloc (.cells #[.string dn, .slice A1 n1 cap1, .string vl] 89)).cell? ⟨wr.heap.size, 1, none⟩ = some (.slice A1 n1 cap1) := r0 1
        have HWn := Lib.hid hWn
        clear r0 hWn
        go_wp2_with fail
        go_quiet (fail)
        have HBF := Lib.hid (below_drewN (HB.out.trans (HWn.out.mono (by omega))) nq)
        have HE2 : Hid (b = D (k + 1)) := by
         unfold Hid
         rw [HN.out, if_neg (by simp)]
        clear HN HORD
        go_wp2_with fail
        go_roundw
        case rel => exact ⟨k + 1, b, by omega, rfl, by go_num, HE2.out, hbz, HBF.out⟩
        case measure => simp [intOf]; omega
    · rw [decide_eq_false hnm, Bool.false_and] at HN
      have hne1 := str_beq hnm
      have hne2 := str_bne hnm
      generalize d.name = dn at *
      generalize d.val = vl at *
      clear HSS hnm
      have hWn := Below.new wr (.cells #[.string dn, .slice A1 n1 cap1, .string vl] 89)
      have r0 := (show Blk _ _ _ _ from heap_alloc_new wr (.cells #[.string dn, .slice A1 n1 cap1, .string vl] 89)).cell
      have q0 : (wr.alloc (.cells #[.string dn, .slice A1 n1 cap1, .string vl] 89)).cell? ⟨wr.heap.size, 0, none⟩ = some (.string dn) := r0 0
      have q1 : (wr.alloc (.cells #[.string dn, .slice A1 n1 cap1, .string vl] 89)).cell? ⟨wr.heap.size, 1, none⟩ = some (.slice A1 n1 cap1) := r0 1
      have HWn := Lib.hid hWn
      clear r0 hWn
      go_wp2_with fail
      go_quiet (fail)
      have HBF := Lib.hid (below_drewN (HB.out.trans (HWn.out.mono (by omega))) nq)
      have HE2 : Hid (b = D (k + 1)) := by
       unfold Hid
       rw [HN.out, if_neg (by simp)]
      clear HN HORD
      go_wp2_with fail
      go_roundw
      case rel => exact ⟨k + 1, b, by omega, rfl, by go_num, HE2.out, hbz, HBF.out⟩
      case measure => simp [intOf]; omega
  · obtain rfl : k = n := by omega
    have HE : Hid (b = OUT) := by unfold Hid; rw [HZ.out, HA2.out]
    go_wp2_with fail
    go_ret
    exact ⟨by first | rfl | (rw [HE.out]; rfl), HBw.out⟩
set_option maxRecDepth 100000 in
set_option maxHeartbeats 16000000 in
theorem order_any (A : Option Addr) (n c : Nat) (fs : List NodeD) (nm : ByteArray) (S : Option Addr) (m q : Nat) (ss : List ByteArray) (back : Bool) (w : World) (htab : tabT w) (h : Nodes w w.heap.size A n fs) (hs : smallNs fs) (h' : Strs w w.heap.size S (m + 1) ss) (hmq : m + 1 ≤ q) (hm : m + 1 ≤ 1048576) (hz : ∀ s ∈ ss, s.size ≤ 1048576) :
 Calls Tryz.prog 246 #[.agg #[.slice A n c], .string nm, .slice S (m + 1) q, .bool back] w fun e w' => e = .returned (.string (ordF nm ss back fs)) ∧ Below w.heap.size w w' := by
 have Hh := Lib.hid h
 have Hlen := Lib.hid h.1
 have hn : n ≤ 1048576 := by rw [← h.1]; exact hs.1
 have hl0 : fs.length = n := h.1
 have Hs := Lib.hid hs
 have Hst := Lib.hid h'
 have Hsl : Hid (ss.length = m + 1) := h'.1
 obtain ⟨sb, so, rfl, hsb, hsc⟩ := h'.2 (by omega)
 have hlast := hsc m (by omega)
 have HLS : Hid (ss.getD m ByteArray.empty = lastS ss) := by unfold Hid lastS; rw [h'.1, Nat.add_sub_cancel]
 rw [HLS.out] at hlast
 have hLz : (lastS ss).size ≤ 1048576 := by rw [← HLS.out]; exact hz _ (Own.mem_of_getD ss m _ (by rw [h'.1]; omega))
 have HALL : Hid (ordF nm ss back (fs.take n) = ordF nm ss back fs) := by unfold Hid; rw [List.take_of_length_le (by omega)]
 have HSN : Hid (∀ k, k < n → ordF nm ss back (fs.take (k + 1)) = ordN nm ss back (fs.getD k default) (ordF nm ss back (fs.take k))) := fun k hk => ord_snoc nm ss back fs k (by omega)
 have HKB := Lib.hid (fun W (hW : Below w.heap.size w W) a b (ha : a.size ≤ 1048576) (hb : b.size ≤ 1048576) => Before_any a b W (tab_later htab hW) ha hb)
 clear h hs h' hl0 hsc HLS hz htab
 generalize ordF nm ss back fs = OUT at *
 generalize hD : (fun k => ordF nm ss back (fs.take k)) = D at *
 have HD : Hid (∀ k, ordF nm ss back (fs.take k) = D k) := by subst hD; exact fun _ => rfl
 have HD0 : Hid (D 0 = ⟨#[]⟩) := by subst hD; rfl
 clear hD
 have HS2 : Hid (∀ k, k < n → D (k + 1) = ordN nm ss back (fs.getD k default) (D k)) := fun k hk => by rw [← HD.out, ← HD.out]; exact HSN.out k hk
 have HA2 : Hid (D n = OUT) := by unfold Hid; rw [← HD.out]; exact HALL.out
 clear HSN HALL HD
 have HLV : Hid (lastS ss = lastS ss) := rfl
 have HORD : Hid (∀ d best, ordN nm ss back d best = if (decide (d.name = nm) && (startsB (ss.take m) d.subs && decide (m + 1 ≤ d.subs.length))) = true then
  (if (if back = true then (decide (lastS ss = ⟨#[]⟩) || beforeB (d.subs.getD m ByteArray.empty) (lastS ss)) && (decide (best = ⟨#[]⟩) || beforeB best (d.subs.getD m ByteArray.empty))
    else (decide (lastS ss = ⟨#[]⟩) || beforeB (lastS ss) (d.subs.getD m ByteArray.empty)) && (decide (best = ⟨#[]⟩) || beforeB (d.subs.getD m ByteArray.empty) best)) = true
  then d.subs.getD m ByteArray.empty else best)
 else best) := fun d best => by unfold ordN inN; rw [Hsl.out, Nat.add_sub_cancel, Bool.and_assoc]
 generalize lastS ss = L at *
 clear HLV
 go_enter Tryz.func246, Tryz.ntmps246
 go_wp2_with fail
 go_loopw [10, 25] (fun o i wr => ∃ (k : Nat) (b : ByteArray), k ≤ n ∧ o = .string b ∧ i = .int .i64 k ∧ Hid (b = D k) ∧ b.size ≤ 1048576 ∧ Below (w.heap.size + 1) (w.alloc (.cells #[.slice A n c] 26)) wr) (fun _ i _ => n - (intOf i).toNat)
 case atStart => exact ⟨0, ⟨#[]⟩, Nat.zero_le _, rfl, rfl, HD0.out.symm, by decide, Below.refl _ _⟩
 case round =>
  obtain ⟨k, b, hk, rfl, rfl, HZ, hbz, hb⟩ := hrel
  have p0 := (Blk.later (heap_alloc_new w _) hb (by omega)).cell 0
  have hzz : w.heap.size < wr.heap.size := by have := hb.size; simp at this; omega
  have HB := Lib.hid hb
  have HBw := Lib.hid ((Below.new _ _).trans (hb.mono (by omega)))
  simp at p0
  clear hb
  by_cases hlt : k < n
  · have hki : (k : Int) < (n : Int) := by omega
    obtain ⟨bb, o, rfl, hbB, hc⟩ := (Hh.out.later HBw.out).2 (by omega)
    obtain ⟨c0, c1, c2, k0, k1, k2, hr⟩ := hc k hlt
    have HSK := Lib.hid (HS2.out k hlt)
    have hsm := Hs.out.2 _ (getD_memD fs k (by rw [Hlen.out]; exact hlt))
    clear hc
    generalize fs.getD k default = d at *
    have HOD := Lib.hid (HORD.out d b)
    obtain ⟨rfl, ⟨A1, n1, cap1, rfl, hs1, hcap1⟩, rfl⟩ := hr
    have hn1 : n1 ≤ 1048576 := by rw [← hs1.1]; exact hsm.2.1.1
    have HN : Hid (D (k + 1) = ordN nm ss back d b) := by unfold Hid; rw [HSK.out, ← HZ.out]
    rw [HOD.out, hs1.1] at HN
    have HS1 := Lib.hid hs1
    have HSM := Lib.hid hsm
    have HSS : Hid (∀ W, Below wr.heap.size wr W → Strs W W.heap.size (some ⟨sb, so, none⟩) m (ss.take m)) := fun W hW => (Hst.out.later (HBw.out.later hW)).take m (by omega)
    clear HSK HOD hs1 hsm
    by_cases hnm : d.name = nm
    · by_cases hle : m + 1 ≤ n1
      · have HKI := Lib.hid (fun W cp cq (hW : Below wr.heap.size wr W) => slicesEqual_any A1 (some ⟨sb, so, none⟩) m cp m cq (d.subs.take m) (ss.take m) W ((HS1.out.later hW).take m (by omega)) (HSS.out W hW) (by omega) (by omega))
        have HY : Hid (eqS (d.subs.take m) (ss.take m) = startsB (ss.take m) d.subs) := by
         unfold Hid
         rw [← startsB_take (ss.take m) d.subs, List.length_take, Hsl.out, show min m (m + 1) = m by omega, HS1.out.1, decide_eq_true (show m ≤ n1 by omega)]
         rfl
        obtain ⟨xb, xo, rfl, hxb, hxc⟩ := HS1.out.2 (by omega)
        have x0 := hxc m (by omega)
        have hxz : (d.subs.getD m ByteArray.empty).size ≤ 1048576 := HSM.out.2.1.2 _ (Own.mem_of_getD d.subs m _ (by rw [HS1.out.1]; omega))
        rw [decide_eq_true hnm, decide_eq_true hle, Bool.true_and, Bool.and_true] at HN
        rw [HY.out] at HKI
        have hle2 : ¬ (n1 : Int) < (m : Int) + 1 := by omega
        have hle3 : decide ((n1 : Int) < (m : Int) + 1) = false := decide_eq_false hle2
        have hle4 : decide (n1 < m + 1) = false := decide_eq_false (by omega)
        have hle5 : ¬ n1 < m + 1 := by omega
        have hq0 : ¬ q = 0 := by omega
        have hmq1 : m ≤ q := by omega
        have hmqI : (m : Int) ≤ (q : Int) := by omega
        have hm0I : (0 : Int) ≤ (m : Int) := by omega
        have hwm : IntKind.i64.wrap ((m : Int) + 1 - 1) = (m : Int) := by rw [IntKind.wrap_i64]; omega
        have hwm2 : IntKind.i64.wrap (m : Int) = (m : Int) := by rw [IntKind.wrap_i64]; omega
        have hcp1 : m ≤ cap1 := by omega
        have hcpI : (m : Int) ≤ (cap1 : Int) := by omega
        have hcp0 : ¬ cap1 = 0 := by omega
        have htnm : (m : Int).toNat = m := by omega
        clear hxc HY HSS
        generalize startsB (ss.take m) d.subs = y at *
        generalize d.subs.getD m ByteArray.empty = X at *
        generalize d.name = dn at *
        generalize d.val = vl at *
        subst hnm
        have hWn := Below.new wr (.cells #[.string dn, .slice (some ⟨xb, xo, none⟩) n1 cap1, .string vl] 89)
        have r0 := (show Blk _ _ _ _ from heap_alloc_new wr (.cells #[.string dn, .slice (some ⟨xb, xo, none⟩) n1 cap1, .string vl] 89)).cell
        have q0 : (wr.alloc (.cells #[.string dn, .slice (some ⟨xb, xo, none⟩) n1 cap1, .string vl] 89)).cell? ⟨wr.heap.size, 0, none⟩ = some (.string dn) := r0 0
        have q1 : (wr.alloc (.cells #[.string dn, .slice (some ⟨xb, xo, none⟩) n1 cap1, .string vl] 89)).cell? ⟨wr.heap.size, 1, none⟩ = some (.slice (some ⟨xb, xo, none⟩) n1 cap1) := r0 1
        have HWn := Lib.hid hWn
        clear r0 hWn
        have xk := cell_later HWn.out x0
        clear x0
        go_wp2_with fail
        go_region_held3 (fun w' => w'.cell? ⟨wr.heap.size, 0, none⟩ = some (.string dn) ∧ w'.cell? ⟨wr.heap.size, 1, none⟩ = some (.slice (some ⟨xb, xo, none⟩) n1 cap1))
         (first | exact ⟨q0, q1⟩ | exact ⟨cell_later hb1 q0, cell_later hb1 q1⟩)
         (first | (go_at_call 201; refine (HKI.out _ _ _ (by exact HWn.out.drew)).mono ?_; rintro e w1 ⟨rfl, z1, hw1⟩; have hb1 := hb_of hw1; clear hw1))
        have HBZ := Lib.hid (HWn.out.later hb1)
        have x1 := cell_later hb1 xk
        have z1' := cell_later hb1 q1
        clear hb1 HWn q0 q1 xk p0 k0 k1 k2 HKI
        cases y
        · have HBF := Lib.hid (HB.out.trans (HBZ.out.mono (by omega)))
          have HE2 : Hid (b = D (k + 1)) := by
           unfold Hid
           rw [HN.out, if_neg (by simp)]
          clear HN HORD
          go_wp2_with fail
          go_roundw
          case rel => exact ⟨k + 1, b, by omega, rfl, by go_num, HE2.out, hbz, HBF.out⟩
          case measure => simp [intOf]; omega
        · rw [if_pos rfl] at HN
          cases back
          · rw [if_neg Bool.false_ne_true] at HN
            by_cases hL0 : L = ⟨#[]⟩
            · have el1 : L.toList.isEmpty = true := by rw [hL0, toList_data]; rfl
              have HL0e := Lib.hid hL0
              clear hL0
              by_cases hb0 : b = ⟨#[]⟩
              · have eb1 : b.toList.isEmpty = true := by rw [hb0, toList_data]; rfl
                have HB0e := Lib.hid hb0
                clear hb0
                have HBF := Lib.hid (HB.out.trans (HBZ.out.mono (by omega)))
                have HE2 : Hid (X = D (k + 1)) := by
                 unfold Hid
                 rw [HN.out, if_pos (by rw [decide_eq_true HL0e.out, Bool.true_or, Bool.true_and]; simp [HB0e.out])]
                clear HN HORD
                go_wp2_with fail
                go_roundw
                case rel => exact ⟨k + 1, X, by omega, rfl, by go_num, HE2.out, hxz, HBF.out⟩
                case measure => simp [intOf]; omega
              · have eb1 := str_emp hb0
                have HB0e := Lib.hid hb0
                clear hb0
                have HKb := Lib.hid (fun W (hW : Below w1.heap.size w1 W) => HKB.out W (HBw.out.later (HBZ.out.later hW)) X b hxz hbz)
                generalize hyy : beforeB X b = yb at *
                have HYY := Lib.hid hyy
                clear hyy
                go_wp2_with fail
                refine (HKb.out _ (Below.refl _ _)).mono ?_
                rintro e w2 ⟨rfl, hb2⟩
                have HBF := Lib.hid (HB.out.trans ((HBZ.out.later hb2).mono (by omega)))
                clear hb2
                cases yb
                · have HE2 : Hid (b = D (k + 1)) := by
                   unfold Hid
                   rw [HN.out, if_neg (by rw [decide_eq_true HL0e.out, Bool.true_or, Bool.true_and]; simp [HB0e.out, HYY.out])]
                  clear HN HORD
                  go_wp2_with fail
                  go_roundw
                  case rel => exact ⟨k + 1, b, by omega, rfl, by go_num, HE2.out, hbz, HBF.out⟩
                  case measure => simp [intOf]; omega
                · have HE2 : Hid (X = D (k + 1)) := by
                   unfold Hid
                   rw [HN.out, if_pos (by rw [decide_eq_true HL0e.out, Bool.true_or, Bool.true_and]; simp [HB0e.out, HYY.out])]
                  clear HN HORD
                  go_wp2_with fail
                  go_roundw
                  case rel => exact ⟨k + 1, X, by omega, rfl, by go_num, HE2.out, hxz, HBF.out⟩
                  case measure => simp [intOf]; omega
            · have el1 := str_emp hL0
              have HL0e := Lib.hid hL0
              clear hL0
              have HKa := Lib.hid (fun W (hW : Below w1.heap.size w1 W) => HKB.out W (HBw.out.later (HBZ.out.later hW)) L X hLz hxz)
              generalize hya : beforeB L X = ya at *
              have HYA := Lib.hid hya
              clear hya
              go_wp2_with fail
              refine (HKa.out _ (Below.refl _ _)).mono ?_
              rintro e w1' ⟨rfl, hb1'⟩
              have HBZ' := Lib.hid (HBZ.out.later hb1')
              clear hb1' HBZ HKa
              have HBZ := HBZ'
              clear HBZ'
              rename_i wOld
              cases ya
              · have HBF := Lib.hid (HB.out.trans (HBZ.out.mono (by omega)))
                have HE2 : Hid (b = D (k + 1)) := by
                 unfold Hid
                 rw [HN.out, if_neg (by simp [HL0e.out, HYA.out])]
                clear HN HORD
                go_wp2_with fail
                go_roundw
                case rel => exact ⟨k + 1, b, by omega, rfl, by go_num, HE2.out, hbz, HBF.out⟩
                case measure => simp [intOf]; omega
              · by_cases hb0 : b = ⟨#[]⟩
                · have eb1 : b.toList.isEmpty = true := by rw [hb0, toList_data]; rfl
                  have HB0e := Lib.hid hb0
                  clear hb0
                  have HBF := Lib.hid (HB.out.trans (HBZ.out.mono (by omega)))
                  have HE2 : Hid (X = D (k + 1)) := by
                   unfold Hid
                   rw [HN.out, if_pos (by rw [decide_eq_false HL0e.out, Bool.false_or]; simp [HB0e.out])]
                  clear HN HORD
                  go_wp2_with fail
                  go_roundw
                  case rel => exact ⟨k + 1, X, by omega, rfl, by go_num, HE2.out, hxz, HBF.out⟩
                  case measure => simp [intOf]; omega
                · have eb1 := str_emp hb0
                  have HB0e := Lib.hid hb0
                  clear hb0
                  have HKb := Lib.hid (fun W (hW : Below w1'.heap.size w1' W) => HKB.out W (HBw.out.later (HBZ.out.later hW)) X b hxz hbz)
                  generalize hyy : beforeB X b = yb at *
                  have HYY := Lib.hid hyy
                  clear hyy
                  go_wp2_with fail
                  refine (HKb.out _ (Below.refl _ _)).mono ?_
                  rintro e w2 ⟨rfl, hb2⟩
                  have HBF := Lib.hid (HB.out.trans ((HBZ.out.later hb2).mono (by omega)))
                  clear hb2
                  cases yb
                  · have HE2 : Hid (b = D (k + 1)) := by
                     unfold Hid
                     rw [HN.out, if_neg (by rw [decide_eq_false HL0e.out, Bool.false_or]; simp [HB0e.out, HYY.out])]
                    clear HN HORD
                    go_wp2_with fail
                    go_roundw
                    case rel => exact ⟨k + 1, b, by omega, rfl, by go_num, HE2.out, hbz, HBF.out⟩
                    case measure => simp [intOf]; omega
                  · have HE2 : Hid (X = D (k + 1)) := by
                     unfold Hid
                     rw [HN.out, if_pos (by rw [decide_eq_false HL0e.out, Bool.false_or]; simp [HB0e.out, HYY.out])]
                    clear HN HORD
                    go_wp2_with fail
                    go_roundw
                    case rel => exact ⟨k + 1, X, by omega, rfl, by go_num, HE2.out, hxz, HBF.out⟩
                    case measure => simp [intOf]; omega
          · rw [if_pos rfl] at HN
            by_cases hL0 : L = ⟨#[]⟩
            · have el1 : L.toList.isEmpty = true := by rw [hL0, toList_data]; rfl
              have HL0e := Lib.hid hL0
              clear hL0
              by_cases hb0 : b = ⟨#[]⟩
              · have eb1 : b.toList.isEmpty = true := by rw [hb0, toList_data]; rfl
                have HB0e := Lib.hid hb0
                clear hb0
                have HBF := Lib.hid (HB.out.trans (HBZ.out.mono (by omega)))
                have HE2 : Hid (X = D (k + 1)) := by
                 unfold Hid
                 rw [HN.out, if_pos (by rw [decide_eq_true HL0e.out, Bool.true_or, Bool.true_and]; simp [HB0e.out])]
                clear HN HORD
                go_wp2_with fail
                go_roundw
                case rel => exact ⟨k + 1, X, by omega, rfl, by go_num, HE2.out, hxz, HBF.out⟩
                case measure => simp [intOf]; omega
              · have eb1 := str_emp hb0
                have HB0e := Lib.hid hb0
                clear hb0
                have HKb := Lib.hid (fun W (hW : Below w1.heap.size w1 W) => HKB.out W (HBw.out.later (HBZ.out.later hW)) b X hbz hxz)
                generalize hyy : beforeB b X = yb at *
                have HYY := Lib.hid hyy
                clear hyy
                go_wp2_with fail
                refine (HKb.out _ (Below.refl _ _)).mono ?_
                rintro e w2 ⟨rfl, hb2⟩
                have HBF := Lib.hid (HB.out.trans ((HBZ.out.later hb2).mono (by omega)))
                clear hb2
                cases yb
                · have HE2 : Hid (b = D (k + 1)) := by
                   unfold Hid
                   rw [HN.out, if_neg (by rw [decide_eq_true HL0e.out, Bool.true_or, Bool.true_and]; simp [HB0e.out, HYY.out])]
                  clear HN HORD
                  go_wp2_with fail
                  go_roundw
                  case rel => exact ⟨k + 1, b, by omega, rfl, by go_num, HE2.out, hbz, HBF.out⟩
                  case measure => simp [intOf]; omega
                · have HE2 : Hid (X = D (k + 1)) := by
                   unfold Hid
                   rw [HN.out, if_pos (by rw [decide_eq_true HL0e.out, Bool.true_or, Bool.true_and]; simp [HB0e.out, HYY.out])]
                  clear HN HORD
                  go_wp2_with fail
                  go_roundw
                  case rel => exact ⟨k + 1, X, by omega, rfl, by go_num, HE2.out, hxz, HBF.out⟩
                  case measure => simp [intOf]; omega
            · have el1 := str_emp hL0
              have HL0e := Lib.hid hL0
              clear hL0
              have HKa := Lib.hid (fun W (hW : Below w1.heap.size w1 W) => HKB.out W (HBw.out.later (HBZ.out.later hW)) X L hxz hLz)
              generalize hya : beforeB X L = ya at *
              have HYA := Lib.hid hya
              clear hya
              go_wp2_with fail
              refine (HKa.out _ (Below.refl _ _)).mono ?_
              rintro e w1' ⟨rfl, hb1'⟩
              have HBZ' := Lib.hid (HBZ.out.later hb1')
              clear hb1' HBZ HKa
              have HBZ := HBZ'
              clear HBZ'
              rename_i wOld
              cases ya
              · have HBF := Lib.hid (HB.out.trans (HBZ.out.mono (by omega)))
                have HE2 : Hid (b = D (k + 1)) := by
                 unfold Hid
                 rw [HN.out, if_neg (by simp [HL0e.out, HYA.out])]
                clear HN HORD
                go_wp2_with fail
                go_roundw
                case rel => exact ⟨k + 1, b, by omega, rfl, by go_num, HE2.out, hbz, HBF.out⟩
                case measure => simp [intOf]; omega
              · by_cases hb0 : b = ⟨#[]⟩
                · have eb1 : b.toList.isEmpty = true := by rw [hb0, toList_data]; rfl
                  have HB0e := Lib.hid hb0
                  clear hb0
                  have HBF := Lib.hid (HB.out.trans (HBZ.out.mono (by omega)))
                  have HE2 : Hid (X = D (k + 1)) := by
                   unfold Hid
                   rw [HN.out, if_pos (by rw [decide_eq_false HL0e.out, Bool.false_or]; simp [HB0e.out])]
                  clear HN HORD
                  go_wp2_with fail
                  go_roundw
                  case rel => exact ⟨k + 1, X, by omega, rfl, by go_num, HE2.out, hxz, HBF.out⟩
                  case measure => simp [intOf]; omega
                · have eb1 := str_emp hb0
                  have HB0e := Lib.hid hb0
                  clear hb0
                  have HKb := Lib.hid (fun W (hW : Below w1'.heap.size w1' W) => HKB.out W (HBw.out.later (HBZ.out.later hW)) b X hbz hxz)
                  generalize hyy : beforeB b X = yb at *
                  have HYY := Lib.hid hyy
                  clear hyy
                  go_wp2_with fail
                  refine (HKb.out _ (Below.refl _ _)).mono ?_
                  rintro e w2 ⟨rfl, hb2⟩
                  have HBF := Lib.hid (HB.out.trans ((HBZ.out.later hb2).mono (by omega)))
                  clear hb2
                  cases yb
                  · have HE2 : Hid (b = D (k + 1)) := by
                     unfold Hid
                     rw [HN.out, if_neg (by rw [decide_eq_false HL0e.out, Bool.false_or]; simp [HB0e.out, HYY.out])]
                    clear HN HORD
                    go_wp2_with fail
                    go_roundw
                    case rel => exact ⟨k + 1, b, by omega, rfl, by go_num, HE2.out, hbz, HBF.out⟩
                    case measure => simp [intOf]; omega
                  · have HE2 : Hid (X = D (k + 1)) := by
                     unfold Hid
                     rw [HN.out, if_pos (by rw [decide_eq_false HL0e.out, Bool.false_or]; simp [HB0e.out, HYY.out])]
                    clear HN HORD
                    go_wp2_with fail
                    go_roundw
                    case rel => exact ⟨k + 1, X, by omega, rfl, by go_num, HE2.out, hxz, HBF.out⟩
                    case measure => simp [intOf]; omega
      · have hle2 : (n1 : Int) < (m : Int) + 1 := by omega
        have hle3 : decide ((n1 : Int) < (m : Int) + 1) = true := decide_eq_true hle2
        have hle4 : decide (n1 < m + 1) = true := decide_eq_true (by omega)
        have hle5 : n1 < m + 1 := by omega
        rw [decide_eq_false hle, Bool.and_false, Bool.and_false] at HN
        generalize d.name = dn at *
        generalize d.val = vl at *
        clear HSS
        subst hnm
        have hWn := Below.new wr (.cells #[.string dn, .slice A1 n1 cap1, .string vl] 89)
        have r0 := (show Blk _ _ _ _ from heap_alloc_new wr (.cells #[.string dn, .slice A1 n1 cap1, .string vl] 89)).cell
        have q0 : (wr.alloc (.cells #[.string dn, .slice A1 n1 cap1, .string vl] 89)).cell? ⟨wr.heap.size, 0, none⟩ = some (.string dn) := r0 0
        have q1 : (wr.alloc (.cells #[.string dn, .slice A1 n1 cap1, .string vl] 89)).cell? ⟨wr.heap.size, 1, none⟩ = some (.slice A1 n1 cap1) := r0 1
        have HWn := Lib.hid hWn
        clear r0 hWn
        go_wp2_with fail
        go_quiet (fail)
        have HBF := Lib.hid (below_drewN (HB.out.trans (HWn.out.mono (by omega))) nq)
        have HE2 : Hid (b = D (k + 1)) := by
         unfold Hid
         rw [HN.out, if_neg (by simp)]
        clear HN HORD
        go_wp2_with fail
        go_roundw
        case rel => exact ⟨k + 1, b, by omega, rfl, by go_num, HE2.out, hbz, HBF.out⟩
        case measure => simp [intOf]; omega
    · rw [decide_eq_false hnm, Bool.false_and] at HN
      have hne1 := str_beq hnm
      have hne2 := str_bne hnm
      generalize d.name = dn at *
      generalize d.val = vl at *
      clear HSS hnm
      have hWn := Below.new wr (.cells #[.string dn, .slice A1 n1 cap1, .string vl] 89)
      have r0 := (show Blk _ _ _ _ from heap_alloc_new wr (.cells #[.string dn, .slice A1 n1 cap1, .string vl] 89)).cell
      have q0 : (wr.alloc (.cells #[.string dn, .slice A1 n1 cap1, .string vl] 89)).cell? ⟨wr.heap.size, 0, none⟩ = some (.string dn) := r0 0
      have q1 : (wr.alloc (.cells #[.string dn, .slice A1 n1 cap1, .string vl] 89)).cell? ⟨wr.heap.size, 1, none⟩ = some (.slice A1 n1 cap1) := r0 1
      have HWn := Lib.hid hWn
      clear r0 hWn
      go_wp2_with fail
      go_quiet (fail)
      have HBF := Lib.hid (below_drewN (HB.out.trans (HWn.out.mono (by omega))) nq)
      have HE2 : Hid (b = D (k + 1)) := by
       unfold Hid
       rw [HN.out, if_neg (by simp)]
      clear HN HORD
      go_wp2_with fail
      go_roundw
      case rel => exact ⟨k + 1, b, by omega, rfl, by go_num, HE2.out, hbz, HBF.out⟩
      case measure => simp [intOf]; omega
  · obtain rfl : k = n := by omega
    have HE : Hid (b = OUT) := by unfold Hid; rw [HZ.out, HA2.out]
    go_wp2_with fail
    go_ret
    exact ⟨by first | rfl | (rw [HE.out]; rfl), HBw.out⟩
end Go.Proofs.YtlicffeicmoifaaGreatDoor
