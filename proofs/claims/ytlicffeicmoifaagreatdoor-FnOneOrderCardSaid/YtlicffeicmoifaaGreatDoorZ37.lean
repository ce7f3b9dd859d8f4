import Derived.Test.YtlicffeicmoifaaGreatDoorZ36
import Derived.Test.YtlicffeicmoifaaGreatDoorZ19
import Derived.Test.YtlicffeicmoifaaGreatDoorZ27
set_option linter.unusedSimpArgs false
namespace Go.Proofs.YtlicffeicmoifaaGreatDoor
open Go.RowKit
set_option linter.unusedVariables false
def PutIn (b base : Nat) (v : Value) (r : Int × List NodeD) (w : World) (w' : World) : Prop := Own.Chg (fun g => g = b ∨ v.ownBlock = some g) w w' ∧ (r.1 = 0 → ∃ v', Blk w' b 26 #[v'] ∧ NodesW w' base v' r.2)
set_option maxRecDepth 100000 in
set_option maxHeartbeats 8000000 in
theorem put_any (b base : Nat) (v : Value) (S : Option Addr) (m q : Nat) (fs : List NodeD) (nm : ByteArray) (ss : List ByteArray) (val : ByteArray) (w : World) (htab : tabT w) (hB : Blk w b 26 #[v]) (hN : NodesW w base v fs) (hbw : base ≤ w.heap.size) (ht : treeB fs = true) (hS : Strs w w.heap.size S m ss) (hmq : m ≤ q) (hd : (⟨nm, ss, val⟩ : NodeD).small) :
 Calls Tryz.prog 152 #[.pointer (some ⟨b, 0, none⟩), .string nm, .slice S m q, .string val] w fun e w' => e = .returned (.int .i64 (putB fs nm ss val).1) ∧ PutIn b base v (putB fs nm ss val) w w' := by
 obtain ⟨A, cap, rfl, hcap, hNN⟩ := hN.reads
 have HKP := Lib.hid (place_any A fs.length cap fs nm S m q ss w htab hNN ht hS hmq ⟨hd.1, hd.2.1, show ByteArray.empty.size ≤ 1048576 from by decide⟩)
 have hlen : fs.length ≤ 120 := treeB_len ht
 have hat := atN_le fs nm ss
 have HSET := Lib.hid (fun h => putN_set (v := val) (fs := fs) (nm := nm) (ss := ss) h)
 have HINS := Lib.hid (fun h => putN_ins (v := val) (fs := fs) (nm := nm) (ss := ss) h)
 have HR : Hid (putB fs nm ss val = if (!hasN fs nm ss && decide (120 ≤ fs.length)) = true then (4, []) else (0, putN fs nm ss val)) := rfl
 have HB := Lib.hid hB
 have HN := Lib.hid hN
 have HSS := Lib.hid hS
 have hm : m ≤ 1048576 := by rw [← hS.1]; exact hd.2.1.1
 clear hNN ht hd htab
 generalize putB fs nm ss val = R at *
 generalize putN fs nm ss val = P at *
 generalize atN fs nm ss = k at *
 have p0 := hB.cell 0
 have pz := hB.lt
 simp at p0
 go_enter Tryz.func152, Tryz.ntmps152
 cases hh : hasN fs nm ss
 · rw [hh] at HKP HR
   rw [Bool.not_false, Bool.true_and] at HR
   have HIN := Lib.hid (HINS.out hh)
   clear hh HSET HINS
   go_wp2_with fail
   refine HKP.out.mono ?_
   rintro e w1 ⟨rfl, hb1⟩
   have HB1 := Lib.hid hb1
   have HT1 := Lib.hid (hB.later hb1 hB.lt)
   have t0 := HT1.out.cell 0
   have tz := HT1.out.lt
   have tf := HT1.out.frozen 0
   simp at t0
   clear hb1 p0
   by_cases h120 : fs.length = 120
   · have HE : Hid (R = (4, [])) := by unfold Hid; rw [HR.out, if_pos (by rw [decide_eq_true_eq]; omega)]
     have hb : ((fs.length : Int) == (120 : Int)) = true := by simp; omega
     have hbi : (fs.length : Int) = 120 := by omega
     go_wp2_with fail
     go_ret
     exact ⟨by rw [HE.out]; rfl, (Own.Chg.of_below HB1.out), fun h => by rw [HE.out] at h; cases h⟩
   · have HE : Hid (R = (0, P)) := by unfold Hid; rw [HR.out, if_neg (by rw [decide_eq_true_eq]; omega)]
     have hb : ((fs.length : Int) == (120 : Int)) = false := beq_eq_false_iff_ne.2 (by omega)
     have hbi : ¬ (fs.length : Int) = 120 := by omega
     have hki : (k : Int) ≤ fs.length := by omega
     have HKC := Lib.hid (fun W (hW : Below w1.heap.size w1 W) => CloneS_any S m q ss W ((HSS.out.later HB1.out).later hW) hm)
     obtain ⟨cs, h1, h2⟩ := HN.out.later HB1.out
     have H1 := Lib.hid h1
     have H2 := Lib.hid h2
     have hbw1 : base ≤ w1.heap.size := Nat.le_trans hbw HB1.out.size
     clear h1 h2
     go_wp2_with fail
     go_region_law (first
      | (go_simp
         go_at_call 130
         refine (HKC.out _ (by exact (Below.refl _ _).drew)).mono ?_
         rintro e w4 ⟨v2, rfl, hs2, hb4'⟩
         have hb4 := undrew hb4'
         obtain ⟨A2, m2, c2, rfl⟩ : ∃ A2 m2 c2, v2 = .slice A2 m2 c2 := by obtain ⟨A, cap, e, _⟩ := Own.own_slice hs2; exact ⟨A, _, cap, e⟩
         have HB4 := Lib.hid (hb4.later (Below.new w4 (.cells #[.string nm, .slice A2 m2 c2, .string val] 89)))
         have HS2 : Hid (Own.SubO (w4.alloc (.cells #[.string nm, .slice A2 m2 c2, .string val] 89)) base (.slice A2 m2 c2) ss) := Own.own_later (Own.own_base hs2 (by simpa using hbw1)) (Below.new _ _)
         have HT4 := Lib.hid (HT1.out.later hb4 HT1.out.lt)
         have t4 := HT4.out.cell 0
         have tf4 := HT4.out.frozen 0
         have tz4 := HT4.out.lt
         simp at t4
         have hsz4 := hb4.size
         have HV4 : Hid (Blk (w4.alloc (.cells #[.string nm, .slice A2 m2 c2, .string val] 89)) w4.heap.size 89 #[.string nm, .slice A2 m2 c2, .string val]) := heap_alloc_new _ _
         have hvz : (Value.slice A fs.length cap).ownBlock ≠ some w4.heap.size := fun e => by have := (H1.out.lt _ e).2; omega
         clear hb4 hb4' hs2)
      | (go_simp
         go_at_call 229
         refine (InsertN_any base (.slice A fs.length cap) fs.length k cs w4.heap.size (.string nm) (.slice A2 m2 c2) (.string val) _ (Own.own_later H1.out HB4.out) (by omega) hat (by simp; omega) (H2.out.all fun c d hd => hd.one) HV4.out hvz (by simp [Value.oneCell'])).mono ?_
         rintro e w5 ⟨v5, rfl, h5, hg5⟩
         have HR5 : Hid (NodesW w5 base v5 (fs.take k ++ [⟨nm, ss, val⟩] ++ fs.drop k)) := NodesW.inserted (d := ⟨nm, ss, val⟩) hat (Own.own_later H1.out HB4.out) (H2.out.mono fun c d hd => hd.later HB4.out) HS2.out h5 hg5
         have HT5 := Lib.hid ((HT1.out.later HB4.out HT1.out.lt).grown hg5 (fun e => Own.own_blk_ne (Own.own_later H1.out HB4.out) (HT1.out.later HB4.out HT1.out.lt) (by decide) e.symm))
         have HC5 := Lib.hid (((Own.Chg.of_below HB1.out).trans (Own.Chg.of_below HB4.out)).trans (Own.Chg.of_grown (P := fun g => g = b ∨ (Value.slice A fs.length cap).ownBlock = some g) hg5 (fun g e => .inr e)))
         obtain ⟨A5, n5, cap5, rfl⟩ : ∃ A5 n5 cap5, v5 = .slice A5 n5 cap5 := by obtain ⟨A, cap, e, _⟩ := HR5.out.reads; exact ⟨_, _, _, e⟩
         have t5 := HT5.out.cell 0
         have tf5 := HT5.out.frozen 0
         have tz5 := HT5.out.lt
         simp at t5
         clear h5 hg5))
     all_goals
      have HFR : Hid (PutIn b base (.slice A fs.length cap) R w (w5.setCell ⟨b, 0, none⟩ (.slice A5 n5 cap5))) := by
       refine ⟨HC5.out.set (.inl rfl) _ _, fun _ => ⟨_, HT5.out.set_ 0 _, ?_⟩⟩
       rw [HE.out, HIN.out]
       exact HR5.out.setBlk HT5.out (by decide) (by decide)
      go_wp2_with fail
      go_ret
      exact ⟨by rw [HE.out]; rfl, HFR.out⟩
 · rw [hh] at HKP HR
   rw [Bool.not_true, Bool.false_and, if_neg (by decide)] at HR
   obtain ⟨hk, hP⟩ := HSET.out hh
   have HPE := Lib.hid hP
   clear hh HSET HINS hP
   go_wp2_with fail
   refine HKP.out.mono ?_
   rintro e w1 ⟨rfl, hb1⟩
   have HB1 := Lib.hid hb1
   have HT1 := Lib.hid (hB.later hb1 hB.lt)
   have hN1 := hN.later hb1
   have HN1 := Lib.hid hN1
   obtain ⟨cs, h1, h2⟩ := hN1
   rcases h1.2 with ⟨he, hz⟩ | ⟨g, cap', cur, he, hg, hheap, hle, _, hsz, htk⟩
   · exact absurd hk (by omega)
   injection he with he1 he2 he3
   subst he1 he3
   have HG : Hid (Blk w1 g 89 cur) := hheap
   have t0 := HT1.out.cell 0
   have tz := HT1.out.lt
   have hkz : k * 3 + 2 < cur.size := by rw [hsz]; omega
   have g2 : w1.cell? ⟨g, k * 3 + 2, none⟩ = some (cur[k * 3 + 2]'hkz) := by rw [HG.out.cell (k * 3 + 2)]; simp [hkz]
   have gf := HG.out.frozen (k * 3 + 2)
   have gz := HG.out.lt
   simp at t0
   have hki : (k : Int) < fs.length := by omega
   have HFR : Hid (PutIn b base (.slice (some ⟨g, 0, none⟩) fs.length cap) R w (w1.setCell ⟨g, k * 3 + 2, none⟩ (.string val))) := by
    refine ⟨((Own.Chg.of_below HB1.out)).set (.inr rfl) _ _, fun _ => ⟨_, HT1.out.far (p := ⟨g, k * 3 + 2, none⟩) (fun e => ?_) _, ?_⟩⟩
    · exact HN1.out.off HT1.out (by decide) (by rw [e]; rfl)
    · rw [HR.out, HPE.out]
      exact HN1.out.setVal val hk
   clear hb1 p0 h1 h2 hheap
   generalize cur[k * 3 + 2]'hkz = gv at *
   have HRC := Lib.hid hkz
   clear hkz hsz htk
   go_wp2_with fail
   go_ret
   exact ⟨by rw [HR.out]; rfl, HFR.out⟩
end Go.Proofs.YtlicffeicmoifaaGreatDoor
namespace Go.Proofs.YtlicffeicmoifaaGreatDoor
open Go.RowKit
set_option linter.unusedVariables false
theorem PutIn.lift {b base : Nat} {v : Value} {r : Int × List NodeD} {w W w' : World} (hb : Below w.heap.size w W) (h : PutIn b base v r W w') : PutIn b base v r w w' := ⟨(Own.Chg.of_below hb).trans h.1, h.2⟩
set_option maxRecDepth 100000 in
set_option maxHeartbeats 4000000 in
theorem change_any (b base : Nat) (v : Value) (S : Option Addr) (m q : Nat) (fs : List NodeD) (d : ChgD) (w : World) (htab : tabT w) (hB : Blk w b 26 #[v]) (hN : NodesW w base v fs) (hbw : base ≤ w.heap.size) (ht : treeB fs = true) (hS : Strs w w.heap.size S m d.subs) (hmq : m ≤ q) (hoff : offRow S v) (hd : d.small) :
 Calls Tryz.prog 181 #[.pointer (some ⟨b, 0, none⟩), .agg #[.int .i64 d.kind, .string d.name, .slice S m q, .string d.val]] w fun e w' => e = .returned (.int .i64 (doB fs d).1) ∧ PutIn b base v (doB fs d) w w' := by
 have hm : m ≤ 1048576 := by rw [← hS.1]; exact hd.2.1.1
 have hlen : fs.length ≤ 120 := treeB_len ht
 have HKP := Lib.hid (fun W (hW : Below w.heap.size w W) => put_any b base v S m q fs d.name d.subs d.val W (tab_later htab hW) (hB.later hW hB.lt) (hN.later hW) (Nat.le_trans hbw hW.size) ht (hS.later hW) hmq (chg_node hd))
 have HKK := Lib.hid (fun W (hW : Below w.heap.size w W) => kill_any b base v S m q fs d.name d.subs W (hB.later hW hB.lt) (hN.later hW) (by omega) (hS.later hW) hm hoff)
 have HR : Hid (doB fs d = if d.kind = 1 then putB fs d.name d.subs d.val else (0, killB fs d.name d.subs)) := rfl
 clear hS hd htab ht hN hB hoff
 generalize doB fs d = R at *
 generalize putB fs d.name d.subs d.val = PU at *
 generalize killB fs d.name d.subs = KI at *
 generalize d.name = nm at *
 generalize d.val = vl at *
 generalize d.kind = kd at *
 have HB0 : Hid (Below w.heap.size w (w.alloc (.cells #[.int .i64 kd, .string nm, .slice S m q, .string vl] 190))) := Below.new _ _
 go_enter Tryz.func181, Tryz.ntmps181
 by_cases h1 : kd = 1
 · have HE : Hid (R = PU) := by unfold Hid; rw [HR.out, if_pos h1]
   subst h1
   go_wp2_with fail
   refine (HKP.out _ HB0.out).mono ?_
   rintro e w1 ⟨rfl, hp⟩
   have HP := Lib.hid (hp.lift HB0.out)
   clear hp
   go_wp2_with fail
   go_ret
   exact ⟨by rw [HE.out]; rfl, by rw [HE.out]; exact HP.out⟩
 · have HE : Hid (R = (0, KI)) := by unfold Hid; rw [HR.out, if_neg h1]
   have hb1 : (kd == (1 : Int)) = false := beq_eq_false_iff_ne.2 h1
   clear h1
   go_wp2_with fail
   refine (HKK.out _ HB0.out).mono ?_
   rintro e w1 ⟨rfl, v', hv1, hv2, hv3⟩
   have HP : Hid (PutIn b base v (0, KI) w w1) := PutIn.lift HB0.out ⟨hv3, fun _ => ⟨v', hv1, hv2⟩⟩
   clear hv1 hv2 hv3
   go_wp2_with fail
   go_ret
   exact ⟨by rw [HE.out]; rfl, by rw [HE.out]; exact HP.out⟩
end Go.Proofs.YtlicffeicmoifaaGreatDoor
namespace Go.Proofs.YtlicffeicmoifaaGreatDoor
open Go.RowKit
set_option linter.unusedVariables false
set_option maxRecDepth 100000 in
set_option maxHeartbeats 4000000 in
theorem data_any (A : Option Addr) (n c : Nat) (fs : List NodeD) (nm : ByteArray) (S : Option Addr) (m q : Nat) (ss : List ByteArray) (w : World) (h : Nodes w w.heap.size A n fs) (hs : smallNs fs) (h' : Strs w w.heap.size S m ss) (hm : m ≤ 1048576) :
 Calls Tryz.prog 245 #[.agg #[.slice A n c], .string nm, .slice S m q] w fun e w' => e = .returned (.int .i64 (dataF nm ss fs)) ∧ Below w.heap.size w w' := by
 have Hh := Lib.hid h
 have Hlen := Lib.hid h.1
 have hn : n ≤ 1048576 := by rw [← h.1]; exact hs.1
 have hl0 : fs.length = n := h.1
 have Hst := Lib.hid h'
 have Hsl : Hid (ss.length = m) := h'.1
 have HALL : Hid (dataF nm ss (fs.take n) = dataF nm ss fs) := by unfold Hid; rw [List.take_of_length_le (by omega)]
 have HSN : Hid (∀ k, k < n → dataF nm ss (fs.take (k + 1)) = dataN nm ss (fs.getD k default) (dataF nm ss (fs.take k))) := fun k hk => data_snoc nm ss fs k (by omega)
 clear h hs h' hl0
 generalize dataF nm ss fs = OUT at *
 generalize hD : (fun k => dataF nm ss (fs.take k)) = D at *
 have HD : Hid (∀ k, dataF nm ss (fs.take k) = D k) := by subst hD; exact fun _ => rfl
 have HD0 : Hid (D 0 = 0) := by subst hD; rfl
 clear hD
 have HS2 : Hid (∀ k, k < n → D (k + 1) = dataN nm ss (fs.getD k default) (D k)) := fun k hk => by rw [← HD.out, ← HD.out]; exact HSN.out k hk
 have HA2 : Hid (D n = OUT) := by unfold Hid; rw [← HD.out]; exact HALL.out
 clear HSN HALL HD
 go_enter Tryz.func245, Tryz.ntmps245
 go_wp2_with fail
 go_loopw [7, 13] (fun o i wr => ∃ (k : Nat) (z : Int), k ≤ n ∧ o = .int .i64 z ∧ i = .int .i64 k ∧ Hid (z = D k) ∧ 0 ≤ z ∧ z ≤ 20 + k ∧ Below (w.heap.size + 1) (w.alloc (.cells #[.slice A n c] 26)) wr) (fun _ i _ => n - (intOf i).toNat)
 case atStart => exact ⟨0, 0, Nat.zero_le _, rfl, rfl, HD0.out.symm, by omega, by omega, Below.refl _ _⟩
 case round =>
  obtain ⟨k, z, hk, rfl, rfl, HZ, hz0, hz1, hb⟩ := hrel
  have p0 := (Blk.later (heap_alloc_new w _) hb (by omega)).cell 0
  have hzz : w.heap.size < wr.heap.size := by have := hb.size; simp at this; omega
  have HB := Lib.hid hb
  have HBw := Lib.hid ((Below.new _ _).trans (hb.mono (by omega)))
  simp at p0
  clear hb
  by_cases hlt : k < n
  · have hki : (k : Int) < (n : Int) := by omega
    obtain ⟨bb, o, rfl, hbB, hc⟩ := (Hh.out.later HBw.out).2 (by omega)
    obtain ⟨c0, c1, c2, k0, k1, k2, hr⟩ := hc k hlt
    have HSK := Lib.hid (HS2.out k hlt)
    clear hc
    generalize fs.getD k default = d at *
    have HKI := Lib.hid (fun W (hW : Below wr.heap.size wr W) => atOrBelow_any c0 c1 c2 S m q d nm ss W (hr.later hW) (Hst.out.later (HBw.out.later hW)) hm)
    obtain ⟨e0, ⟨A1, n1, cap1, e1, hs1, hcap1⟩, e2⟩ := hr
    have HDN : Hid (dataN nm ss d z = if inN nm ss d = true then (if n1 = m then z + 1 else if z < 10 then z + 10 else z) else z) := by
     unfold Hid dataN
     rw [hs1.1, Hsl.out]
    have HN : Hid (D (k + 1) = dataN nm ss d z) := by unfold Hid; rw [HSK.out, ← HZ.out]
    subst e0 e1 e2
    clear hs1 HSK
    generalize inN nm ss d = y at *
    generalize dataN nm ss d z = zn at *
    go_wp2_with fail
    refine (HKI.out _ (Below.new _ _)).mono ?_
    rintro e w1 ⟨rfl, hb1'⟩
    have hb1 : Below wr.heap.size wr w1 := (Below.new _ _).later hb1'
    have x1 := box_at hb1' 1
    simp at x1
    have HB1 := Lib.hid (HB.out.trans (hb1.mono (by omega)))
    have p1 := cell_later hb1 p0
    have l2 := cell_later hb1 k2
    clear hb1 hb1' p0 k0 k1 k2 HKI p1
    cases y
    · have HE : Hid (z = D (k + 1)) := by unfold Hid; rw [HN.out, HDN.out, if_neg (by decide)]
      go_wp2_with fail
      go_roundw
      case rel => exact ⟨k + 1, z, by omega, rfl, by go_num, HE.out, hz0, by omega, HB1.out⟩
      case measure => simp [intOf]; omega
    · by_cases hnm : n1 = m
      · have HE : Hid (z + 1 = D (k + 1)) := by unfold Hid; rw [HN.out, HDN.out, if_pos rfl, if_pos hnm]
        subst hnm
        have hwz : IntKind.i64.wrap (z + 1) = z + 1 := by rw [IntKind.wrap_i64]; omega
        go_wp2_with fail
        go_roundw
        case rel => exact ⟨k + 1, z + 1, by omega, by go_num, by go_num, HE.out, by omega, by omega, HB1.out⟩
        case measure => simp [intOf]; omega
      · have hnb : ((n1 : Int) == (m : Int)) = false := by rw [beq_eq_false_iff_ne]; omega
        have hnb2 : (n1 == m) = false := by rw [beq_eq_false_iff_ne]; exact hnm
        by_cases hz10 : z < 10
        · have HE : Hid (z + 10 = D (k + 1)) := by unfold Hid; rw [HN.out, HDN.out, if_pos rfl, if_neg hnm, if_pos hz10]
          have hwz : IntKind.i64.wrap (z + 10) = z + 10 := by rw [IntKind.wrap_i64]; omega
          go_wp2_with fail
          go_roundw
          case rel => exact ⟨k + 1, z + 10, by omega, by go_num, by go_num, HE.out, by omega, by omega, HB1.out⟩
          case measure => simp [intOf]; omega
        · have HE : Hid (z = D (k + 1)) := by unfold Hid; rw [HN.out, HDN.out, if_pos rfl, if_neg hnm, if_neg hz10]
          go_wp2_with fail
          go_roundw
          case rel => exact ⟨k + 1, z, by omega, rfl, by go_num, HE.out, hz0, by omega, HB1.out⟩
          case measure => simp [intOf]; omega
  · obtain rfl : k = n := by omega
    have HE : Hid (z = OUT) := by unfold Hid; rw [HZ.out, HA2.out]
    go_wp2_with fail
    go_ret
    exact ⟨by first | rfl | (rw [HE.out]; rfl), HBw.out⟩
end Go.Proofs.YtlicffeicmoifaaGreatDoor
