/-
  FnExactTakeLock returns true, and leaves its arguments as they were; over the table of powers of ten.
-/
import Derived.Test.YtiebcdajoddkpaaGreatDoorLkS
import Derived.Test.YtiebcdajoddkpaaGreatDoorLwSz
import Derived.Test.YtiebcdajoddkpaaGreatDoorLwTo
import Derived.Test.YtiebcdajoddkpaaGreatDoorLwEq
import Derived.Test.YtiebcdajoddkpaaGreatDoorLwMk
namespace Go.Proofs.YtiebcdajoddkpaaGreatDoor
open Go.RowKit

/-- All blocks of some locks lie from lo on and below hi. -/
def rangeOf (lo hi : Nat) (v0 v1 : Value) (vs us : List Value) : Prop :=
  (inP (fun g => lo ≤ g ∧ g < hi) v0 ∧ ∀ u ∈ vs, inP (fun g => lo ≤ g ∧ g < hi) u) ∧ inP (fun g => lo ≤ g ∧ g < hi) v1 ∧ ∀ u ∈ us, inP (fun g => lo ≤ g ∧ g < hi) u
theorem own_range {w : World} {base : Nat} {v0 v1 : Value} {fs gs : List ItD} {vs us : List Value} (h : OwnIts w base 37 v0 fs vs) (ha : OwnIts w base 42 v1 gs us) : rangeOf base w.heap.size v0 v1 vs us :=
  ⟨h.inP fun _ h1 h2 => ⟨h1, h2⟩, ha.inP fun _ h1 h2 => ⟨h1, h2⟩⟩
theorem LkO.chgR {P : Nat → Prop} {lo hi : Nat} {w w' : World} {base p : Nat} {v0 v1 : Value} {fs gs : List ItD} {vs us : List Value} (h : LkO w base p v0 v1 fs gs vs us) (hr : rangeOf lo hi v0 v1 vs us) (k : Chg P w w') (hP : ∀ g, lo ≤ g → g < hi → ¬ P g) (hp : ¬ P p) : LkO w' base p v0 v1 fs gs vs us :=
  ⟨h.blk.chg k hp, h.above, h.h.chg k (inP_mono hr.1.1 fun g hg => hP g hg.1 hg.2) (fun u hu => inP_mono (hr.1.2 u hu) fun g hg => hP g hg.1 hg.2),
    h.a.chg k (inP_mono hr.2.1 fun g hg => hP g hg.1 hg.2) (fun u hu => inP_mono (hr.2.2 u hu) fun g hg => hP g hg.1 hg.2), h.cross⟩
theorem TakeLock_own (W : World) (htab : tabT W) (b b' : Nat) (v0 v1 v : Value) (held asks : List ItD) (vs us : List Value) (job : Int) (nm : ByteArray) (ss : List ByteArray) (t : Int) (hs : smalls held) (hsa : smalls asks) (hst : (tgt job nm ss).small)
    (h : OwnIts W b 37 v0 held vs) (ha : OwnIts W b 42 v1 asks us) (hS : SubO W b' v ss) :
    Calls Tryz.prog 18 #[.agg #[v0, v1], .int .i64 job, .string nm, v, .int .i64 t] W (TLPost (tlB held asks job nm ss t) W) := by
  obtain ⟨A, c, rfl, hc, _, hI⟩ := h.its
  obtain ⟨A', c', rfl, _, _, hI'⟩ := ha.its
  obtain ⟨S, q, rfl, hq, hSS⟩ := own_strs hS
  rw [← tl_eq]
  exact TakeLock_any A A' _ c _ c' held asks job nm S _ q ss t W htab hI hI' hs hsa hc hSS hq hst
theorem specTakeLock_own (W : World) (b b' : Nat) (v0 v1 v : Value) (held asks : List ItD) (vs us : List Value) (job : Int) (nm : ByteArray) (ss : List ByteArray) (t : Int) (hs : smalls held) (hsa : smalls asks) (hst : (tgt job nm ss).small)
    (h : OwnIts W b 37 v0 held vs) (ha : OwnIts W b 42 v1 asks us) (hS : SubO W b' v ss) :
    Calls Tryz.prog 19 #[.agg #[v0, v1], .int .i64 job, .string nm, v, .int .i64 t] W (TLPost (tlB held asks job nm ss t) W) := by
  obtain ⟨A, c, rfl, hc, _, hI⟩ := h.its
  obtain ⟨A', c', rfl, _, _, hI'⟩ := ha.its
  obtain ⟨S, q, rfl, hq, hSS⟩ := own_strs hS
  exact specTakeLock_any A A' _ c _ c' held asks job nm S _ q ss t W hI hI' hs hsa hSS hst
theorem eqLocks_own (W : World) (b b' : Nat) (v0 v1 u0 u1 : Value) (fs gs : List ItD) (vs us vs' us' : List Value) (hs : smalls fs) (hsa : smalls gs)
    (h : OwnIts W b 37 v0 fs vs) (ha : OwnIts W b 42 v1 gs us) (k : OwnIts W b' 37 u0 fs vs') (ka : OwnIts W b' 42 u1 gs us') :
    Calls Tryz.prog 29 #[.agg #[v0, v1], .agg #[u0, u1]] W fun e w' => e = .returned (.bool true) ∧ Below W.heap.size W w' := by
  obtain ⟨A, c, rfl, _, _, hI⟩ := h.its
  obtain ⟨A', c', rfl, _, _, hI'⟩ := ha.its
  obtain ⟨B, d, rfl, _, _, kI⟩ := k.its
  obtain ⟨B', d', rfl, _, _, kI'⟩ := ka.its
  exact eqLocks_same A A' B B' _ c _ c' _ d _ d' fs gs W hI hI' kI kI' hs hsa
theorem heldLocks_own (W : World) (b k : Nat) (v0 v1 : Value) (fs gs : List ItD) (vs us : List Value) (hs : smalls fs) (hsa : smalls gs) (hk : k ≤ 1)
    (h : OwnIts W b 37 v0 (mkIts fs k fs.length) vs) (ha : OwnIts W b 42 v1 (mkIts gs (mkAt fs k fs.length) gs.length) us) :
    Calls Tryz.prog 33 #[.agg #[v0, v1], .int .i64 k] W fun e w' => e = .returned (.int .i64 (mkAt gs (mkAt fs k fs.length) gs.length : Nat)) ∧ Below W.heap.size W w' := by
  obtain ⟨A, c, rfl, _, _, hI⟩ := h.its
  obtain ⟨A', c', rfl, _, _, hI'⟩ := ha.its
  exact heldLocks_any A A' _ c _ c' k fs gs W hs hsa hk hI hI'
theorem toStringS_own (A : Option Addr) (n c : Nat) (ss : List ByteArray) (w : World) (h : Strs w w.heap.size A n ss) (hn : n ≤ 1048576) :
    Calls Tryz.prog 28 #[.slice A n c] w fun e w' => ∃ v, e = .returned v ∧ SubO w' w.heap.size v ss ∧ Below w.heap.size w w' :=
  (toStringS_any A n c ss w h hn).mono fun e w' ⟨he, hw⟩ => by
    subst hw
    obtain rfl : ss.length = n := h.1
    exact ⟨_, he, sub_of_blk (heap_last rfl) (Nat.le_refl _) (by unfold maxLen; omega), Below.new _ _⟩
theorem eqStringS_own (W : World) (b b' : Nat) (v v' : Value) (ss : List ByteArray) (h : SubO W b v ss) (h' : SubO W b' v' ss) (hn : ss.length ≤ 1048576) :
    Calls Tryz.prog 30 #[v, v'] W fun e w' => e = .returned (.bool true) ∧ Below W.heap.size W w' := by
  obtain ⟨S, q, rfl, _, hSS⟩ := own_strs h
  obtain ⟨S', q', rfl, _, hSS'⟩ := own_strs h'
  refine (eqStringS_any S S' _ q _ q' ss ss W hSS hSS' hn hn).mono fun e w' ⟨he, k, hw⟩ => ?_
  subst hw
  rw [eqS_same] at he
  exact ⟨he, below_drewN (Below.refl _ _) k⟩

theorem small_set {fs : List ItD} {i : Nat} {d : ItD} (h : smalls fs) (hd : d.small) : smalls (fs.set i d) :=
  ⟨by rw [List.length_set]; exact h.1, fun x hx => by
    rcases List.mem_or_eq_of_mem_set hx with h1 | rfl
    · exact h.2 x h1
    · exact hd⟩
theorem tl_small (held asks : List ItD) (job : Int) (nm : ByteArray) (ss : List ByteArray) (t : Int) (hs : smalls held) (hsa : smalls asks) (hst : (tgt job nm ss).small) : smalls (tlB held asks job nm ss t).2.2.1 ∧ smalls (tlB held asks job nm ss t).2.2.2 := by
  have hnil : smalls [] := ⟨by simp, fun d hd => by cases hd⟩
  unfold tlB
  split
  · rename_i hok
    simp only [Bool.and_eq_true] at hok
    have h16 : held.length ≤ 16 ∧ asks.length ≤ 4 := by
      have := hok.1.1.1
      unfold okB at this
      simp only [Bool.and_eq_true, decide_eq_true_iff] at this
      omega
    split
    · exact ⟨hnil, hnil⟩
    · split
      · exact ⟨hnil, hnil⟩
      · split
        · refine ⟨hs, by simp; omega, fun d hd => ?_⟩
          rcases List.mem_append.1 hd with h1 | h1
          · exact hsa.2 d h1
          · rw [List.mem_singleton.1 h1]; exact hst
        · refine ⟨?_, hsa⟩
          unfold acqI
          split
          · rename_i hf
            have hlt : posI held (tgt job nm ss) < held.length := by
              unfold foundI at hf
              rw [Bool.and_eq_true, decide_eq_true_iff] at hf
              exact hf.1
            have hd := hs.2 _ (getD_mem held _ hlt)
            exact small_set hs ⟨hd.1, hd.2.1, hd.2.2⟩
          · refine ⟨by rw [insAt_len _ _ _ (posI_le _ _)]; omega, fun d hd => ?_⟩
            rcases insAt_mem hd with h1 | rfl
            · exact hs.2 d h1
            · exact hst
  · exact ⟨hnil, hnil⟩

set_option maxRecDepth 100000 in
set_option maxHeartbeats 4000000 in
theorem fnTL_walk (A A' S : Option Addr) (n c n' c' m q : Nat) (held asks : List ItD) (job t : Int) (nm : ByteArray) (ss : List ByteArray) (w : World) (htab : tabT w) (h : Its w w.heap.size A n held) (ha : Its w w.heap.size A' n' asks) (hS : Strs w w.heap.size S m ss)
    (hf : ∀ d ∈ held, d.fine) (hfa : ∀ d ∈ asks, d.fine) (hn : n ≤ maxLen) (hn' : n' ≤ maxLen) (hz : ∀ s ∈ ss, s.size ≤ maxLen) (hm : m ≤ maxLen) (hnm : nm.size ≤ maxLen) :
    Calls Tryz.prog 6 #[.agg #[.slice A n c, .slice A' n' c'], .int .i64 job, .string nm, .slice S m q, .int .i64 t] w fun e w' => e = .returned (.bool true) ∧ Below w.heap.size w w' := by
  have HSZ := Lib.hid (fun W (hW : Below w.heap.size w W) => szLocks_any A A' n c n' c' held asks 1048576 W (h.later hW) (ha.later hW) hf hfa (by omega) (by omega) hn hn')
  have hx := szLk_ge held asks 1048576
  have HSM := Lib.hid (szLk_small held asks 1048576 (by omega) (by omega))
  have HSS := Lib.hid (fun (x : Int) (h0 : 0 ≤ x) (h1 : x ≤ 1048576) W (hW : Below w.heap.size w W) => szStringS_any S m q ss x W (hS.later hW) h0 h1 hz hm)
  have HTAB := Lib.hid htab
  have HA := Lib.hid h
  have HA' := Lib.hid ha
  have HSt := Lib.hid hS
  unfold maxLen at hnm
  clear h ha hS hf hfa hn hn' hz hm htab
  by_cases hbig : 1048576 < nm.size
  · go_enter Tryz.func6, Tryz.ntmps6
    go_wp2_with fail
    go_ret
    exact ⟨rfl, Below.new _ _⟩
  · generalize szLk held asks 1048576 = x at *
    go_enter Tryz.func6, Tryz.ntmps6
    go_wp2_with fail
    refine (HSZ.out _ (by exact Below.new _ _)).mono ?_
    rintro e w1 ⟨rfl, hb1⟩
    have HB1 := Lib.hid ((Below.new _ _).later hb1)
    have HBA := Lib.hid (Blk.later (heap_last rfl) hb1 (by simp))
    clear hb1
    by_cases hneg : x < 0
    · go_wp2_with fail
      go_ret
      exact ⟨rfl, HB1.out⟩
    · have HSSx := Lib.hid (HSS.out x (by omega) (by omega))
      have HSM1 := Lib.hid (HSM.out (by omega))
      have hy := szS_ge ss x (by omega)
      have HR := Lib.hid (szS_room ss x)
      clear HSS HSM
      generalize szS ss x = y at *
      go_wp2_with fail
      refine (HSSx.out _ HB1.out).mono ?_
      rintro e w1' ⟨rfl, rfl⟩
      by_cases hneg2 : y < 0
      · go_wp2_with fail
        go_ret
        exact ⟨rfl, HB1.out⟩
      · have hsl : ss.length ≤ 1048576 := by have := (HR.out (by omega)).1; omega
        have HST : Hid ((tgt job nm ss).small) := ⟨by show nm.size ≤ 1048576; omega, hsl, fun s hs => by have := (HR.out (by omega)).2 s hs; omega⟩
        have hmm : m ≤ 1048576 := by rw [← HSt.out.1]; exact hsl
        have HTL := Lib.hid (tl_small held asks job nm ss t HSM1.out.1 HSM1.out.2 HST.out)
        have HTO := Lib.hid (fun W (hW : Below w.heap.size w W) => toLocks_any A A' n c n' c' held asks W (HA.out.later hW) (HA'.out.later hW) HSM1.out.1 HSM1.out.2)
        have HTS := Lib.hid (fun W (hW : Below w.heap.size w W) => toStringS_own S m q ss W (HSt.out.later hW) hmm)
        have HSP := Lib.hid (fun W b b' v0 v1 v vs us => specTakeLock_own W b b' v0 v1 v held asks vs us job nm ss t HSM1.out.1 HSM1.out.2 HST.out)
        have HIM := Lib.hid (fun W (hW : Below w.heap.size w W) b b' v0 v1 v vs us => TakeLock_own W (tab_later HTAB.out hW) b b' v0 v1 v held asks vs us job nm ss t HSM1.out.1 HSM1.out.2 HST.out)
        have HEX := Lib.hid (fun W b b' v0 v1 u0 u1 vs us vs' us' => eqLocks_own W b b' v0 v1 u0 u1 held asks vs us vs' us' HSM1.out.1 HSM1.out.2)
        have HES := Lib.hid (fun W b b' v v' h h' => eqStringS_own W b b' v v' ss h h' hsl)
        have HMX := Lib.hid (fun W base P v0 v1 vs us h ha hx => markLocks_any base 1 P v0 v1 held asks vs us W h ha hx HSM1.out.1 HSM1.out.2 (by omega))
        have hM1 : mkAt asks (mkAt held 1 held.length) asks.length ≤ 4398046511104 := by
          have h1 := mkAt_le held 1 HSM1.out.1 held.length (Nat.le_refl _)
          have h2 := mkAt_le asks (mkAt held 1 held.length) HSM1.out.2 asks.length (Nat.le_refl _)
          have := HSM1.out.1.1
          have := HSM1.out.2.1
          omega
        have HMS := Lib.hid (fun base v W h => markStringS_own base (mkAt asks (mkAt held 1 held.length) asks.length) v ss W h hsl hM1)
        clear HSSx HR HSZ HSM1 HST HTAB HA HA' HSt hy hx
        generalize tlB held asks job nm ss t = r at *
        obtain ⟨rb, rc, rh, ra⟩ := r
        have HEQ := Lib.hid (fun W b b' v0 v1 u0 u1 vs us vs' us' => eqLocks_own W b b' v0 v1 u0 u1 rh ra vs us vs' us' HTL.out.1 HTL.out.2)
        have HMG := Lib.hid (fun W base P v0 v1 vs us h ha hx => markLocks_any base 1 P v0 v1 rh ra vs us W h ha hx HTL.out.1 HTL.out.2 (by omega))
        have HHG := Lib.hid (fun W b v0 v1 vs us => heldLocks_own W b 1 v0 v1 rh ra vs us HTL.out.1 HTL.out.2 (by omega))
        clear HTL
        generalize mkAt asks (mkAt held 1 held.length) asks.length = M1 at *
        have pa := HBA.out.cell
        have za := HBA.out.lt
        go_wp2_with fail
        refine (HTO.out _ HB1.out).mono ?_
        rintro e w2 ⟨v0, v1, vs, us, rfl, hO2, hA2, hX2, hb2⟩
        obtain ⟨A0, cap0, rfl, _⟩ := own_slice hO2.row
        obtain ⟨A1, cap1, rfl, _⟩ := own_slice hA2.row
        have HO2 := Lib.hid hO2
        have HA2 := Lib.hid hA2
        have HB2 := Lib.hid (HB1.out.later hb2)
        have HBA2 := Lib.hid (HBA.out.later hb2 za)
        clear hO2 hA2 hX2 hb2 pa za HB1 HBA
        go_wp2_with fail
        refine (HTS.out _ HB2.out).mono ?_
        rintro e w3 ⟨sv, rfl, hS3, hb3⟩
        obtain ⟨B0, cq0, rfl, _⟩ := own_slice hS3
        have HO3 := Lib.hid (HO2.out.later hb3)
        have HA3 := Lib.hid (HA2.out.later hb3)
        have HS3 := Lib.hid hS3
        have HB3 := Lib.hid (HB2.out.later hb3)
        have HBA3 := Lib.hid (HBA2.out.later hb3 HBA2.out.lt)
        clear hb3 hS3 HO2 HA2 HB2 HBA2
        go_wp2_with fail
        refine (HSP.out _ _ _ _ _ _ _ _ HO3.out HA3.out HS3.out).mono ?_
        rintro e w4 ⟨a0, a1, avs, aus, rfl, hO4, hA4, hX4, hb4⟩
        obtain ⟨D0, cd0, rfl, _⟩ := own_slice hO4.row
        obtain ⟨D1, cd1, rfl, _⟩ := own_slice hA4.row
        have HLW : Hid (LkO (w4.alloc (.cells #[.slice D0 rh.length cd0, .slice D1 ra.length cd1] 27)) w3.heap.size w4.heap.size (.slice D0 rh.length cd0) (.slice D1 ra.length cd1) rh ra avs aus) := ⟨heap_last rfl, hb4.size, hO4.later (Below.new _ _), hA4.later (Below.new _ _), hX4⟩
        have HRW := Lib.hid (own_range hO4 hA4)
        have HB4 := Lib.hid ((HB3.out.later hb4).later (Below.new w4 (.cells #[.slice D0 rh.length cd0, .slice D1 ra.length cd1] 27)))
        have HBA4 := Lib.hid ((HBA3.out.later hb4 HBA3.out.lt).alloc (.cells #[.slice D0 rh.length cd0, .slice D1 ra.length cd1] 27))
        have hw4 : w.heap.size < w4.heap.size := by have h1 := hb4.size; have h2 := HBA3.out.lt; omega
        clear hO4 hA4 hX4 hb4 HO3 HA3 HS3 HB3 HBA3 HSP
        have pa := HBA4.out.cell
        have za := HBA4.out.lt
        go_wp2_with fail
        refine (HTO.out _ HB4.out).mono ?_
        rintro e w5 ⟨v0, v1, xvs, xus, rfl, hO5, hA5, hX5, hb5⟩
        obtain ⟨X0, cx0, rfl, _⟩ := own_slice hO5.row
        obtain ⟨X1, cx1, rfl, _⟩ := own_slice hA5.row
        have hz5 : w4.heap.size + 1 ≤ w5.heap.size := by have := hb5.size; simp at this; omega
        have HRX := Lib.hid (own_range hO5 hA5)
        have HLX : Hid (LkO (w5.alloc (.cells #[.slice X0 held.length cx0, .slice X1 asks.length cx1] 27)) (w4.heap.size + 1) w5.heap.size (.slice X0 held.length cx0) (.slice X1 asks.length cx1) held asks xvs xus) := ⟨heap_last rfl, hz5, (hO5.later (Below.new _ _)).base (by simp), (hA5.later (Below.new _ _)).base (by simp), hX5⟩
        have HB5 := Lib.hid ((HB4.out.later hb5).later (Below.new w5 (.cells #[.slice X0 held.length cx0, .slice X1 asks.length cx1] 27)))
        have HBA5 := Lib.hid ((HBA4.out.later hb5 za).alloc (.cells #[.slice X0 held.length cx0, .slice X1 asks.length cx1] 27))
        have HLW5 := Lib.hid ((HLW.out.later hb5).later (Below.new w5 (.cells #[.slice X0 held.length cx0, .slice X1 asks.length cx1] 27)))
        clear hO5 hA5 hX5 hb5 pa za HB4 HBA4 HLW
        go_wp2_with fail
        refine (HTS.out _ HB5.out).mono ?_
        rintro e w6 ⟨sv, rfl, hS6, hb6⟩
        obtain ⟨Y0, cy0, rfl, _⟩ := own_slice hS6
        have hz6 : w5.heap.size + 1 ≤ w6.heap.size := by have := hb6.size; simp at this; omega
        have HS6 := Lib.hid hS6
        have HUY : Hid (inP (fun g => w5.heap.size + 1 ≤ g ∧ g < w6.heap.size) (.slice Y0 ss.length cy0)) := inP_of hS6 (fun g h1 h2 => ⟨by simpa using h1, h2⟩)
        have HB6 := Lib.hid (HB5.out.later hb6)
        have HBA6 := Lib.hid (HBA5.out.later hb6 HBA5.out.lt)
        have HLW6 := Lib.hid (HLW5.out.later hb6)
        have HLX6 := Lib.hid (HLX.out.later hb6)
        clear hS6 hb6 HB5 HBA5 HLW5 HLX
        have px := HLX6.out.blk.cell
        have zx := HLX6.out.blk.lt
        go_wp2_with fail
        refine (HIM.out _ HB6.out _ _ _ _ _ _ _ HLX6.out.h HLX6.out.a HS6.out).mono ?_
        rintro e w7 ⟨g0, g1, gvs, gus, rfl, hO7, hA7, hX7, hb7⟩
        obtain ⟨G0, cg0, rfl, _⟩ := own_slice hO7.row
        obtain ⟨G1, cg1, rfl, _⟩ := own_slice hA7.row
        have hz7 := hb7.size
        have HRG := Lib.hid (own_range hO7 hA7)
        have HLG : Hid (LkO (w7.alloc (.cells #[.slice G0 rh.length cg0, .slice G1 ra.length cg1] 27)) w6.heap.size w7.heap.size (.slice G0 rh.length cg0) (.slice G1 ra.length cg1) rh ra gvs gus) := ⟨heap_last rfl, hz7, hO7.later (Below.new _ _), hA7.later (Below.new _ _), hX7⟩
        have HN7 := Lib.hid (hb7.later (Below.new w7 (.cells #[.slice G0 rh.length cg0, .slice G1 ra.length cg1] 27)))
        have HB7 := Lib.hid (HB6.out.later HN7.out)
        have HBA7 := Lib.hid (HBA6.out.later HN7.out HBA6.out.lt)
        have HLW7 := Lib.hid (HLW6.out.later HN7.out)
        have HLX7 := Lib.hid (HLX6.out.later HN7.out)
        have HS7 := Lib.hid (own_later HS6.out HN7.out)
        clear hO7 hA7 hX7 hb7 HN7 HB6 HBA6 HLW6 HLX6 HS6 px zx
        have pg := HLG.out.blk.cell
        have zg := HLG.out.blk.lt
        have pw := HLW7.out.blk.cell
        have zw := HLW7.out.blk.lt
        go_wp2_with fail
        refine (HEQ.out _ _ _ _ _ _ _ _ _ _ _ HLG.out.h HLG.out.a HLW7.out.h HLW7.out.a).mono ?_
        rintro e w8 ⟨rfl, hb8⟩
        have HB8 := Lib.hid (HB7.out.later hb8)
        have HBA8 := Lib.hid (HBA7.out.later hb8 HBA7.out.lt)
        have HLW8 := Lib.hid (HLW7.out.later hb8)
        have HLX8 := Lib.hid (HLX7.out.later hb8)
        have HLG8 := Lib.hid (HLG.out.later hb8)
        have HS8 := Lib.hid (own_later HS7.out hb8)
        clear hb8 pg zg pw zw HB7 HBA7 HLW7 HLX7 HLG HS7
        have pa0 := HBA8.out.cell 0
        have pa1 := HBA8.out.cell 1
        have px0 := HLX8.out.blk.cell 0
        have px1 := HLX8.out.blk.cell 1
        simp at pa0 pa1 px0 px1
        have za := HBA8.out.lt
        have zx := HLX8.out.blk.lt
        go_wp2_with fail
        go_region_held3 (fun w' => w'.cell? ⟨w5.heap.size, 0, none⟩ = some (.slice X0 held.length cx0) ∧ w'.cell? ⟨w5.heap.size, 1, none⟩ = some (.slice X1 asks.length cx1) ∧ w'.cell? ⟨w.heap.size, 0, none⟩ = some (.slice A n c) ∧ w'.cell? ⟨w.heap.size, 1, none⟩ = some (.slice A' n' c')) (first | exact ⟨px0, px1, pa0, pa1⟩ | exact ⟨cell_later hb9 px0, cell_later hb9 px1, cell_later hb9 pa0, cell_later hb9 pa1⟩ | exact ⟨cell_later hb10 px0, cell_later hb10 px1, cell_later hb10 pa0, cell_later hb10 pa1⟩)
          (first
            | (go_at_call 27; refine (HTO.out _ (by exact HB8.out.drew)).mono ?_; rintro e w9 ⟨t0, t1, tvs, tus, rfl, hO9, hA9, _, hb9'⟩; have hb9 := undrew hb9'; have HO9 := Lib.hid hO9; have HA9 := Lib.hid hA9; clear hb9' hO9 hA9)
            | (go_at_call 29; refine (HEX.out _ _ _ _ _ _ _ _ _ _ _ (by exact HLX8.out.h.later hb9) (by exact HLX8.out.a.later hb9) HO9.out HA9.out).mono ?_; rintro e w10 ⟨rfl, hb10'⟩; have hb10 := hb9.later hb10'; clear hb10'))
        have HB10 := Lib.hid (HB8.out.later hb10)
        have HBA10 := Lib.hid (HBA8.out.later hb10 HBA8.out.lt)
        have HLW10 := Lib.hid (HLW8.out.later hb10)
        have HLX10 := Lib.hid (HLX8.out.later hb10)
        have HLG10 := Lib.hid (HLG8.out.later hb10)
        have HS10 := Lib.hid (own_later HS8.out hb10)
        clear hb9 hb10 HO9 HA9 pa0 pa1 px0 px1 za zx HB8 HBA8 HLW8 HLX8 HLG8 HS8
        go_wp2_with fail
        refine (HTS.out _ HB10.out).mono ?_
        rintro e w11 ⟨sv, rfl, hS11, hb11⟩
        have HT11 := Lib.hid hS11
        have HB11 := Lib.hid (HB10.out.later hb11)
        have HBA11 := Lib.hid (HBA10.out.later hb11 HBA10.out.lt)
        have HLW11 := Lib.hid (HLW10.out.later hb11)
        have HLX11 := Lib.hid (HLX10.out.later hb11)
        have HLG11 := Lib.hid (HLG10.out.later hb11)
        have HS11 := Lib.hid (own_later HS10.out hb11)
        clear hS11 hb11 HB10 HBA10 HLW10 HLX10 HLG10 HS10
        go_wp2_with fail
        refine (HES.out _ _ _ _ _ HS11.out HT11.out).mono ?_
        rintro e w12 ⟨rfl, hb12⟩
        have HB12 := Lib.hid (HB11.out.later hb12)
        have HBA12 := Lib.hid (HBA11.out.later hb12 HBA11.out.lt)
        have HLW12 := Lib.hid (HLW11.out.later hb12)
        have HLX12 := Lib.hid (HLX11.out.later hb12)
        have HLG12 := Lib.hid (HLG11.out.later hb12)
        have HS12 := Lib.hid (own_later HS11.out hb12)
        clear hb12 HT11 HB11 HBA11 HLW11 HLX11 HLG11 HS11
        have px := HLX12.out.blk.cell
        have zx := HLX12.out.blk.lt
        go_wp2_with fail
        refine (HMX.out _ _ (fun g => w4.heap.size + 1 ≤ g ∧ g < w5.heap.size) _ _ _ _ HLX12.out.h HLX12.out.a HLX12.out.cross ?k1 ?k2 ?k3 ?k4).mono ?_
        case k1 => have hh := HRX.out.1.1; simpa using hh
        case k2 => have hh := HRX.out.1.2; simpa using hh
        case k3 => have hh := HRX.out.2.1; simpa using hh
        case k4 => have hh := HRX.out.2.2; simpa using hh
        rintro e w13 ⟨rfl, _, _, hC13⟩
        have HB13 : Hid (Below w.heap.size w w13) := Chg.below HB12.out hC13 (fun g hg => by omega) (Nat.le_refl _)
        have HBA13 := Lib.hid (HBA12.out.chg hC13 (by omega))
        have HLW13 := Lib.hid (HLW12.out.chgR HRW.out hC13 (fun g h1 h2 => by omega) (by omega))
        have HLG13 := Lib.hid (HLG12.out.chgR HRG.out hC13 (fun g h1 h2 => by omega) (by omega))
        have HS13 := Lib.hid (own_chg HS12.out hC13 (inP_mono HUY.out (fun g hg => by omega)))
        clear hC13 HB12 HBA12 HLW12 HLX12 HLG12 HS12 px zx HRX HMX HEX HES
        go_wp2_with fail
        refine (HMS.out _ _ _ HS13.out).mono ?_
        rintro e w14 ⟨rfl, _, hg14⟩
        have hC14 : Chg (fun g => w5.heap.size + 1 ≤ g ∧ g < w6.heap.size) w13 w14 := Chg.of_grown hg14 HUY.out
        have HB14 : Hid (Below w.heap.size w w14) := Chg.below HB13.out hC14 (fun g hg => by omega) (Nat.le_refl _)
        have HBA14 := Lib.hid (HBA13.out.chg hC14 (by omega))
        have HLW14 := Lib.hid (HLW13.out.chgR HRW.out hC14 (fun g h1 h2 => by omega) (by omega))
        have HLG14 := Lib.hid (HLG13.out.chgR HRG.out hC14 (fun g h1 h2 => by omega) (by omega))
        clear hC14 hg14 HB13 HBA13 HLW13 HLG13 HS13 HMS HUY
        have pg := HLG14.out.blk.cell
        have zg := HLG14.out.blk.lt
        have pw := HLW14.out.blk.cell
        have zw := HLW14.out.blk.lt
        go_wp2_with fail
        refine (HEQ.out _ _ _ _ _ _ _ _ _ _ _ HLG14.out.h HLG14.out.a HLW14.out.h HLW14.out.a).mono ?_
        rintro e w15 ⟨rfl, hb15⟩
        have HB15 := Lib.hid (HB14.out.later hb15)
        have HBA15 := Lib.hid (HBA14.out.later hb15 HBA14.out.lt)
        have HLW15 := Lib.hid (HLW14.out.later hb15)
        have HLG15 := Lib.hid (HLG14.out.later hb15)
        clear hb15 pg zg pw zw HB14 HBA14 HLW14 HLG14
        have pg := HLG15.out.blk.cell
        have zg := HLG15.out.blk.lt
        go_wp2_with fail
        refine (HMG.out _ _ (fun g => w6.heap.size ≤ g ∧ g < w7.heap.size) _ _ _ _ HLG15.out.h HLG15.out.a HLG15.out.cross HRG.out.1.1 HRG.out.1.2 HRG.out.2.1 HRG.out.2.2).mono ?_
        rintro e w16 ⟨rfl, hO16, hA16, hC16⟩
        have HB16 : Hid (Below w.heap.size w w16) := Chg.below HB15.out hC16 (fun g hg => by omega) (Nat.le_refl _)
        have HBA16 := Lib.hid (HBA15.out.chg hC16 (by omega))
        have HLW16 := Lib.hid (HLW15.out.chgR HRW.out hC16 (fun g h1 h2 => by omega) (by omega))
        have HLG16 : Hid (LkO w16 w6.heap.size w7.heap.size _ _ _ _ gvs gus) := ⟨HLG15.out.blk.chg hC16 (by omega), HLG15.out.above, hO16, hA16, HLG15.out.cross⟩
        clear hC16 hO16 hA16 pg zg HB15 HBA15 HLW15 HLG15 HMG
        generalize hM2 : mkAt ra (mkAt rh 1 rh.length) ra.length = M2 at *
        clear hM2
        have pg := HLG16.out.blk.cell
        have zg := HLG16.out.blk.lt
        go_wp2_with fail
        refine (HHG.out _ _ _ _ _ _ HLG16.out.h HLG16.out.a).mono ?_
        rintro e w17 ⟨rfl, hb17⟩
        have HB17 := Lib.hid (HB16.out.later hb17)
        have HBA17 := Lib.hid (HBA16.out.later hb17 HBA16.out.lt)
        have HLW17 := Lib.hid (HLW16.out.later hb17)
        have HLG17 := Lib.hid (HLG16.out.later hb17)
        clear hb17 pg zg HB16 HBA16 HLW16 HLG16
        have pa := HBA17.out.cell
        have za := HBA17.out.lt
        go_wp2_with fail
        refine (HTO.out _ HB17.out).mono ?_
        rintro e w18 ⟨v0, v1, yvs, yus, rfl, hO18, hA18, hX18, hb18⟩
        obtain ⟨E0, ce0, rfl, _⟩ := own_slice hO18.row
        obtain ⟨E1, ce1, rfl, _⟩ := own_slice hA18.row
        have HO18 := Lib.hid hO18
        have HA18 := Lib.hid hA18
        have HB18 := Lib.hid (HB17.out.later hb18)
        have HLW18 := Lib.hid (HLW17.out.later hb18)
        have HLG18 := Lib.hid (HLG17.out.later hb18)
        clear hO18 hA18 hX18 hb18 pa za HB17 HBA17 HLW17 HLG17
        go_wp2_with fail
        refine (HTS.out _ HB18.out).mono ?_
        rintro e w19 ⟨sv, rfl, hS19, hb19⟩
        obtain ⟨Z0, cz0, rfl, _⟩ := own_slice hS19
        have HO19 := Lib.hid (HO18.out.later hb19)
        have HA19 := Lib.hid (HA18.out.later hb19)
        have HS19 := Lib.hid hS19
        have HB19 := Lib.hid (HB18.out.later hb19)
        have HLW19 := Lib.hid (HLW18.out.later hb19)
        have HLG19 := Lib.hid (HLG18.out.later hb19)
        clear hb19 hS19 HO18 HA18 HB18 HLW18 HLG18
        go_wp2_with fail
        refine (HIM.out _ HB19.out _ _ _ _ _ _ _ HO19.out HA19.out HS19.out).mono ?_
        rintro e w20 ⟨h0, h1, hvs, hus, rfl, hO20, hA20, hX20, hb20⟩
        obtain ⟨F0, cf0, rfl, _⟩ := own_slice hO20.row
        obtain ⟨F1, cf1, rfl, _⟩ := own_slice hA20.row
        have HLH : Hid (LkO (w20.alloc (.cells #[.slice F0 rh.length cf0, .slice F1 ra.length cf1] 27)) w19.heap.size w20.heap.size (.slice F0 rh.length cf0) (.slice F1 ra.length cf1) rh ra hvs hus) := ⟨heap_last rfl, hb20.size, hO20.later (Below.new _ _), hA20.later (Below.new _ _), hX20⟩
        have HN20 := Lib.hid (hb20.later (Below.new w20 (.cells #[.slice F0 rh.length cf0, .slice F1 ra.length cf1] 27)))
        have HB20 := Lib.hid (HB19.out.later HN20.out)
        have HLW20 := Lib.hid (HLW19.out.later HN20.out)
        have HLG20 := Lib.hid (HLG19.out.later HN20.out)
        clear hO20 hA20 hX20 hb20 HN20 HO19 HA19 HS19 HB19 HLW19 HLG19 HIM HTS HTO
        have ph := HLH.out.blk.cell
        have zh := HLH.out.blk.lt
        have pw := HLW20.out.blk.cell
        have zw := HLW20.out.blk.lt
        go_wp2_with fail
        refine (HEQ.out _ _ _ _ _ _ _ _ _ _ _ HLH.out.h HLH.out.a HLW20.out.h HLW20.out.a).mono ?_
        rintro e w21 ⟨rfl, hb21⟩
        have HB21 := Lib.hid (HB20.out.later hb21)
        have HLG21 := Lib.hid (HLG20.out.later hb21)
        clear hb21 ph zh pw zw HB20 HLW20 HLG20 HLH HEQ
        have pg := HLG21.out.blk.cell
        have zg := HLG21.out.blk.lt
        go_wp2_with fail
        refine (HHG.out _ _ _ _ _ _ HLG21.out.h HLG21.out.a).mono ?_
        rintro e w22 ⟨rfl, hb22⟩
        have HB22 := Lib.hid (HB21.out.later hb22)
        clear hb22 pg zg
        go_wp2_with fail
        go_ret
        exact ⟨rfl, HB22.out⟩
end Go.Proofs.YtiebcdajoddkpaaGreatDoor
