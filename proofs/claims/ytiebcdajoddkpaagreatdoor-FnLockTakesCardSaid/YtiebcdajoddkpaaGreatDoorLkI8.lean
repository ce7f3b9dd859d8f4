/-
  Locks of the program, behind a pointer: what inFront computes, as far as it matters, and may.
-/
import Derived.Test.YtiebcdajoddkpaaGreatDoorLkI7
import Derived.Test.YtiebcdajoddkpaaGreatDoorShelf2
import Derived.Lib.OwnBridge
namespace Go.Proofs.YtiebcdajoddkpaaGreatDoor
open Go.RowKit

theorem below_grow0 (w : World) (os : Array Obj) : Below w.heap.size w (Sort.grow w os) := Lib.below_grow w.heap.size w (Nat.le_refl _) 0 os
theorem slice_nil_dec (v : Value) (A : Option Addr) (n c : Nat) (h : v = .slice A n c) (hn : 0 < n) : v ≠ .slice none 0 0 := by
  rw [h]; intro e; injection e with _ e _; omega
def SortPost (B base m : Nat) (v : Value) (w : World) (e : Ending) (w' : World) : Prop := e = .returned (.tuple #[]) ∧ ∃ ys : List Int, ys.length = m ∧ w'.ownsRow base 2 1 v m (ys.map (Value.int .i64)) ∧ Below B w w'
theorem sortI_any (B base : Nat) (v : Value) (zs : List Int) (w : World) (h : w.ownsRow base 2 1 v zs.length (zs.map (Value.int .i64))) (hB : B ≤ base) (hBw : B ≤ w.heap.size) (hz : zs.length ≤ 2097152) :
    Calls Tryz.prog 132 #[v] w (SortPost B base zs.length v w) := by
  rcases Nat.eq_zero_or_pos zs.length with h0 | h0
  · obtain ⟨A, cap, rfl, _⟩ := own_slice h
    have hz0 : zs = [] := List.eq_nil_of_length_eq_zero h0
    subst hz0
    exact (Tryz.slices_Sort_int_none A cap w).mono fun e w' ⟨he, hw⟩ => ⟨he, [], rfl, hw ▸ h, hw ▸ Below.refl _ _⟩
  · obtain ⟨A, c, hv, _⟩ := own_slice h
    obtain ⟨g, cap, rfl, hbg, hlt, hcap, hm, _, hH⟩ := Lib.holds_of_ownsRow h (slice_nil_dec v A _ c hv h0)
    refine (Tryz.slices_Sort_int g 0 cap zs w hH hlt (by omega)).mono fun e w' ⟨he, n, os, hw⟩ => ⟨he, zs.mergeSort fun x y => decide (x ≤ y), by simp, ?_, ?_⟩
    · have h1 := Lib.ownsRow_putRow (q := n) (k := zs.length) (ys := zs.mergeSort fun x y => decide (x ≤ y)) h (by simp) (Nat.le_refl _)
      rw [List.take_of_length_le (by simp)] at h1
      rw [hw]
      exact own_later h1 (below_grow0 _ os)
    · rw [hw]
      have h2 : Below B w (Sort.putRow (Value.int .i64) (Sort.ahead w n) g 0 (zs.mergeSort fun x y => decide (x ≤ y)).toArray) := Lib.below_putRow (Below.refl B w) (by omega)
      exact h2.trans ((below_grow0 _ os).mono h2.size |> fun x => x.mono (by have := h2.size; omega))
theorem compact_pos (zs : List Int) (h : 0 < zs.length) : 0 < (Lib.compact zs).length := by
  unfold Lib.compact Lib.compactUpTo
  rw [List.length_map]
  apply List.length_pos_iff_exists_mem.2
  exact ⟨0, by rw [List.mem_filter]; exact ⟨by simpa using h, Lib.keeps_lt_one _ 0 (by omega)⟩⟩
def CompPost (B m : Nat) (w : World) (e : Ending) (w' : World) : Prop := ∃ A k c, e = .returned (.slice A k c) ∧ decide (0 < k) = decide (0 < m) ∧ k ≤ 2097152 ∧ Below B w w'
theorem compactI_any (B base : Nat) (v : Value) (zs : List Int) (w : World) (h : w.ownsRow base 2 1 v zs.length (zs.map (Value.int .i64))) (hB : B ≤ base) (_hBw : B ≤ w.heap.size) (hz : zs.length ≤ 2097152) :
    Calls Tryz.prog 133 #[v] w (CompPost B zs.length w) := by
  rcases Nat.eq_zero_or_pos zs.length with h0 | h0
  · obtain ⟨A, cap, rfl, _⟩ := own_slice h
    have hz0 : zs = [] := List.eq_nil_of_length_eq_zero h0
    subst hz0
    exact (Tryz.slices_Compact_int_empty A cap w).mono fun e w' ⟨he, hw⟩ => ⟨A, 0, cap, he, rfl, by omega, hw ▸ Below.refl _ _⟩
  · obtain ⟨A, c, hv, _⟩ := own_slice h
    obtain ⟨g, cap, rfl, hbg, hlt, hcap, hm, _, hH⟩ := Lib.holds_of_ownsRow h (slice_nil_dec v A _ c hv h0)
    refine (Tryz.slices_Compact_int g 0 cap zs w hH (by omega) hcap).mono fun e w' ⟨he, q, hw⟩ => ⟨_, _, _, he, ?_, ?_, ?_⟩
    · rw [decide_eq_true (compact_pos zs h0), decide_eq_true h0]
    · have : (Lib.compact zs).length ≤ zs.length := by
        unfold Lib.compact Lib.compactUpTo
        rw [List.length_map]
        have := List.length_filter_le (Lib.keeps zs.toArray) (List.range zs.length)
        simpa using this
      omega
    · rw [hw]
      exact Lib.below_putRow (Below.refl B w) (by omega)

def earlier (asks : List ItD) (job : Int) : List ItD := if 0 ≤ askAt asks job then asks.take (askAt asks job).toNat else asks
def frontI (held asks : List ItD) (job : Int) (nm : ByteArray) (ss : List ByteArray) : Bool := held.any (hBlkP job nm ss) || (earlier asks job).any (aBlkP held job nm ss)

set_option maxRecDepth 100000 in
set_option maxHeartbeats 8000000 in
theorem inFront_any (p : Nat) (held asks : List ItD) (job : Int) (nm : ByteArray) (S : Option Addr) (m q : Nat) (ss : List ByteArray) (w : World) (h : LkV w p held asks) (hs : smalls held) (hsa : smalls asks) (hS : Strs w w.heap.size S m ss) (hm : m ≤ 1048576) (hmq : m ≤ q) :
    Calls Tryz.prog 106 #[.pointer (some ⟨p, 0, none⟩), .int .i64 job, .string nm, .slice S m q] w (BlkPost (frontI held asks job nm ss) w) := by
  obtain ⟨i0, hi, hz0, hz1, hz2⟩ := info_parts infoI64
  have HV := Lib.hid h
  have HS' := Lib.hid hS
  have hn := hs.1
  have hn' := hsa.1
  have Hs := Lib.hid hs
  have Hsa := Lib.hid hsa
  have HR : Hid (frontI held asks job nm ss = (held.any (hBlkP job nm ss) || (earlier asks job).any (aBlkP held job nm ss))) := rfl
  have hob1 := (idxF_bd (jobP job) asks 0).1
  have hob2 := (idxF_bd (jobP job) asks 0).2
  change -1 ≤ askAt asks job at hob1
  change askAt asks job < _ at hob2
  have HKW := Lib.hid (fun W (hW : Below w.heap.size w W) => waiting_any p held asks job W (h.later hW) hsa)
  have HKB := Lib.hid (fun W (hW : Below w.heap.size w W) nm2 A1 n1 c1 ss1 (hs1 : Strs W W.heap.size A1 n1 ss1) (hn1 : n1 ≤ 1048576) (hc1 : n1 ≤ c1) => blocks_any p held asks job nm2 A1 n1 c1 ss1 W (h.later hW) hs hs1 hn1 hc1)
  have HEar : Hid (earlier asks job = if 0 ≤ askAt asks job then asks.take (askAt asks job).toNat else asks) := rfl
  clear hS hs hsa
  obtain ⟨hp, A, c, A', c', h0, h1, hc, hc', hi1, hi2⟩ := h
  have Hh := Lib.hid hi1
  have Ha := Lib.hid hi2
  clear hi1 hi2
  generalize frontI held asks job nm ss = R at *
  generalize askAt asks job = own at *
  generalize hlh : held.length = n at *
  generalize hla : asks.length = n' at *
  have Hlen := Lib.hid hlh
  have Hlena := Lib.hid hla
  clear hlh hla
  have hp1 : p < w.heap.size + 1 := by omega
  go_enter Tryz.func106, Tryz.ntmps106
  go_wp2_with fail
  go_loopw [9, 22] (fun v i wr => ∃ (k : Nat) (zs : List Int), k ≤ n ∧ i = .int .i64 k ∧ wr.ownsRow w.heap.size 2 1 v zs.length (zs.map (Value.int .i64)) ∧ zs.length ≤ k ∧ Below w.heap.size w wr ∧ Hid (held.any (hBlkP job nm ss) = (decide (0 < zs.length) || (held.drop k).any (hBlkP job nm ss)))) (fun _ i _ => n - (intOf i).toNat)
  case atStart => exact ⟨0, [], Nat.zero_le _, rfl, World.ownsRow_lit _ _ 0 (Nat.le_refl _) (by omega) rfl, Nat.le_refl _, Below.new _ _, rfl⟩
  case round =>
    obtain ⟨k, zs, hk, rfl, hO, hl, hb, hS⟩ := hrel
    have hsz := hb.size
    have HB := Lib.hid hb
    have HO := Lib.hid hO
    clear hb hO
    generalize hzl : zs.length = zl at *
    have HZL := Lib.hid hzl
    clear hzl
    by_cases hlt : k < n
    · obtain ⟨bb, o, rfl, hbB, hcc⟩ := (Hh.out.later HB.out).2 (by omega)
      obtain ⟨c0, c1, c2, c3, k0, k1, k2, k3, hr⟩ := hcc k hlt
      clear hcc
      have hl1 : k < held.length := by rw [Hlen.out]; exact hlt
      have HS := Lib.hid (any_step (hBlkP job nm ss) held k hl1)
      have hsm := Hs.out.2 _ (getD_mem held k hl1)
      clear hl1
      generalize held.getD k default = d at *
      obtain ⟨e0, e1, e2, A1, n1, cap1, e3, hs1, hcp1⟩ := hr
      subst e0 e1 e2 e3
      have hn1 : n1 ≤ 1048576 := by rw [← hs1.1]; exact hsm.2.1
      have HK := Lib.hid (fun W (hW : Below wr.heap.size wr W) => conflict_any d.name nm A1 S n1 cap1 m q d.subs ss W (hs1.later hW) ((HS'.out.later HB.out).later hW) hn1 hm hcp1 hmq)
      have HP : Hid (hBlkP job nm ss d = (decide (d.a ≠ job) && wayB d.name d.subs nm ss)) := rfl
      clear hs1 hsm
      generalize wayB d.name d.subs nm ss = x at *
      generalize hda : d.a = da at *
      have HDA := Lib.hid hda
      clear hda
      by_cases hj : da = job
      · subst hj
        have HP2 : Hid (hBlkP da nm ss d = false) := by unfold Hid; rw [HP.out]; simp
        go_wp2_with fail
        go_roundw
        case rel => exact ⟨k + 1, zs, by omega, by go_num, by rw [HZL.out]; exact HO.out.alloc _, by rw [HZL.out]; omega, HB.out.later (Below.new _ _), by unfold Hid; rw [hS.out, HS.out, HP2.out, HZL.out]; rfl⟩
        case measure => simp [intOf]; omega
      · have hb2 : (da != job) = true := by rw [bne_iff_ne]; exact hj
        have HP2 : Hid (hBlkP job nm ss d = x) := by unfold Hid; rw [HP.out]; simp [hj]
        clear hj
        go_wp2_with fail
        refine (HK.out _ (Below.new _ _)).mono ?_
        rintro e w1 ⟨rfl, q1, rfl⟩
        cases x
        · go_wp2_with fail
          go_roundw
          case rel => exact ⟨k + 1, zs, by omega, by go_num, by rw [HZL.out]; exact HO.out.alloc _, by rw [HZL.out]; omega, below_drewN (HB.out.later (Below.new _ _)) _, by unfold Hid; rw [hS.out, HS.out, HP2.out, HZL.out]; rfl⟩
          case measure => simp [intOf]; omega
        ·
          go_wp2_with (at_builtin; refine wpList_append_own _ rfl (.tmp 39) (.tmp 42) 30 rfl w.heap.size 2 i0 (.int .i64 0) 1 8 Tryz.underlying30 hi hz0 hz1 hz2 rfl (by decide) _ zl _ rfl (by exact (HO.out.alloc _).alloc _) ⟨_, 0, none⟩ 1 1 [.int .i64 da] rfl rfl ?c1d ?c2d ?c3d ?c4d ?c5d ?_)
          try case c1d => exact cells_at _ #[.int .i64 da] _ _ (by simp)
          case c2d => simp [Value.oneCell']
          case c3d => unfold maxLen; omega
          case c4d => omega
          case c5d => first | omega | (simp; omega)
          intro v1 w1 hown1 hg1 _
          have HO1 := Lib.hid hown1
          have HB1 := Lib.hid ((below_drewN (HB.out.later ((Below.new _ _).later (Below.new _ _))) q1).grown hg1 (by simp; omega) (fun g hg' => (HO.out.lt g hg').1))
          clear hown1 hg1
          go_wp2_with fail
          go_roundw
          case rel => exact ⟨k + 1, zs ++ [da], by omega, by go_num, by have hx := HO1.out; simpa [HZL.out] using hx, by simp [HZL.out]; omega, HB1.out, by unfold Hid; rw [hS.out, HS.out, HP2.out]; simp⟩
          case measure => simp [intOf]; omega
    · have HE1 : Hid (held.any (hBlkP job nm ss) = decide (0 < zl)) := by unfold Hid; rw [hS.out, List.drop_of_length_le (by rw [Hlen.out]; omega)]; simp
      clear hS
      have q1 := cell_later HB.out h1
      have hpr : p < wr.heap.size := by omega
      go_wp2_with fail
      refine (HKW.out _ HB.out).mono ?_
      rintro e w1 ⟨rfl, hb1⟩
      have HB1 := Lib.hid (HB.out.later hb1)
      have HO1 := Lib.hid (own_later HO.out hb1)
      have q2 := cell_later hb1 q1
      have hpr1 : p < w1.heap.size := by have := hb1.size; omega
      clear hb1 q1 hsz
      by_cases hown : 0 ≤ own
      · obtain ⟨j0, rfl⟩ := Int.eq_ofNat_of_zero_le hown
        have hj0 : j0 < n' := by omega
        have HEl : Hid (earlier asks job = asks.take j0) := by unfold Hid; rw [HEar.out, if_pos hown, Int.toNat_natCast]
        have HIe := Lib.hid (Ha.out.take j0 (by omega))
        have hj0c : j0 ≤ c' := by omega
        have HLe : Hid ((asks.take j0).length = j0) := by unfold Hid; rw [List.length_take, Hlena.out]; omega
        have HSm : Hid (∀ d ∈ asks.take j0, d.small) := fun d hd => Hsa.out.2 d (List.mem_of_mem_take hd)
        generalize hear : asks.take j0 = ear at *
        clear hear HEar
        go_wp2_with fail
        go_loopw [9, 62] (fun v i wr => ∃ (k : Nat) (zs : List Int), k ≤ j0 ∧ i = .int .i64 k ∧ wr.ownsRow w.heap.size 2 1 v zs.length (zs.map (Value.int .i64)) ∧ zs.length ≤ n + k ∧ Below w.heap.size w wr ∧ Hid (R = (decide (0 < zs.length) || (ear.drop k).any (aBlkP held job nm ss)))) (fun _ i _ => j0 - (intOf i).toNat)
        case atStart => exact ⟨0, zs, Nat.zero_le _, rfl, by rw [HZL.out]; exact HO1.out, by rw [HZL.out]; omega, HB1.out, by unfold Hid; rw [HR.out, HE1.out, HEl.out, HZL.out]; rfl⟩
        case round =>
          clear hlt hk hl hpr HB HO HO1 HB1 HE1 HZL q2 hpr1
          obtain ⟨k, zs, hk, rfl, hO, hl, hb, hS⟩ := hrel
          have hsz := hb.size
          have HB := Lib.hid hb
          have HO := Lib.hid hO
          clear hb hO
          generalize hzl : zs.length = zl at *
          have HZL := Lib.hid hzl
          clear hzl
          by_cases hlt : k < j0
          · obtain ⟨bb, o, rfl, hbB, hcc⟩ := (HIe.out.later HB.out).2 (by omega)
            obtain ⟨c0, c1, c2, c3, k0, k1, k2, k3, hr⟩ := hcc k hlt
            clear hcc
            have hl1 : k < ear.length := by rw [HLe.out]; exact hlt
            have HS := Lib.hid (any_step (aBlkP held job nm ss) ear k hl1)
            have hsm := HSm.out _ (getD_mem ear k hl1)
            clear hl1
            generalize ear.getD k default = d at *
            obtain ⟨e0, e1, e2, A1, n1, cap1, e3, hs1, hcp1⟩ := hr
            subst e0 e1 e2 e3
            have hn1 : n1 ≤ 1048576 := by rw [← hs1.1]; exact hsm.2.1
            have HK := Lib.hid (fun W (hW : Below wr.heap.size wr W) => conflict_any d.name nm A1 S n1 cap1 m q d.subs ss W (hs1.later hW) ((HS'.out.later HB.out).later hW) hn1 hm hcp1 hmq)
            have HK2 := Lib.hid (fun W (hW : Below wr.heap.size wr W) => HKB.out W (HB.out.later hW) d.name A1 n1 cap1 d.subs (hs1.later hW) hn1 hcp1)
            have HP : Hid (aBlkP held job nm ss d = (decide (d.a ≠ job) && wayB d.name d.subs nm ss && !heldUp held job d.name d.subs)) := rfl
            clear hs1 hsm
            generalize wayB d.name d.subs nm ss = x at *
            generalize heldUp held job d.name d.subs = y at *
            generalize hda : d.a = da at *
            have HDA := Lib.hid hda
            clear hda
            by_cases hj : da = job
            · subst hj
              have HP2 : Hid (aBlkP held da nm ss d = false) := by unfold Hid; rw [HP.out]; simp
              go_wp2_with fail
              go_roundw
              case rel => exact ⟨k + 1, zs, by omega, by go_num, by rw [HZL.out]; exact HO.out.alloc _, by rw [HZL.out]; omega, HB.out.later (Below.new _ _), by unfold Hid; rw [hS.out, HS.out, HP2.out, HZL.out]; rfl⟩
              case measure => simp [intOf]; omega
            · have hb2 : (da != job) = true := by rw [bne_iff_ne]; exact hj
              have HP2 : Hid (aBlkP held job nm ss d = (x && !y)) := by unfold Hid; rw [HP.out]; simp [hj]
              clear hj
              go_wp2_with fail
              refine (HK.out _ (Below.new _ _)).mono ?_
              rintro e w1 ⟨rfl, q1, rfl⟩
              cases x
              · go_wp2_with fail
                go_roundw
                case rel => exact ⟨k + 1, zs, by omega, by go_num, by rw [HZL.out]; exact HO.out.alloc _, by rw [HZL.out]; omega, below_drewN (HB.out.later (Below.new _ _)) _, by unfold Hid; rw [hS.out, HS.out, HP2.out, HZL.out]; rfl⟩
                case measure => simp [intOf]; omega
              · go_wp2_with fail
                refine (HK2.out _ (by exact below_drewN (Below.new _ _) _)).mono ?_
                rintro e w2 ⟨rfl, hb3⟩
                have hb3u := undrewN hb3
                have HB3 := Lib.hid ((HB.out.later (Below.new _ _)).later hb3u)
                have HO3 := Lib.hid (own_later (HO.out.alloc _) hb3u)
                have r0 := (Blk.later (heap_alloc_new wr _) hb3u (by simp)).cell
                have zr := (Blk.later (heap_alloc_new wr _) hb3u (by simp)).lt
                have hsz3 := HB3.out.size
                clear hb3 hb3u
                cases y
                ·
                  go_wp2_with (at_builtin; refine wpList_append_own _ rfl (.tmp 89) (.tmp 92) 30 rfl w.heap.size 2 i0 (.int .i64 0) 1 8 Tryz.underlying30 hi hz0 hz1 hz2 rfl (by decide) _ zl _ rfl (HO3.out.alloc _) ⟨_, 0, none⟩ 1 1 [.int .i64 da] rfl rfl ?c1ef ?c2ef ?c3ef ?c4ef ?c5ef ?_)
                  try case c1ef => exact cells_at _ #[.int .i64 da] _ _ (by simp)
                  case c2ef => simp [Value.oneCell']
                  case c3ef => unfold maxLen; omega
                  case c4ef => omega
                  case c5ef => first | omega | (simp; omega)
                  intro v1 w3 hown1 hg1 _
                  have HO4 := Lib.hid hown1
                  have HB4 := Lib.hid ((HB3.out.later (Below.new _ _)).grown hg1 (by simp; omega) (fun g hg' => (HO3.out.lt g hg').1))
                  clear hown1 hg1
                  go_wp2_with fail
                  go_roundw
                  case rel => exact ⟨k + 1, zs ++ [da], by omega, by go_num, by have hx := HO4.out; simpa [HZL.out] using hx, by simp [HZL.out]; omega, HB4.out, by unfold Hid; rw [hS.out, HS.out, HP2.out]; simp⟩
                  case measure => simp [intOf]; omega
                · go_wp2_with fail
                  go_roundw
                  case rel => exact ⟨k + 1, zs, by omega, by go_num, by rw [HZL.out]; exact HO3.out, by rw [HZL.out]; omega, HB3.out, by unfold Hid; rw [hS.out, HS.out, HP2.out, HZL.out]; rfl⟩
                  case measure => simp [intOf]; omega
          · have HE2 : Hid (R = decide (0 < zl)) := by unfold Hid; rw [hS.out, List.drop_of_length_le (by rw [HLe.out]; omega)]; simp
            clear hS
            have HKS := Lib.hid (sortI_any w.heap.size w.heap.size u9 zs wr (by rw [HZL.out]; exact HO.out) (Nat.le_refl _) hsz (by rw [HZL.out]; omega))
            rw [HZL.out] at HKS
            obtain ⟨Av, cv, ev, _⟩ := own_slice HO.out
            subst ev
            go_wp2_with fail
            refine HKS.out.mono ?_
            rintro e w4 ⟨rfl, ys, hys, hown4, hb4⟩
            have HB4 := Lib.hid (HB.out.trans hb4)
            have HKC := Lib.hid (compactI_any w.heap.size w.heap.size _ ys w4 (by rw [hys]; exact hown4) (Nat.le_refl _) HB4.out.size (by omega))
            rw [hys] at HKC
            clear hb4 hown4 hys
            go_wp2_with fail
            refine HKC.out.mono ?_
            rintro e w5 ⟨A5, k5, c5, rfl, hk5, hk5b, hb5⟩
            have HB5 := Lib.hid (HB4.out.trans hb5)
            have HK5 := Lib.hid hk5
            clear hb5 hk5
            go_wp2_with fail
            go_ret
            exact ⟨A5, k5, c5, rfl, by rw [HK5.out, HE2.out], by omega, HB5.out⟩
      · have hneg : own < 0 := by omega
        have HEl : Hid (earlier asks job = asks) := by unfold Hid; rw [HEar.out, if_neg hown]
        have HIe := Lib.hid Ha.out
        have HLe : Hid (asks.length = n') := Hlena.out
        have HSm : Hid (∀ d ∈ asks, d.small) := Hsa.out.2
        clear hown HEar
        go_wp2_with fail
        go_loopw [9, 62] (fun v i wr => ∃ (k : Nat) (zs : List Int), k ≤ n' ∧ i = .int .i64 k ∧ wr.ownsRow w.heap.size 2 1 v zs.length (zs.map (Value.int .i64)) ∧ zs.length ≤ n + k ∧ Below w.heap.size w wr ∧ Hid (R = (decide (0 < zs.length) || (asks.drop k).any (aBlkP held job nm ss)))) (fun _ i _ => n' - (intOf i).toNat)
        case atStart => exact ⟨0, zs, Nat.zero_le _, rfl, by rw [HZL.out]; exact HO1.out, by rw [HZL.out]; omega, HB1.out, by unfold Hid; rw [HR.out, HE1.out, HEl.out, HZL.out]; rfl⟩
        case round =>
          clear hlt hk hl hpr HB HO HO1 HB1 HE1 HZL q2 hpr1
          obtain ⟨k, zs, hk, rfl, hO, hl, hb, hS⟩ := hrel
          have hsz := hb.size
          have HB := Lib.hid hb
          have HO := Lib.hid hO
          clear hb hO
          generalize hzl : zs.length = zl at *
          have HZL := Lib.hid hzl
          clear hzl
          by_cases hlt : k < n'
          · obtain ⟨bb, o, rfl, hbB, hcc⟩ := (HIe.out.later HB.out).2 (by omega)
            obtain ⟨c0, c1, c2, c3, k0, k1, k2, k3, hr⟩ := hcc k hlt
            clear hcc
            have hl1 : k < asks.length := by rw [HLe.out]; exact hlt
            have HS := Lib.hid (any_step (aBlkP held job nm ss) asks k hl1)
            have hsm := HSm.out _ (getD_mem asks k hl1)
            clear hl1
            generalize asks.getD k default = d at *
            obtain ⟨e0, e1, e2, A1, n1, cap1, e3, hs1, hcp1⟩ := hr
            subst e0 e1 e2 e3
            have hn1 : n1 ≤ 1048576 := by rw [← hs1.1]; exact hsm.2.1
            have HK := Lib.hid (fun W (hW : Below wr.heap.size wr W) => conflict_any d.name nm A1 S n1 cap1 m q d.subs ss W (hs1.later hW) ((HS'.out.later HB.out).later hW) hn1 hm hcp1 hmq)
            have HK2 := Lib.hid (fun W (hW : Below wr.heap.size wr W) => HKB.out W (HB.out.later hW) d.name A1 n1 cap1 d.subs (hs1.later hW) hn1 hcp1)
            have HP : Hid (aBlkP held job nm ss d = (decide (d.a ≠ job) && wayB d.name d.subs nm ss && !heldUp held job d.name d.subs)) := rfl
            clear hs1 hsm
            generalize wayB d.name d.subs nm ss = x at *
            generalize heldUp held job d.name d.subs = y at *
            generalize hda : d.a = da at *
            have HDA := Lib.hid hda
            clear hda
            by_cases hj : da = job
            · subst hj
              have HP2 : Hid (aBlkP held da nm ss d = false) := by unfold Hid; rw [HP.out]; simp
              go_wp2_with fail
              go_roundw
              case rel => exact ⟨k + 1, zs, by omega, by go_num, by rw [HZL.out]; exact HO.out.alloc _, by rw [HZL.out]; omega, HB.out.later (Below.new _ _), by unfold Hid; rw [hS.out, HS.out, HP2.out, HZL.out]; rfl⟩
              case measure => simp [intOf]; omega
            · have hb2 : (da != job) = true := by rw [bne_iff_ne]; exact hj
              have HP2 : Hid (aBlkP held job nm ss d = (x && !y)) := by unfold Hid; rw [HP.out]; simp [hj]
              clear hj
              go_wp2_with fail
              refine (HK.out _ (Below.new _ _)).mono ?_
              rintro e w1 ⟨rfl, q1, rfl⟩
              cases x
              · go_wp2_with fail
                go_roundw
                case rel => exact ⟨k + 1, zs, by omega, by go_num, by rw [HZL.out]; exact HO.out.alloc _, by rw [HZL.out]; omega, below_drewN (HB.out.later (Below.new _ _)) _, by unfold Hid; rw [hS.out, HS.out, HP2.out, HZL.out]; rfl⟩
                case measure => simp [intOf]; omega
              · go_wp2_with fail
                refine (HK2.out _ (by exact below_drewN (Below.new _ _) _)).mono ?_
                rintro e w2 ⟨rfl, hb3⟩
                have hb3u := undrewN hb3
                have HB3 := Lib.hid ((HB.out.later (Below.new _ _)).later hb3u)
                have HO3 := Lib.hid (own_later (HO.out.alloc _) hb3u)
                have r0 := (Blk.later (heap_alloc_new wr _) hb3u (by simp)).cell
                have zr := (Blk.later (heap_alloc_new wr _) hb3u (by simp)).lt
                have hsz3 := HB3.out.size
                clear hb3 hb3u
                cases y
                ·
                  go_wp2_with (at_builtin; refine wpList_append_own _ rfl (.tmp 89) (.tmp 92) 30 rfl w.heap.size 2 i0 (.int .i64 0) 1 8 Tryz.underlying30 hi hz0 hz1 hz2 rfl (by decide) _ zl _ rfl (HO3.out.alloc _) ⟨_, 0, none⟩ 1 1 [.int .i64 da] rfl rfl ?c1eg ?c2eg ?c3eg ?c4eg ?c5eg ?_)
                  try case c1eg => exact cells_at _ #[.int .i64 da] _ _ (by simp)
                  case c2eg => simp [Value.oneCell']
                  case c3eg => unfold maxLen; omega
                  case c4eg => omega
                  case c5eg => first | omega | (simp; omega)
                  intro v1 w3 hown1 hg1 _
                  have HO4 := Lib.hid hown1
                  have HB4 := Lib.hid ((HB3.out.later (Below.new _ _)).grown hg1 (by simp; omega) (fun g hg' => (HO3.out.lt g hg').1))
                  clear hown1 hg1
                  go_wp2_with fail
                  go_roundw
                  case rel => exact ⟨k + 1, zs ++ [da], by omega, by go_num, by have hx := HO4.out; simpa [HZL.out] using hx, by simp [HZL.out]; omega, HB4.out, by unfold Hid; rw [hS.out, HS.out, HP2.out]; simp⟩
                  case measure => simp [intOf]; omega
                · go_wp2_with fail
                  go_roundw
                  case rel => exact ⟨k + 1, zs, by omega, by go_num, by rw [HZL.out]; exact HO3.out, by rw [HZL.out]; omega, HB3.out, by unfold Hid; rw [hS.out, HS.out, HP2.out, HZL.out]; rfl⟩
                  case measure => simp [intOf]; omega
          · have HE2 : Hid (R = decide (0 < zl)) := by unfold Hid; rw [hS.out, List.drop_of_length_le (by rw [HLe.out]; omega)]; simp
            clear hS
            have HKS := Lib.hid (sortI_any w.heap.size w.heap.size u9 zs wr (by rw [HZL.out]; exact HO.out) (Nat.le_refl _) hsz (by rw [HZL.out]; omega))
            rw [HZL.out] at HKS
            obtain ⟨Av, cv, ev, _⟩ := own_slice HO.out
            subst ev
            go_wp2_with fail
            refine HKS.out.mono ?_
            rintro e w4 ⟨rfl, ys, hys, hown4, hb4⟩
            have HB4 := Lib.hid (HB.out.trans hb4)
            have HKC := Lib.hid (compactI_any w.heap.size w.heap.size _ ys w4 (by rw [hys]; exact hown4) (Nat.le_refl _) HB4.out.size (by omega))
            rw [hys] at HKC
            clear hb4 hown4 hys
            go_wp2_with fail
            refine HKC.out.mono ?_
            rintro e w5 ⟨A5, k5, c5, rfl, hk5, hk5b, hb5⟩
            have HB5 := Lib.hid (HB4.out.trans hb5)
            have HK5 := Lib.hid hk5
            clear hb5 hk5
            go_wp2_with fail
            go_ret
            exact ⟨A5, k5, c5, rfl, by rw [HK5.out, HE2.out], by omega, HB5.out⟩

set_option maxHeartbeats 400000 in
theorem may_any (p : Nat) (held asks : List ItD) (job : Int) (nm : ByteArray) (S : Option Addr) (m q : Nat) (ss : List ByteArray) (w : World) (h : LkV w p held asks) (hs : smalls held) (hsa : smalls asks) (hS : Strs w w.heap.size S m ss) (hm : m ≤ 1048576) (hmq : m ≤ q) :
    Calls Tryz.prog 88 #[.pointer (some ⟨p, 0, none⟩), .int .i64 job, .string nm, .slice S m q] w fun e w' => e = .returned (.bool (!frontI held asks job nm ss)) ∧ Below w.heap.size w w' := by
  have HK := Lib.hid (inFront_any p held asks job nm S m q ss w h hs hsa hS hm hmq)
  clear h hs hsa hS
  generalize frontI held asks job nm ss = R at *
  go_enter Tryz.func88, Tryz.ntmps88
  go_wp2_with fail
  refine HK.out.mono ?_
  rintro e w1 ⟨A2, m2, c2, rfl, hR, hm2, hb1⟩
  have HB := Lib.hid hb1
  have HR := Lib.hid hR
  clear hb1 hR
  go_wp2_with fail
  go_ret
  refine ⟨ret_bool ?_, HB.out⟩
  rw [← HR.out, Bool.eq_iff_iff]
  simp
end Go.Proofs.YtiebcdajoddkpaaGreatDoor

