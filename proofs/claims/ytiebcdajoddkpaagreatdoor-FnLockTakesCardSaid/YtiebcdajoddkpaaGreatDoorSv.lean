/-
  The source of draws: next, pick, one, among and text leave a source, and change nothing else. The reference's l24Without; items of the call's own without one. What the reference's l24Grant grants. Items sifted out of a row of the call's own into another row of its own.
-/
import Derived.Test.YtiebcdajoddkpaaGreatDoorLwR
import Derived.Laws.BitsAllLaws
import Derived.Test.YtiebcdajoddkpaaGreatDoorGr3
import Derived.Test.YtiebcdajoddkpaaGreatDoorDlt
namespace Go.Proofs.YtiebcdajoddkpaaGreatDoor
open Go.RowKit
set_option linter.unusedVariables false

/-- Bytes that can be read. -/
def BytesR (w : World) (B : Nat) (A : Option Addr) (n : Nat) : Prop := 0 < n → ∃ b o, A = some ⟨b, o, none⟩ ∧ b < B ∧ ∀ j, j < n → ∃ x : Nat, w.cell? ⟨b, o + j, none⟩ = some (.int .u8 x) ∧ x ≤ 255
/-- A source whose place is at most K. -/
def SrcR (w : World) (p K : Nat) : Prop := ∃ (A : Option Addr) (n c a s : Nat), Blk w p 103 #[.slice A n c, .int .i64 a, .int .u64 s] ∧ BytesR w p A n ∧ a ≤ K ∧ n ≤ 1048576 ∧ s < 18446744073709551616
theorem BytesR.later {w w' : World} {B : Nat} {A : Option Addr} {n : Nat} (h : BytesR w B A n) (hk : ∀ i, i < B → w'.heap[i]? = w.heap[i]?) : BytesR w' B A n := fun hn => by
  obtain ⟨b, o, e, hb, hc⟩ := h hn
  refine ⟨b, o, e, hb, fun j hj => ?_⟩
  obtain ⟨x, h1, h2⟩ := hc j hj
  exact ⟨x, (World.cell?_of_block (w := w) (hk b hb)).trans h1, h2⟩
theorem SrcR.later {w w' : World} {p K : Nat} (h : SrcR w p K) (hb : Below w.heap.size w w') : SrcR w' p K := by
  obtain ⟨A, n, c, a, s, hB, hY, h1, h2, h3⟩ := h
  exact ⟨A, n, c, a, s, hB.later hb hB.lt, hY.later (fun i hi => hb.block i (by have := hB.lt; omega)), h1, h2, h3⟩
theorem SrcR.mono {w : World} {p K K' : Nat} (h : SrcR w p K) (hK : K ≤ K') : SrcR w p K' := by
  obtain ⟨A, n, c, a, s, hB, hY, h1, h2, h3⟩ := h
  exact ⟨A, n, c, a, s, hB, hY, by omega, h2, h3⟩
theorem SrcR.lt {w : World} {p K : Nat} (h : SrcR w p K) : p < w.heap.size := by
  obtain ⟨A, n, c, a, s, hB, _⟩ := h
  exact hB.lt
/-- What a draw leaves: the source, and all else as it was. -/
structure Drawn (p K : Nat) (w w' : World) : Prop where
  src : SrcR w' p K
  chg : Chg (fun g => g = p) w w'
theorem Drawn.later {p K : Nat} {a b c : World} (h : Drawn p K a b) (hb : Below b.heap.size b c) : Drawn p K a c := ⟨h.src.later hb, h.chg.trans (Chg.of_below hb)⟩
theorem Drawn.trans {p K K' : Nat} {a b c : World} (h : Drawn p K a b) (k : Drawn p K' b c) : Drawn p K' a c := ⟨k.src, h.chg.trans k.chg⟩
theorem SrcR.not_own {w : World} {p K : Nat} (h : SrcR w p K) {base e size n : Nat} {v : Value} {xs : List Value} (hr : w.ownsRow base e size v n xs) (he : e ≠ 103) : inP (fun g => ¬ g = p) v := fun g hg e1 => by
  obtain ⟨A, m, c, a, s, hB, _⟩ := h
  subst e1
  exact own_blk_ne hr hB he hg
theorem OwnIts.drawn {w w' : World} {p K K' base t : Nat} {v : Value} {fs : List ItD} {vs : List Value} (h : OwnIts w base t v fs vs) (hs : SrcR w p K) (hd : Drawn p K' w w') (ht : t ≠ 103) : OwnIts w' base t v fs vs :=
  h.chg hd.chg (hs.not_own h.row ht) (fun u hu => by
    obtain ⟨j, hj, rfl⟩ := mem_getD hu
    exact hs.not_own (h.subs j (by rw [← h.len]; exact hj)) (by decide))

theorem Chg.drewN {P : Nat → Prop} {a b : World} (h : Chg P a b) (q : Nat) : Chg P a (b.drewN q) := h.trans (Chg.of_below (below_drewN (Below.refl _ _) q))
theorem src_put {w : World} {p K a s s2 n c : Nat} {A : Option Addr} (hB : Blk w p 103 #[.slice A n c, .int .i64 a, .int .u64 s]) (hY : BytesR w p A n) (ha : a ≤ K) (hn : n ≤ 1048576) (hs : s2 < 18446744073709551616) (q q2 : Nat) :
    Drawn p (K + 1) w ((((w.drewN q).setCell ⟨p, 1, none⟩ (.int .i64 ((a : Int) + 1))).setCell ⟨p, 2, none⟩ (.int .u64 s2)).drewN q2) := by
  have hc : Chg (fun g => g = p) w ((((w.drewN q).setCell ⟨p, 1, none⟩ (.int .i64 ((a : Int) + 1))).setCell ⟨p, 2, none⟩ (.int .u64 s2)).drewN q2) :=
    Chg.drewN (Chg.set (Chg.set (P := fun g => g = p) (Chg.drewN (Chg.refl (fun g => g = p) w) q) (g := p) rfl 1 (.int .i64 ((a : Int) + 1))) (g := p) rfl 2 (.int .u64 s2)) q2
  have h1 : Blk (w.drewN q) p 103 #[.slice A n c, .int .i64 a, .int .u64 s] := hB
  have h2 := (h1.set_ 1 (.int .i64 ((a : Int) + 1))).set_ 2 (.int .u64 s2)
  have h3 : Blk ((((w.drewN q).setCell ⟨p, 1, none⟩ (.int .i64 ((a : Int) + 1))).setCell ⟨p, 2, none⟩ (.int .u64 s2)).drewN q2) p 103 #[.slice A n c, .int .i64 ((a + 1 : Nat) : Int), .int .u64 s2] := by
    have h4 : Blk ((((w.drewN q).setCell ⟨p, 1, none⟩ (.int .i64 ((a : Int) + 1))).setCell ⟨p, 2, none⟩ (.int .u64 s2))) p 103 #[.slice A n c, .int .i64 ((a + 1 : Nat) : Int), .int .u64 s2] := by simpa using h2
    exact h4
  exact ⟨⟨A, n, c, a + 1, s2, h3, hY.later (fun i hi => hc.block i (by have := hB.lt; omega) (by omega)), by omega, hn, hs⟩, hc⟩
theorem low_byte (s : Nat) (h : s < 18446744073709551616) : ∃ x : Nat, wrap64 (bits BinOp.and IntKind.u64 ((s : Int) / 1099511627776) 255) = x ∧ x ≤ 255 := by
  have e : (s : Int) / 1099511627776 = ((s / 1099511627776 : Nat) : Int) := by omega
  have h1 := u64_and_nat (s / 1099511627776) 255 (by omega) (by omega)
  have h2 : s / 1099511627776 &&& 255 ≤ 255 := Nat.and_le_right
  refine ⟨s / 1099511627776 &&& 255, ?_, h2⟩
  rw [e]
  have h3 : bits BinOp.and IntKind.u64 ((s / 1099511627776 : Nat) : Int) 255 = ((s / 1099511627776 &&& 255 : Nat) : Int) := h1
  rw [h3]
  unfold wrap64
  omega
theorem u64_nat (z : Int) : ∃ s : Nat, IntKind.u64.wrap z = s ∧ s < 18446744073709551616 :=
  ⟨(z % 18446744073709551616).toNat, by rw [IntKind.wrap_u64]; omega, by omega⟩
set_option maxHeartbeats 1000000 in
theorem next_any (p K : Nat) (w : World) (h : SrcR w p K) (hK : K ≤ 1099511627776) :
    Calls Tryz.prog 77 #[.pointer (some ⟨p, 0, none⟩)] w fun e w' => ∃ x : Nat, e = .returned (.int .i64 x) ∧ x ≤ 255 ∧ Drawn p (K + 1) w w' := by
  obtain ⟨A, n, c, a, s, hB, hY, ha, hn, hs⟩ := h
  have HB := Lib.hid hB
  have HY := Lib.hid hY
  have c0 := hB.cell 0
  have c1 := hB.cell 1
  have c2 := hB.cell 2
  have f1 := hB.frozen 1
  have f2 := hB.frozen 2
  have hz := hB.lt
  simp at c0 c1 c2
  clear hB hY
  go_enter Tryz.func77, Tryz.ntmps77
  by_cases hlt : a < n
  · obtain ⟨b, o, rfl, hb, hc⟩ := HY.out (by omega)
    obtain ⟨x, hx, hx2⟩ := hc a hlt
    clear hc
    go_wp2_with fail
    go_quiet (fail)
    go_wp2_with fail
    go_quiet (fail)
    go_wp2_with fail
    obtain ⟨s2, hs2, hs3⟩ := u64_nat (IntKind.u64.wrap (IntKind.u64.wrap ((s : Int) * 6364136223846793005) + x) + 1442695040888963407)
    rw [hs2]
    clear hs2
    go_quiet (fail)
    go_wp2_with fail
    go_ret
    exact ⟨x, rfl, hx2, src_put HB.out HY.out ha hn hs3 _ _⟩
  · go_wp2_with fail
    go_quiet (fail)
    go_wp2_with fail
    obtain ⟨s2, hs2, hs3⟩ := u64_nat (IntKind.u64.wrap (IntKind.u64.wrap ((s : Int) * 6364136223846793005)) + 1442695040888963407)
    rw [hs2]
    clear hs2
    have hnot : ¬ (a : Int) + 1 ≤ (n : Int) := by omega
    go_quiet (fail)
    go_wp2_with fail
    obtain ⟨x, hx, hx2⟩ := low_byte s2 hs3
    rw [hx]
    go_ret
    exact ⟨x, rfl, hx2, src_put HB.out HY.out ha hn hs3 _ _⟩

theorem Drawn.refl {p K : Nat} {w : World} (h : SrcR w p K) : Drawn p K w w := ⟨h, Chg.refl _ _⟩
theorem Drawn.mono {p K K' : Nat} {a b : World} (h : Drawn p K a b) (hK : K ≤ K') : Drawn p K' a b := ⟨h.src.mono hK, h.chg⟩
theorem emod_nat (z n : Int) (h : 0 < n) : ∃ x : Nat, z % n = x ∧ (x : Int) < n :=
  ⟨(z % n).toNat, by have := Int.emod_nonneg z (show n ≠ 0 by omega); omega, by have := Int.emod_lt_of_pos z h; have := Int.emod_nonneg z (show n ≠ 0 by omega); omega⟩
set_option maxHeartbeats 1000000 in
theorem pick_any (p K : Nat) (n : Int) (w : World) (h : SrcR w p K) (hK : K ≤ 1099511627775) (hn : n ≤ 4294967296) :
    Calls Tryz.prog 36 #[.pointer (some ⟨p, 0, none⟩), .int .i64 n] w fun e w' => ∃ x : Nat, e = .returned (.int .i64 x) ∧ ((x : Int) < n ∨ x = 0) ∧ Drawn p (K + 2) w w' := by
  have HK1 := Lib.hid (next_any p K w h (by omega))
  have HK2 := Lib.hid (fun W (hW : SrcR W p (K + 1)) => next_any p (K + 1) W hW (by omega))
  have HD0 := Lib.hid ((Drawn.refl h).mono (show K ≤ K + 2 by omega))
  clear h
  go_enter Tryz.func36, Tryz.ntmps36
  by_cases h1 : n ≤ 1
  · go_wp2_with fail
    go_ret
    exact ⟨0, rfl, .inr rfl, HD0.out⟩
  · go_wp2_with fail
    refine HK1.out.mono ?_
    rintro e w1 ⟨x, rfl, hx, hd1⟩
    have HD1 := Lib.hid (hd1.mono (show K + 1 ≤ K + 2 by omega))
    have HN := Lib.hid (HK2.out w1 hd1.src)
    have HD2 := Lib.hid hd1
    clear hd1 HK1 HK2
    have hn0 : ¬ n = 0 := by omega
    by_cases h2 : 200 < n
    · go_wp2_with fail
      refine HN.out.mono ?_
      rintro e w2 ⟨y, rfl, hy, hd2⟩
      have HD3 := Lib.hid (HD2.out.trans hd2)
      clear hd2
      go_wp2_with fail
      obtain ⟨z, hz1, hz2⟩ := emod_nat ((x : Int) * 256 + y) n (by omega)
      rw [hz1]
      go_ret
      exact ⟨z, rfl, .inl hz2, HD3.out⟩
    · go_wp2_with fail
      obtain ⟨z, hz1, hz2⟩ := emod_nat (x : Int) n (by omega)
      rw [hz1]
      go_ret
      exact ⟨z, rfl, .inl hz2, HD1.out⟩
set_option maxHeartbeats 1000000 in
theorem one_any (p K : Nat) (n : Int) (w : World) (h : SrcR w p K) (hK : K ≤ 1099511627775) (hn : n ≤ 4294967296) :
    Calls Tryz.prog 116 #[.pointer (some ⟨p, 0, none⟩), .int .i64 n] w fun e w' => ∃ b : Bool, e = .returned (.bool b) ∧ Drawn p (K + 2) w w' := by
  have HK1 := Lib.hid (pick_any p K n w h hK hn)
  clear h
  go_enter Tryz.func116, Tryz.ntmps116
  go_wp2_with fail
  refine HK1.out.mono ?_
  rintro e w1 ⟨x, rfl, _, hd1⟩
  have HD1 := Lib.hid hd1
  clear hd1
  go_wp2_with fail
  go_ret
  exact ⟨_, rfl, HD1.out⟩
theorem SrcR.ne {w : World} {p K b o : Nat} {v : Value} (h : SrcR w p K) (hv : w.cell? ⟨b, o, none⟩ = some v) (h1 : (∀ A n c, v ≠ .slice A n c) ∧ (∀ z, v ≠ .int .i64 z) ∧ (∀ z, v ≠ .int .u64 z)) : b ≠ p := by
  rintro rfl
  obtain ⟨A, n, c, a, s, hB, _⟩ := h
  have h2 := (hB.cell o).symm.trans hv
  rcases o with _ | _ | _ | o
  · exact h1.1 _ _ _ (by simpa using h2.symm)
  · exact h1.2.1 _ (by simpa using h2.symm)
  · exact h1.2.2 _ (by simpa using h2.symm)
  · simp at h2
theorem SrcR.strs {w w' : World} {p K K' n : Nat} {A : Option Addr} {ss : List ByteArray} (h : SrcR w p K) (hs : Strs w w.heap.size A n ss) (hd : Drawn p K' w w') : Strs w' w'.heap.size A n ss := by
  refine ⟨hs.1, fun hn => ?_⟩
  obtain ⟨b, o, e, hb, hc⟩ := hs.2 hn
  have hne : b ≠ p := h.ne (hc 0 hn) ⟨fun _ _ _ => by simp, fun _ => by simp, fun _ => by simp⟩
  exact ⟨b, o, e, Nat.lt_of_lt_of_le hb hd.chg.size, fun j hj => (World.cell?_of_block (w := w) (hd.chg.block b hb hne)).trans (hc j hj)⟩
set_option maxHeartbeats 1000000 in
theorem text_any (p K : Nat) (A : Option Addr) (n c : Nat) (ss : List ByteArray) (w : World) (h : SrcR w p K) (hK : K ≤ 1099511627775) (hs : Strs w w.heap.size A n ss) (hn : 0 < n) (hn2 : n ≤ 1048576) :
    Calls Tryz.prog 98 #[.pointer (some ⟨p, 0, none⟩), .slice A n c] w fun e w' => ∃ s ∈ ss, e = .returned (.string s) ∧ Drawn p (K + 2) w w' := by
  have HK1 := Lib.hid (pick_any p K n w h hK (by omega))
  have HS := Lib.hid (fun w' (hd : Drawn p (K + 2) w w') => h.strs hs hd)
  have HL : Hid (ss.length = n) := hs.1
  clear h hs
  go_enter Tryz.func98, Tryz.ntmps98
  go_wp2_with fail
  refine HK1.out.mono ?_
  rintro e w1 ⟨x, rfl, hx, hd1⟩
  have hxn : x < n := by omega
  obtain ⟨b, o, rfl, hb, hc⟩ := (HS.out w1 hd1).2 hn
  have hcx := hc x hxn
  have HM : Hid (ss.getD x ByteArray.empty ∈ ss) := mem_of_getD ss x _ (by rw [HL.out]; exact hxn)
  have HD1 := Lib.hid hd1
  clear hd1 hc hx HS
  generalize ss.getD x ByteArray.empty = t at *
  go_wp2_with fail
  go_ret
  exact ⟨t, HM.out, rfl, HD1.out⟩
set_option maxHeartbeats 1000000 in
theorem among_any (p K : Nat) (b n c : Nat) (zs : List Int) (w : World) (h : SrcR w p K) (hK : K ≤ 1099511627775) (hs : Ints w w.heap.size (some ⟨b, 0, none⟩) n zs) (hbp : b ≠ p) (hn : 0 < n) (hn2 : n ≤ 1048576) :
    Calls Tryz.prog 46 #[.pointer (some ⟨p, 0, none⟩), .slice (some ⟨b, 0, none⟩) n c] w fun e w' => ∃ z ∈ zs, e = .returned (.int .i64 z) ∧ Drawn p (K + 2) w w' := by
  have HK1 := Lib.hid (pick_any p K n w h hK (by omega))
  have HS : Hid (∀ w', Drawn p (K + 2) w w' → Ints w' w'.heap.size (some ⟨b, 0, none⟩) n zs) := fun w' hd => by
    refine ⟨hs.1, fun hn => ?_⟩
    obtain ⟨b', o, e, hb, hc⟩ := hs.2 hn
    cases e
    exact ⟨b, 0, rfl, Nat.lt_of_lt_of_le hb hd.chg.size, fun j hj => (World.cell?_of_block (w := w) (hd.chg.block b hb hbp)).trans (hc j hj)⟩
  have HL : Hid (zs.length = n) := hs.1
  clear h hs
  go_enter Tryz.func46, Tryz.ntmps46
  go_wp2_with fail
  refine HK1.out.mono ?_
  rintro e w1 ⟨x, rfl, hx, hd1⟩
  have hxn : x < n := by omega
  obtain ⟨b', o, e, hb, hc⟩ := (HS.out w1 hd1).2 hn
  cases e
  have hcx := hc x hxn
  have HM : Hid (zs.getD x 0 ∈ zs) := mem_of_getD zs x _ (by rw [HL.out]; exact hxn)
  have HD1 := Lib.hid hd1
  clear hd1 hc hx HS
  rw [Nat.zero_add] at hcx
  generalize zs.getD x 0 = t at *
  go_wp2_with fail
  go_ret
  exact ⟨t, HM.out, rfl, HD1.out⟩
end Go.Proofs.YtiebcdajoddkpaaGreatDoor

namespace Go.Proofs.YtiebcdajoddkpaaGreatDoor
open Go.RowKit
set_option linter.unusedVariables false

theorem getD_erase {α : Type} (l : List α) (k j : Nat) (dd : α) : (l.eraseIdx k).getD j dd = if j < k then l.getD j dd else l.getD (j + 1) dd := by
  simp only [List.getD_eq_getElem?_getD, List.getElem?_eraseIdx]
  split <;> rfl
theorem flat_erase (fs : List ItD) (vs : List Value) (k : Nat) (hl : vs.length = fs.length) (hk : k < fs.length) : flat (fs.eraseIdx k) (vs.eraseIdx k) = (flat fs vs).take (k * 4) ++ (flat fs vs).drop ((k + 1) * 4) := by
  rw [List.eraseIdx_eq_take_drop_succ, List.eraseIdx_eq_take_drop_succ, flat_append _ _ _ _ (by rw [List.length_take, List.length_take, hl]), flat_take fs vs k hl, flat_drop fs vs (k + 1) hl]
theorem OwnIts.erase {w w' : World} {base t : Nat} {v v' : Value} {fs : List ItD} {vs : List Value} (h : OwnIts w base t v fs vs) {k : Nat} (hk : k < fs.length) (hrow : w'.ownsRow base t 4 v' (fs.length - 1) ((flat fs vs).take (k * 4) ++ (flat fs vs).drop ((k + 1) * 4))) (hsub : ∀ u ∈ vs, ∀ ss, SubO w base u ss → SubO w' base u ss) : OwnIts w' base t v' (fs.eraseIdx k) (vs.eraseIdx k) := by
  have hl := h.len
  refine ⟨by rw [List.length_eraseIdx_of_lt hk, List.length_eraseIdx_of_lt (by omega), hl], ?_, fun j hj => ?_, h.aprt.sublist (List.eraseIdx_sublist vs k)⟩
  · rw [flat_erase fs vs k hl hk, List.length_eraseIdx_of_lt hk]
    exact hrow
  · rw [List.length_eraseIdx_of_lt hk] at hj
    rw [getD_erase, getD_erase]
    split
    · exact hsub _ (mem_of_getD _ _ _ (by omega)) _ (h.subs j (by omega))
    · exact hsub _ (mem_of_getD _ _ _ (by omega)) _ (h.subs (j + 1) (by omega))

set_option maxRecDepth 100000 in
set_option maxHeartbeats 1000000 in
theorem l24Without_any (base : Nat) (B A' : Option Addr) (m d c' k : Nat) (asks : List ItD) (us : List Value) (w : World) (h : OwnIts w base 42 (.slice A' asks.length c') asks us) (hb : base ≤ w.heap.size) (hk : k < asks.length) (hn : asks.length ≤ 1048576) :
    Calls Tryz.prog 96 #[.agg #[.slice B m d, .slice A' asks.length c'], .int .i64 k] w fun e w' => ∃ v1, e = .returned (.agg #[.slice B m d, v1]) ∧ OwnIts w' base 42 v1 (asks.eraseIdx k) (us.eraseIdx k) ∧ Below w.heap.size w w' := by
  obtain ⟨i0, hi, hz0, hz1, hz2⟩ := info_parts infoAsk
  obtain ⟨A0, cap0, e0, hcap, hcm, hA⟩ := own_slice h.row
  injection e0 with e1 e2 e3
  subst e1 e3
  clear e2
  obtain ⟨g, rfl, hgl, hgb⟩ := hA (by omega)
  obtain ⟨cur, hgB⟩ := own_blk h.row
  have HO := Lib.hid h
  have H1 := Lib.hid h.one
  have HL : Hid ((flat asks us).length = asks.length * 4) := flat_len asks us h.len
  have HGB := Lib.hid hgB
  clear h hgB hA
  generalize hnn : asks.length = n at *
  have Hlen := Lib.hid hnn
  clear hnn
  unfold maxLen at hcm
  have HB3 : Hid (Below w.heap.size w (((w.alloc (.cells #[.slice B m d, .slice (some ⟨g, 0, none⟩) n c'] 27)).alloc (.cells #[.slice none 0 0, .slice none 0 0] 27)).alloc (.cells #[] 42))) := ((Below.new w (.cells #[.slice B m d, .slice (some ⟨g, 0, none⟩) n c'] 27)).later (Below.new _ (.cells #[.slice none 0 0, .slice none 0 0] 27))).later (Below.new _ (.cells #[] 42))
  have HX0 : Hid (Blk (((w.alloc (.cells #[.slice B m d, .slice (some ⟨g, 0, none⟩) n c'] 27)).alloc (.cells #[.slice none 0 0, .slice none 0 0] 27)).alloc (.cells #[] 42)) w.heap.size 27 #[.slice B m d, .slice (some ⟨g, 0, none⟩) n c']) := heap_new0 _ _ _ _
  have HX1 : Hid (Blk (((w.alloc (.cells #[.slice B m d, .slice (some ⟨g, 0, none⟩) n c'] 27)).alloc (.cells #[.slice none 0 0, .slice none 0 0] 27)).alloc (.cells #[] 42)) (w.heap.size + 1) 27 #[.slice none 0 0, .slice none 0 0]) := heap_new1 _ _ _ _
  have HROW : Hid ((((w.alloc (.cells #[.slice B m d, .slice (some ⟨g, 0, none⟩) n c'] 27)).alloc (.cells #[.slice none 0 0, .slice none 0 0] 27)).alloc (.cells #[] 42)).ownsRow w.heap.size 42 4 (.slice (some ⟨w.heap.size + 1 + 1, 0, none⟩) 0 0) 0 []) := by
    have h := World.ownsRow_lit (base := w.heap.size) (e := 42) (size := 4) ((w.alloc (.cells #[.slice B m d, .slice (some ⟨g, 0, none⟩) n c'] 27)).alloc (.cells #[.slice none 0 0, .slice none 0 0] 27)) #[] 0 (by simp; omega) (by omega) rfl
    have e : ((w.alloc (.cells #[.slice B m d, .slice (some ⟨g, 0, none⟩) n c'] 27)).alloc (.cells #[.slice none 0 0, .slice none 0 0] 27)).heap.size = w.heap.size + 1 + 1 := by simp
    rw [e] at h
    exact h
  obtain ⟨W3, hW3⟩ : ∃ W3, W3 = (((w.alloc (.cells #[.slice B m d, .slice (some ⟨g, 0, none⟩) n c'] 27)).alloc (.cells #[.slice none 0 0, .slice none 0 0] 27)).alloc (.cells #[] 42)) := ⟨_, rfl⟩
  rw [← hW3] at HB3 HX0 HX1 HROW
  have hw3 : w.heap.size + 1 < W3.heap.size := HX1.out.lt
  have HCUR : Hid (∀ W, Below w.heap.size w W → ∀ j u, (flat asks us)[j]? = some u → W.cell? ⟨g, j, none⟩ = some u) := fun W hW j u hj => by
    rw [hW.cell (p := ⟨g, j, none⟩) hgl]
    have hjl : j < (flat asks us).length := by
      rcases Nat.lt_or_ge j (flat asks us).length with h | h
      · exact h
      · rw [List.getElem?_eq_none h] at hj; cases hj
    have hr := HO.out.row
    rw [Hlen.out] at hr
    exact own_cell hr j u (by rw [HL.out] at hjl; exact hjl) hj
  clear HGB
  go_enter Tryz.func96, Tryz.ntmps96
  have p1 := HX0.out.cell 1
  simp at p1
  go_wp2_with (rw [← hW3]; at_builtin; refine wpList_append_own _ rfl (.tmp 6) (.tmp 10) 25 rfl w.heap.size 42 i0 _ 4 56 Tryz.underlying25 hi hz0 hz1 hz2 rfl (by decide) _ 0 _ rfl HROW.out ⟨g, 0, none⟩ k c' ((flat asks us).take (k * 4)) rfl ?a1 ?a2 ?a3 ?a4 ?a5 ?a6 ?_)
  case a1 => rw [List.length_take, HL.out]; omega
  case a2 =>
    intro j u hj
    rw [add_offN, Nat.zero_add]
    rw [List.getElem?_take] at hj
    split at hj
    · exact HCUR.out W3 HB3.out j u hj
    · cases hj
  case a3 => exact fun u hu => H1.out u (List.mem_of_mem_take hu)
  case a4 => unfold maxLen; omega
  case a5 => omega
  case a6 => exact HB3.out.size
  intro v1 w4 hown1 hg1 _
  try rw [← hW3] at hg1
  try rw [Nat.zero_add] at hown1
  try rw [List.nil_append] at hown1
  obtain ⟨A5, cap5, rfl, _, _, _⟩ := own_slice hown1
  have HB4 := Lib.hid (HB3.out.grown hg1 HB3.out.size (fun g' hg' => (HROW.out.lt g' hg').1))
  have HX0' := Lib.hid (HX0.out.grown hg1 (fun e => own_blk_ne HROW.out HX0.out (by decide) e.symm))
  have HX1' := Lib.hid (HX1.out.grown hg1 (fun e => own_blk_ne HROW.out HX1.out (by decide) e.symm))
  have HROW1 := Lib.hid hown1
  clear hown1 hg1 p1 HX0 HX1 HROW hW3
  have p1 := HX0'.out.cell 1
  have p0 := HX0'.out.cell 0
  have f1 := HX0'.out.frozen 1
  have z0 := HX0'.out.lt
  simp at p0 p1
  have hin1 : (0 : Int) ≤ (k : Int) + 1 := by omega
  have hin2 : (k : Int) + 1 ≤ (n : Int) := by omega
  have HFIN : Hid (∀ (v2 : Value) (w5 : World), w5.ownsRow w.heap.size 42 4 v2 (k + (n - (k + 1))) ((flat asks us).take (k * 4) ++ (flat asks us).drop ((k + 1) * 4)) → w4.grownBy w5 (Value.slice A5 k cap5).ownBlock →
      Blk w5 w.heap.size 27 #[.slice B m d, .slice (some ⟨g, 0, none⟩) n c'] ∧ Blk w5 (w.heap.size + 1) 27 #[.slice none 0 0, .slice none 0 0] ∧ Below w.heap.size w w5) := fun v2 w5 ho hg => by
    refine ⟨HX0'.out.grown hg (fun e => own_blk_ne HROW1.out HX0'.out (by decide) e.symm), HX1'.out.grown hg (fun e => own_blk_ne HROW1.out HX1'.out (by decide) e.symm), HB4.out.grown hg HB4.out.size (fun g' hg' => (HROW1.out.lt g' hg').1)⟩
  have HNEW : Hid (∀ (ad : Addr), (n - (k + 1) = 0 ∨ ad = ⟨g, (k + 1) * 4, none⟩) → ∀ j u, ((flat asks us).drop ((k + 1) * 4))[j]? = some u → w4.cell? (ad.add j) = some u) := fun ad had j u hj => by
    rcases had with h0 | rfl
    · have : (flat asks us).drop ((k + 1) * 4) = [] := List.eq_nil_of_length_eq_zero (by rw [List.length_drop, HL.out]; omega)
      rw [this] at hj
      simp at hj
    · rw [add_offN]
      rw [List.getElem?_drop] at hj
      exact HCUR.out w4 HB4.out _ u hj
  have HEND : Hid (∀ (v2 : Value) (w5 W : World), w5.ownsRow w.heap.size 42 4 v2 (k + (n - (k + 1))) ((flat asks us).take (k * 4) ++ (flat asks us).drop ((k + 1) * 4)) → Below w.heap.size w w5 → Below w.heap.size w W → (∀ g', v2.ownBlock = some g' → W.heap[g']? = w5.heap[g']?) → OwnIts W base 42 v2 (asks.eraseIdx k) (us.eraseIdx k)) := fun v2 w5 W ho hb5 hbW hsame => by
    refine OwnIts.erase HO.out (by rw [Hlen.out]; exact hk) ?_ (fun u hu ss hs => own_later hs hbW)
    rw [Hlen.out, show n - 1 = k + (n - (k + 1)) from by omega]
    have h2 := own_base ho hb
    refine ⟨h2.1, ?_⟩
    rcases h2.2 with hn | ⟨g', cap', cur', e, hb', hh, hr⟩
    · exact .inl hn
    · exact .inr ⟨g', cap', cur', e, hb', (hsame g' (by rw [e]; rfl)).trans hh, hr⟩
  by_cases hcn : c' = k + 1
  · obtain rfl : n = k + 1 := by omega
    subst hcn
    go_wp2_with (at_builtin; refine wpList_append_own _ rfl (.tmp 12) (.tmp 17) 25 rfl w.heap.size 42 i0 _ 4 56 Tryz.underlying25 hi hz0 hz1 hz2 rfl (by decide) _ k _ rfl HROW1.out ⟨g, 0, none⟩ 0 0 ((flat asks us).drop ((k + 1) * 4)) rfl ?b1 ?b2 ?b3 ?b4 ?b5 ?b6 ?_)
    case b1 => rw [List.length_drop, HL.out]; omega
    case b2 => exact HNEW.out _ (.inl (by omega))
    case b3 => exact fun u hu => H1.out u (List.mem_of_mem_drop hu)
    case b4 => unfold maxLen; omega
    case b5 => omega
    case b6 => exact HB4.out.size
    intro v2 w5 hown2 hg2 _
    have hkk : k + (k + 1 - (k + 1)) = k := by omega
    rw [hkk] at HFIN HEND
    obtain ⟨hbx0, hbx1, hb5⟩ := HFIN.out v2 w5 hown2 hg2
    obtain ⟨A6, cap6, rfl, _, _, _⟩ := own_slice hown2
    have HE := Lib.hid (fun W => HEND.out _ w5 W hown2 hb5)
    have hne0 := own_blk_ne hown2 hbx0 (by decide)
    have hne1 := own_blk_ne hown2 hbx1 (by decide)
    have HO2 := Lib.hid hown2
    have HB5 := Lib.hid hb5
    have HNE := Lib.hid (And.intro hne0 hne1)
    have r1 := hbx0.cell 1
    have r0 := hbx0.cell 0
    have g1 := hbx0.frozen 1
    have t0 := hbx1.cell 0
    have t1 := hbx1.cell 1
    have g2 := hbx1.frozen 0
    have g3 := hbx1.frozen 1
    have zz := hbx1.lt
    simp at r0 r1 t0 t1
    clear hown2 hg2 hb5 hne0 hne1 p0 p1 f1 HFIN HNEW
    go_wp2_with fail
    refine bodyPost_ret (v := .agg #[.slice B m d, .slice A6 _ cap6]) (by simp [results, Tryz.results96, go_sem, t0, t1]; try first | exact rfl | exact ⟨rfl, rfl⟩) rfl ?_
    have hbw := ((HB5.out.setCell (p := ⟨w.heap.size, 1, none⟩) (Nat.le_refl _) (.slice A6 (k) cap6)).setCell (p := ⟨w.heap.size + 1, 0, none⟩) (Nat.le_succ _) (.slice B m d)).setCell (p := ⟨w.heap.size + 1, 1, none⟩) (Nat.le_succ _) (.slice A6 (k) cap6)
    refine ⟨_, rfl, HE.out _ hbw (fun g' hg' => ?_), hbw⟩
    have q0 : g' ≠ w.heap.size := fun e => HNE.out.1 (e ▸ hg')
    have q1 : g' ≠ w.heap.size + 1 := fun e => HNE.out.2 (e ▸ hg')
    exact (Below.heap_setCell _ _ _ _ q1).trans ((Below.heap_setCell _ _ _ _ q1).trans (Below.heap_setCell _ _ _ _ q0))
  · go_wp2_with (at_builtin; refine wpList_append_own _ rfl (.tmp 12) (.tmp 17) 25 rfl w.heap.size 42 i0 _ 4 56 Tryz.underlying25 hi hz0 hz1 hz2 rfl (by decide) _ k _ rfl HROW1.out ⟨g, (k + 1) * 4, none⟩ (n - (k + 1)) (c' - (k + 1)) ((flat asks us).drop ((k + 1) * 4)) rfl ?c1 ?c2 ?c3 ?c4 ?c5 ?c6 ?_)
    case c1 => rw [List.length_drop, HL.out]; omega
    case c2 => exact HNEW.out _ (.inr rfl)
    case c3 => exact fun u hu => H1.out u (List.mem_of_mem_drop hu)
    case c4 => unfold maxLen; omega
    case c5 => omega
    case c6 => exact HB4.out.size
    intro v2 w5 hown2 hg2 _
    obtain ⟨hbx0, hbx1, hb5⟩ := HFIN.out v2 w5 hown2 hg2
    obtain ⟨A6, cap6, rfl, _, _, _⟩ := own_slice hown2
    have HE := Lib.hid (fun W => HEND.out _ w5 W hown2 hb5)
    have hne0 := own_blk_ne hown2 hbx0 (by decide)
    have hne1 := own_blk_ne hown2 hbx1 (by decide)
    have HO2 := Lib.hid hown2
    have HB5 := Lib.hid hb5
    have HNE := Lib.hid (And.intro hne0 hne1)
    have r1 := hbx0.cell 1
    have r0 := hbx0.cell 0
    have g1 := hbx0.frozen 1
    have t0 := hbx1.cell 0
    have t1 := hbx1.cell 1
    have g2 := hbx1.frozen 0
    have g3 := hbx1.frozen 1
    have zz := hbx1.lt
    simp at r0 r1 t0 t1
    clear hown2 hg2 hb5 hne0 hne1 p0 p1 f1 HFIN HNEW
    go_wp2_with fail
    refine bodyPost_ret (v := .agg #[.slice B m d, .slice A6 _ cap6]) (by simp [results, Tryz.results96, go_sem, t0, t1]; try first | exact rfl | exact ⟨rfl, rfl⟩) rfl ?_
    have hbw := ((HB5.out.setCell (p := ⟨w.heap.size, 1, none⟩) (Nat.le_refl _) (.slice A6 (k + (n - (k + 1))) cap6)).setCell (p := ⟨w.heap.size + 1, 0, none⟩) (Nat.le_succ _) (.slice B m d)).setCell (p := ⟨w.heap.size + 1, 1, none⟩) (Nat.le_succ _) (.slice A6 (k + (n - (k + 1))) cap6)
    refine ⟨_, rfl, HE.out _ hbw (fun g' hg' => ?_), hbw⟩
    have q0 : g' ≠ w.heap.size := fun e => HNE.out.1 (e ▸ hg')
    have q1 : g' ≠ w.heap.size + 1 := fun e => HNE.out.2 (e ▸ hg')
    exact (Below.heap_setCell _ _ _ _ q1).trans ((Below.heap_setCell _ _ _ _ q1).trans (Below.heap_setCell _ _ _ _ q0))
end Go.Proofs.YtiebcdajoddkpaaGreatDoor

namespace Go.Proofs.YtiebcdajoddkpaaGreatDoor
open Go.RowKit
set_option linter.unusedVariables false

theorem thing_small {d : ItD} (h : thingB d.name d.subs = true) : d.small := by
  unfold thingB nameB subsB at h
  simp only [Bool.and_eq_true, decide_eq_true_eq, List.all_eq_true] at h
  refine ⟨by omega, by omega, fun s hs => ?_⟩
  have := h.2.2 s hs
  unfold subB at this
  simp only [Bool.and_eq_true, decide_eq_true_eq] at this
  omega
theorem OkP.small {held asks : List ItD} (h : OkP held asks) : smalls held ∧ smalls asks := by
  refine ⟨⟨by have := h.hlen; omega, fun d hd => ?_⟩, ⟨by have := h.alen; omega, fun d hd => thing_small (h.aok d hd).2.2⟩⟩
  have := h.hok d hd
  unfold hOk1 at this
  simp only [Bool.and_eq_true] at this
  exact thing_small this.2.2
/-- Locks granted, of the call's own, and the told jobs. -/
def GrPost (base : Nat) (r : List ItD × List ItD × List Int) (w : World) (e : Ending) (w' : World) : Prop :=
  ∃ v0 v1 vs us vo, e = .returned (.tuple #[.agg #[v0, v1], vo]) ∧ OwnIts w' base 37 v0 r.1 vs ∧ OwnIts w' base 42 v1 r.2.1 us ∧ (∀ x ∈ vs, ∀ y ∈ us, apart x y) ∧ w'.ownsRow base 2 1 vo r.2.2.length (r.2.2.map (Value.int .i64)) ∧ Below w.heap.size w w'
/-- The length of the asks in the box of locks. -/
def lenAt (g : Nat) (w : World) : Nat := match w.cell? ⟨g, 1, none⟩ with
  | some (.slice _ n _) => n
  | _ => 0
theorem lenAt_of {g : Nat} {w : World} {v0 : Value} {A : Option Addr} {n c : Nat} (h : Blk w g 27 #[v0, .slice A n c]) : lenAt g w = n := by
  have h1 := h.cell 1
  simp at h1
  unfold lenAt
  rw [h1]
theorem take_any_step {h a : List ItD} {i : Nat} (hi : i < a.length) (h0 : (a.take i).any (mayP h a) = false) (h1 : mayP h a (a.getD i default) = false) : (a.take (i + 1)).any (mayP h a) = false := by
  rw [take_any_succ a i _ hi, h0, h1]; rfl
theorem grant_skip {h a : List ItD} {o : List Int} (h0 : (a.take a.length).any (mayP h a) = false) : grantN a.length h a o = (h, a, o) := by
  rw [List.take_length] at h0
  have h1 := idxF_any (mayP h a) a 0
  rw [h0] at h1
  have h2 : idxF (mayP h a) a 0 < 0 := by
    have := of_decide_eq_false h1
    omega
  cases hl : a.length with
  | zero => rfl
  | succ n => unfold grantN; rw [if_pos h2]
theorem grant_hit {h a : List ItD} {o : List Int} {i : Nat} (hi : i < a.length) (h0 : (a.take i).any (mayP h a) = false) (h1 : mayP h a (a.getD i default) = true) :
    grantN a.length h a o = grantN (a.eraseIdx i).length (if roomB h (a.getD i default).a (a.getD i default).name (a.getD i default).subs = true then acqI h (tgt (a.getD i default).a (a.getD i default).name (a.getD i default).subs) else h) (a.eraseIdx i) (o ++ [(a.getD i default).a]) := by
  have h2 : idxF (mayP h a) a 0 = ((0 + i : Nat) : Int) := (idxF_before (mayP h a) a 0 i hi h1).2 h0
  rw [Nat.zero_add] at h2
  obtain ⟨n, hn⟩ : ∃ n, a.length = n + 1 := ⟨a.length - 1, by omega⟩
  rw [List.length_eraseIdx_of_lt hi, hn, Nat.add_sub_cancel]
  conv => lhs; unfold grantN
  rw [h2, if_neg (by omega), Int.toNat_natCast]

/-- Cells of a block that holds no text may change. -/
theorem Strs.farBlk {w : World} {B n g t i : Nat} {A : Option Addr} {ss : List ByteArray} {cs : Array Value} {u : Value} (h : Strs w B A n ss) (hB : Blk w g t cs) (hno : ∀ (j : Nat) (s : ByteArray), cs[j]? ≠ some (Value.string s)) : Strs (w.setCell ⟨g, i, none⟩ u) B A n ss := by
  refine ⟨h.1, fun hn => ?_⟩
  obtain ⟨b, o, e, hb, hc⟩ := h.2 hn
  have hne : b ≠ g := by
    rintro rfl
    exact hno _ _ ((hB.cell (o + 0)).symm.trans (hc 0 hn))
  exact ⟨b, o, e, hb, fun j hj => (World.cell?_of_block (w := w) (Below.heap_setCell _ _ _ _ hne)).trans (hc j hj)⟩
/-- The state of l24Grant in its loop. -/
structure GrS (base : Nat) (w : World) (h a : List ItD) (hv av : List Value) (v0 v1 vo : Value) (os : List Value) (b0 b1 : Value) (X : World) : Prop where
  h : OwnIts X base 37 v0 h hv
  a : OwnIts X base 42 v1 a av
  row : X.ownsRow w.heap.size 2 1 vo os.length os
  box : Blk X w.heap.size 27 #[b0, b1]
  bx1 : Blk X (w.heap.size + 1) 27 #[.slice none 0 0, .slice none 0 0]
  low : Below w.heap.size w X
section
variable {base : Nat} {w : World} {h a : List ItD} {hv av : List Value} {v0 v1 vo : Value} {os : List Value} {b0 b1 : Value} {X : World}
theorem GrS.later (s : GrS base w h a hv av v0 v1 vo os b0 b1 X) {Y : World} (hb : Below X.heap.size X Y) : GrS base w h a hv av v0 v1 vo os b0 b1 Y :=
  ⟨s.h.later hb, s.a.later hb, own_later s.row hb, s.box.later hb s.box.lt, s.bx1.later hb s.bx1.lt, s.low.later hb⟩
theorem GrS.put (s : GrS base w h a hv av v0 v1 vo os b0 b1 X) : GrS base w h a hv av v0 v1 vo os v0 v1 ((X.setCell ⟨w.heap.size, 0, none⟩ v0).setCell ⟨w.heap.size, 1, none⟩ v1) := by
  have hgr := (grown_set X w.heap.size 0 v0).trans (grown_set (X.setCell ⟨w.heap.size, 0, none⟩ v0) w.heap.size 1 v1)
  refine ⟨s.h.grownOther s.box (by decide) (by decide) hgr, s.a.grownOther s.box (by decide) (by decide) hgr, s.row.kept hgr (.inr (own_blk_ne s.row s.box (by decide))), ?_, ?_, (s.low.setCell (p := ⟨w.heap.size, 0, none⟩) (Nat.le_refl _) _).setCell (p := ⟨w.heap.size, 1, none⟩) (Nat.le_refl _) _⟩
  · have := (s.box.set_ 0 v0).set_ 1 v1
    simpa using this
  · exact (s.bx1.far (by simp) _).far (by simp) _
theorem GrS.app (s : GrS base w h a hv av v0 v1 vo os b0 b1 X) {o : Obj} {Y : World} {vo' : Value} {os' : List Value} (hrow : Y.ownsRow w.heap.size 2 1 vo' os'.length os') (hg : (X.alloc o).grownBy Y vo.ownBlock) : GrS base w h a hv av v0 v1 vo' os' b0 b1 Y := by
  have s2 := s.later (Below.new X o)
  exact ⟨s2.h.keptRow s2.row (by decide) (by decide) hg, s2.a.keptRow s2.row (by decide) (by decide) hg, hrow, s2.box.grown hg (fun e => own_blk_ne s2.row s2.box (by decide) e.symm), s2.bx1.grown hg (fun e => own_blk_ne s2.row s2.bx1 (by decide) e.symm), s2.low.grown hg s2.low.size (fun g hg' => (s2.row.lt g hg').1)⟩
end

set_option maxRecDepth 100000 in
set_option maxHeartbeats 4000000 in
theorem l24Grant_any (base : Nat) (B A' : Option Addr) (d c' : Nat) (held asks : List ItD) (vs us : List Value) (w : World) (ho : OwnIts w base 37 (.slice B held.length d) held vs) (ha : OwnIts w base 42 (.slice A' asks.length c') asks us) (hx : ∀ x ∈ vs, ∀ y ∈ us, apart x y) (hb : base ≤ w.heap.size) (hok : OkP held asks) :
    Calls Tryz.prog 51 #[.agg #[.slice B held.length d, .slice A' asks.length c']] w (GrPost base (grantB held asks) w) := by
  obtain ⟨i0, hi, hz0, hz1, hz2⟩ := info_parts infoI64
  have HO := Lib.hid ho
  have HA := Lib.hid ha
  have HX := Lib.hid hx
  have HOK := Lib.hid hok
  clear ho ha hx hok
  generalize hG : grantB held asks = G at *
  have HG : Hid (G = grantN asks.length held asks []) := hG.symm
  clear hG
  generalize hhl : held.length = nh at *
  generalize hal : asks.length = na at *
  have HAL := Lib.hid hal
  clear hal
  have HB3 := Lib.hid (((Below.new w (.cells #[.slice B nh d, .slice A' na c'] 27)).later (Below.new _ (.cells #[.slice none 0 0, .slice none 0 0] 27))).later (Below.new _ (.cells #[] 2)))
  have HX0 := Lib.hid (heap_new0 w (.cells #[.slice B nh d, .slice A' na c'] 27) (.cells #[.slice none 0 0, .slice none 0 0] 27) (.cells #[] 2))
  have HX1 := Lib.hid (heap_new1 w (.cells #[.slice B nh d, .slice A' na c'] 27) (.cells #[.slice none 0 0, .slice none 0 0] 27) (.cells #[] 2))
  have HZ0 : Hid (∀ W : World, W = ((w.alloc (.cells #[.slice B nh d, .slice A' na c'] 27)).alloc (.cells #[.slice none 0 0, .slice none 0 0] 27)) → (W.alloc (.cells #[] 2)).ownsRow w.heap.size 2 1 (.slice (some ⟨w.heap.size + 1 + 1, 0, none⟩) 0 0) 0 []) := fun W hW => by
    have h := World.ownsRow_lit (base := w.heap.size) (e := 2) (size := 1) W #[] 0 (by rw [hW]; simp; omega) (by omega) rfl
    have e : W.heap.size = w.heap.size + 1 + 1 := by rw [hW]; simp
    rw [e] at h
    exact h
  go_enter Tryz.func51, Tryz.ntmps51
  go_wp2_with fail
  go_loopw [4, 5] (fun vo iv wr => ∃ (h a : List ItD) (hv av : List Value) (v0 v1 : Value) (o : List Int) (i : Nat), iv = .int .i64 i ∧ i ≤ a.length ∧ Hid (OkP h a) ∧ Hid (OwnIts wr base 37 v0 h hv) ∧ Hid (OwnIts wr base 42 v1 a av) ∧ Hid (∀ x ∈ hv, ∀ y ∈ av, apart x y) ∧ Hid (wr.ownsRow w.heap.size 2 1 vo o.length (o.map (Value.int .i64))) ∧ Hid (Blk wr w.heap.size 27 #[v0, v1]) ∧ Hid (Blk wr (w.heap.size + 1) 27 #[.slice none 0 0, .slice none 0 0]) ∧ Hid (Below w.heap.size w wr) ∧ Hid (G = grantN a.length h a o) ∧ Hid ((a.take i).any (mayP h a) = false) ∧ Hid (o.length + a.length ≤ 4)) (fun _ iv wr => 6 * lenAt w.heap.size wr + (lenAt w.heap.size wr - (intOf iv).toNat))
  case atStart => exact ⟨held, asks, vs, us, _, _, [], 0, rfl, Nat.zero_le _, HOK.out, HO.out.later HB3.out, HA.out.later HB3.out, HX.out, HZ0.out _ rfl, HX0.out, HX1.out, HB3.out, HG.out.trans (by rw [HAL.out]), rfl, by unfold Hid; have h := HOK.out.alen; rw [List.length_nil, Nat.zero_add]; exact h⟩
  case round =>
    obtain ⟨h, a, hv, av, v0, v1, o, i, rfl, hia, HOKr, HOr, HAr, HXr, HIr, HB0r, HB1r, HBr, HGr, HTr, HLr⟩ := hrel
    obtain ⟨A0, c0, rfl, hc0, _, _⟩ := own_slice HOr.out.row
    obtain ⟨A1, c1, rfl, hc1, hc1m, hA1⟩ := own_slice HAr.out.row
    have p0 := HB0r.out.cell 0
    have p1 := HB0r.out.cell 1
    have zz := HB1r.out.lt
    have zz0 : w.heap.size < wr.heap.size := by omega
    simp at p0 p1
    have hal4 := HOKr.out.alen
    clear HO HA HX HOK HB3 HX0 HX1 HZ0 HG HAL
    by_cases hlt : i < a.length
    · obtain ⟨g, rfl, hgl, hgb⟩ := hA1 (by omega)
      obtain ⟨Aq, cq, eq1, _, _, hIa⟩ := HAr.out.its
      injection eq1 with eq2 _ eq3
      subst eq2 eq3
      obtain ⟨bb, oo, ebb, hbB, hcell⟩ := hIa.2 (by omega)
      cases ebb
      obtain ⟨e0, e1, e2, e3, k0, k1, k2, k3, hr⟩ := hcell i hlt
      have hin := HOKr.out.aok _ (getD_mem a i hlt)
      have hsm := HOKr.out.small
      have hsd := hsm.2.2 _ (getD_mem a i hlt)
      have HSK := Lib.hid (take_any_step hlt HTr.out)
      have HHT := Lib.hid (grant_hit (o := o) hlt HTr.out)
      have HST := Lib.hid (fun hm => HOKr.out.step hlt hm)
      have HMP : Hid (mayP h a (a.getD i default) = !blocksB h a (a.getD i default).a (a.getD i default).name (a.getD i default).subs) := rfl
      clear hcell hA1
      generalize a.getD i default = dd at *
      obtain ⟨rfl, rfl, rfl, S, m, q, rfl, hS, hmq⟩ := hr
      have hm : m ≤ 1048576 := by rw [← hS.1]; exact hsd.2.1
      have HIh : Hid (∀ W, Below wr.heap.size wr W → Its W W.heap.size A0 h.length h) := fun W hW => by
        obtain ⟨A, cap, e, _, _, hI⟩ := (HOr.out.later hW).its
        injection e with e1 _ e2
        subst e1 e2
        exact hI
      have HIa : Hid (∀ W, Below wr.heap.size wr W → Its W W.heap.size (some ⟨g, 0, none⟩) a.length a) := fun W hW => hIa.later hW
      have HSS := Lib.hid (fun W (hW : Below wr.heap.size wr W) => hS.later hW)
      have HKB := Lib.hid (fun W (hW : Below wr.heap.size wr W) => l24Blocks_any A0 (some ⟨g, 0, none⟩) S h.length c0 a.length c1 m q h a dd.a dd.name dd.subs W (HIh.out W hW) (HIa.out W hW) hsm.1 hsm.2 (HSS.out W hW) hm)
      have HKR := Lib.hid (fun W (hW : Below wr.heap.size wr W) => l24Room_any A0 (some ⟨g, 0, none⟩) S h.length c0 a.length c1 m q h dd.a dd.name dd.subs W (HIh.out W hW) hsm.1 (HSS.out W hW) hm)
      have HKW := Lib.hid (fun W (hW : Below wr.heap.size wr W) => l24Without_any base A0 (some ⟨g, 0, none⟩) h.length c0 c1 i a av W (HAr.out.later hW) (by have h1 := HBr.out.size; have h2 := hW.size; omega) hlt (by omega))
      have HKH := Lib.hid (fun W (hbW : base ≤ W.heap.size) (B' : Option Addr) (n2 d' : Nat) (us' : List Value) (asks' : List ItD) (hoh : OwnIts W base 37 (.slice A0 h.length c0) h hv) (hoa : OwnIts W base 42 (.slice B' n2 d') asks' us') (hSW : Strs W W.heap.size S m dd.subs) (hxx : ∀ x ∈ hv, ∀ y ∈ us', apart x y) =>
        (l24Hold_any base A0 B' c0 n2 d' h hv dd.a dd.name S m q dd.subs W hoh hsm.1 hSW hsd (okB_nine HOKr.out.okB)).mono fun _ _ hp => hold_own hbW hoh hoa hxx HOKr.out.sorted hp)
      clear hIa hS
      generalize hnh2 : h.length = nh2 at *
      generalize hna2 : a.length = na2 at *
      have HNA := Lib.hid hna2
      have HNH := Lib.hid hnh2
      clear hna2 hnh2
      generalize blocksB h a dd.a dd.name dd.subs = bl at *
      simp only [Nat.zero_add] at k0 k1 k2 k3
      go_wp2_with fail
      refine (HKB.out _ (Below.new _ _)).mono ?_
      rintro e w1 ⟨Ab, mb, cb, rfl, hR, hmb, hb1⟩
      have hbq := Blk.later (heap_alloc_new wr _) hb1 (by simp)
      have HBq := Lib.hid hbq
      have HBw := Lib.hid ((Below.new wr _).later hb1)
      have d0 := hbq.cell 0
      have d2 := hbq.cell 2
      have d3 := hbq.cell 3
      have dz := hbq.lt
      simp at d0 d2 d3
      have p0' := cell_later HBw.out p0
      have p1' := cell_later HBw.out p1
      clear hbq hb1 k0 k1 k2 k3 p0 p1
      by_cases hmb0 : 0 < mb
      · obtain rfl : bl = true := by rw [← hR, decide_eq_true hmb0]
        have HS2 := Lib.hid (HSK.out (by rw [HMP.out]; rfl))
        clear HSK HHT HST HMP hR
        go_wp2_with fail
        go_roundw
        case rel => exact ⟨h, a, hv, av, _, _, o, i + 1, by go_num, by rw [HNA.out]; omega, HOKr.out, HOr.out.later HBw.out, HAr.out.later HBw.out, HXr.out, own_later HIr.out HBw.out, HB0r.out.later HBw.out HB0r.out.lt, HB1r.out.later HBw.out HB1r.out.lt, HBr.out.later HBw.out, by rw [HNA.out]; exact HGr.out, HS2.out, by rw [HNA.out]; exact HLr.out⟩
        case measure =>
          rw [lenAt_of HB0r.out, lenAt_of (HB0r.out.later HBw.out HB0r.out.lt)]
          simp [intOf]
          omega
      · obtain rfl : bl = false := by rw [← hR, decide_eq_false hmb0]
        have HS2 := Lib.hid (HHT.out (by rw [HMP.out]; rfl))
        have HOK2 := Lib.hid (HST.out (by rw [HMP.out]; rfl))
        clear HSK HHT HST HMP hR HTr
        go_wp2_with fail
        refine (HKR.out _ HBw.out).mono ?_
        rintro e w2 ⟨rfl, hb2⟩
        have HBw2 := Lib.hid (HBw.out.later hb2)
        have HBq2 := Lib.hid (HBq.out.later hb2 HBq.out.lt)
        clear d0 d2 d3 dz p0' p1' hb2
        have p0 := HB0r.out.later HBw2.out HB0r.out.lt |>.cell 0
        have p1 := HB0r.out.later HBw2.out HB0r.out.lt |>.cell 1
        simp at p0 p1
        generalize hro : roomB h dd.a dd.name dd.subs = ro at *
        go_wp2_with fail
        refine (HKW.out _ HBw2.out).mono ?_
        rintro e w3 ⟨v1', rfl, hoa, hb3⟩
        obtain ⟨A4, c4, rfl, _, _, _⟩ := own_slice hoa.row
        have HBw3 := Lib.hid (HBw2.out.later hb3)
        have HBq3 := Lib.hid (HBq2.out.later hb3 HBq2.out.lt)
        have HBX3 := Lib.hid (HB0r.out.later HBw3.out HB0r.out.lt)
        have HOA := Lib.hid hoa
        clear p0 p1 hb3 hoa
        have p0 := HBX3.out.cell 0
        have p1 := HBX3.out.cell 1
        have f0 := HBX3.out.frozen 0
        have f1 := HBX3.out.frozen 1
        have pz := HBX3.out.lt
        have d0 := HBq3.out.cell 0
        have d2 := HBq3.out.cell 2
        have d3 := HBq3.out.cell 3
        have dz := HBq3.out.lt
        simp at p0 p1 d0 d2 d3
        have HXE := Lib.hid (fun x (hx : x ∈ hv) y (hy : y ∈ av.eraseIdx i) => HXr.out x hx y ((List.eraseIdx_sublist av i).subset hy))
        have HS3 : Hid (GrS base w h (a.eraseIdx i) hv (av.eraseIdx i) (.slice A0 nh2 c0) (.slice A4 (a.eraseIdx i).length c4) u4 (o.map (Value.int .i64)) (.slice A0 nh2 c0) (.slice (some ⟨g, 0, none⟩) na2 c1) w3) :=
          ⟨HOr.out.later HBw3.out, HOA.out, by have h := own_later HIr.out HBw3.out; rw [List.length_map]; exact h, HBX3.out, HB1r.out.later HBw3.out HB1r.out.lt, HBr.out.later HBw3.out⟩
        have HST3 := Lib.hid (HSS.out w3 HBw3.out)
        have hol := HLr.out
        have HLE : Hid ((a.eraseIdx i).length = na2 - 1) := by unfold Hid; rw [List.length_eraseIdx_of_lt (by rw [HNA.out]; exact hlt), HNA.out]
        have hbS := HS3.out.put
        have HSP := Lib.hid hbS
        have HRW := Lib.hid (hbS.row.alloc (.cells #[.int .i64 dd.a] 2))
        rw [List.length_map] at HRW
        clear p0 p1 f0 f1 hbS
        have HBD := Lib.hid ((HBq3.out.far (p := ⟨w.heap.size, 0, none⟩) (by simp; omega) (.slice A0 nh2 c0)).far (p := ⟨w.heap.size, 1, none⟩) (by simp; omega) (.slice A4 (a.eraseIdx i).length c4))
        have p0 := HBX3.out.cell 0
        have p1 := HBX3.out.cell 1
        have f0 := HBX3.out.frozen 0
        have f1 := HBX3.out.frozen 1
        simp at p0 p1
        have hbas : base ≤ ((w3.setCell ⟨w.heap.size, 0, none⟩ (.slice A0 nh2 c0)).setCell ⟨w.heap.size, 1, none⟩ (.slice A4 (a.eraseIdx i).length c4)).heap.size := by have h := HSP.out.low.size; omega
        cases ro
        · go_wp2_with (at_builtin; refine wpList_append_own _ rfl (.tmp 51) (.tmp 54) 30 rfl w.heap.size 2 i0 (.int .i64 0) 1 8 Tryz.underlying30 hi hz0 hz1 hz2 rfl (by decide) _ o.length _ rfl (HRW.out) ⟨_, 0, none⟩ 1 1 [.int .i64 dd.a] rfl rfl ?c1a ?c2a ?c3a ?c4a ?c5a ?_)
          case c1a => exact cells_at _ #[.int .i64 dd.a] _ _ (by simp)
          case c2a => simp [Value.oneCell']
          case c3a => unfold maxLen; omega
          case c4a => omega
          case c5a => simp; omega
          intro v5 w5 hown5 hg5 _
          have HS5 : Hid (GrS base w h (a.eraseIdx i) hv (av.eraseIdx i) (.slice A0 nh2 c0) (.slice A4 (a.eraseIdx i).length c4) v5 ((o ++ [dd.a]).map (Value.int .i64)) (.slice A0 nh2 c0) (.slice A4 (a.eraseIdx i).length c4) w5) := by
            refine HSP.out.app ?_ hg5
            rw [List.map_append, List.length_append, List.length_map]
            exact hown5
          clear hown5 hg5 HRW
          go_wp2_with fail
          go_roundw
          case rel => exact ⟨h, a.eraseIdx i, hv, av.eraseIdx i, _, _, o ++ [dd.a], 0, by go_num, Nat.zero_le _, HOK2.out, HS5.out.h, HS5.out.a, HXE.out, by have h := HS5.out.row; rw [List.length_map] at h; exact h, HS5.out.box, HS5.out.bx1, HS5.out.low, HGr.out.trans (HS2.out.trans (by simp)), rfl, by unfold Hid; rw [HLE.out, List.length_append]; simp; omega⟩
          case measure =>
            rw [lenAt_of HB0r.out, lenAt_of HS5.out.box, HLE.out]
            simp [intOf]
            omega
        · have hST : Strs ((w3.setCell ⟨w.heap.size, 0, none⟩ (.slice A0 nh2 c0)).setCell ⟨w.heap.size, 1, none⟩ (.slice A4 (a.eraseIdx i).length c4)) ((w3.setCell ⟨w.heap.size, 0, none⟩ (.slice A0 nh2 c0)).setCell ⟨w.heap.size, 1, none⟩ (.slice A4 (a.eraseIdx i).length c4)).heap.size S m dd.subs := by
            have h1 := (HST3.out.farBlk (i := 0) (u := .slice A0 nh2 c0) HBX3.out (by intro j s; rcases j with _ | _ | j <;> simp)).farBlk (i := 1) (u := .slice A4 (a.eraseIdx i).length c4) (HBX3.out.set_ 0 _) (by intro j s; rcases j with _ | _ | j <;> simp)
            simpa using h1
          have HK9 := Lib.hid (HKH.out _ hbas _ _ c4 (av.eraseIdx i) (a.eraseIdx i) HSP.out.h HSP.out.a hST HXE.out)
          clear HRW hST
          go_wp2_with fail
          refine HK9.out.mono ?_
          rintro e w4 ⟨v4, hv4, rfl, hoh4, hoa4, hx4, hb4⟩
          obtain ⟨A5, c5, rfl, _, _, _⟩ := own_slice hoh4.row
          have HS4 : Hid (GrS base w (acqI h (tgt dd.a dd.name dd.subs)) (a.eraseIdx i) hv4 (av.eraseIdx i) (.slice A5 (acqI h (tgt dd.a dd.name dd.subs)).length c5) (.slice A4 (a.eraseIdx i).length c4) u4 (o.map (Value.int .i64)) (.slice A0 nh2 c0) (.slice A4 (a.eraseIdx i).length c4) w4) :=
            ⟨hoh4, hoa4, own_later HSP.out.row hb4, HSP.out.box.later hb4 HSP.out.box.lt, HSP.out.bx1.later hb4 HSP.out.bx1.lt, HSP.out.low.later hb4⟩
          have HBD4 := Lib.hid (HBD.out.later hb4 HBD.out.lt)
          have HX4 := Lib.hid hx4
          have hbS4 := HS4.out.put
          have HSP4 := Lib.hid hbS4
          have HRW := Lib.hid (hbS4.row.alloc (.cells #[.int .i64 dd.a] 2))
          rw [List.length_map] at HRW
          clear p0 p1 f0 f1 d0 d2 d3 dz pz hoh4 hoa4 hx4 hb4 hbS4
          have p0 := HS4.out.box.cell 0
          have p1 := HS4.out.box.cell 1
          have f0 := HS4.out.box.frozen 0
          have f1 := HS4.out.box.frozen 1
          have pz := HS4.out.box.lt
          have d0 := HBD4.out.cell 0
          have dz := HBD4.out.lt
          have hw5 := HSP4.out.low.size
          simp at p0 p1 d0 hw5
          go_wp2_with (at_builtin; refine wpList_append_own _ rfl (.tmp 51) (.tmp 54) 30 rfl w.heap.size 2 i0 (.int .i64 0) 1 8 Tryz.underlying30 hi hz0 hz1 hz2 rfl (by decide) _ o.length _ rfl (HRW.out) ⟨_, 0, none⟩ 1 1 [.int .i64 dd.a] rfl rfl ?c1b ?c2b ?c3b ?c4b ?c5b ?_)
          case c1b => exact cells_at _ #[.int .i64 dd.a] _ _ (by simp)
          case c2b => simp [Value.oneCell']
          case c3b => unfold maxLen; omega
          case c4b => omega
          case c5b => simp; omega
          intro v5 w5 hown5 hg5 _
          have HS5 : Hid (GrS base w (acqI h (tgt dd.a dd.name dd.subs)) (a.eraseIdx i) hv4 (av.eraseIdx i) (.slice A5 (acqI h (tgt dd.a dd.name dd.subs)).length c5) (.slice A4 (a.eraseIdx i).length c4) v5 ((o ++ [dd.a]).map (Value.int .i64)) (.slice A5 (acqI h (tgt dd.a dd.name dd.subs)).length c5) (.slice A4 (a.eraseIdx i).length c4) w5) := by
            refine HSP4.out.app ?_ hg5
            rw [List.map_append, List.length_append, List.length_map]
            exact hown5
          clear hown5 hg5 HRW
          go_wp2_with fail
          go_roundw
          case rel => exact ⟨(acqI h (tgt dd.a dd.name dd.subs)), a.eraseIdx i, hv4, av.eraseIdx i, _, _, o ++ [dd.a], 0, by go_num, Nat.zero_le _, HOK2.out, HS5.out.h, HS5.out.a, HX4.out, by have h := HS5.out.row; rw [List.length_map] at h; exact h, HS5.out.box, HS5.out.bx1, HS5.out.low, HGr.out.trans (HS2.out.trans (by simp)), rfl, by unfold Hid; rw [HLE.out, List.length_append]; simp; omega⟩
          case measure =>
            rw [lenAt_of HB0r.out, lenAt_of HS5.out.box, HLE.out]
            simp [intOf]
            omega
    · obtain rfl : i = a.length := by omega
      have HE : Hid (G = (h, a, o)) := HGr.out.trans (grant_skip HTr.out)
      obtain ⟨A2, c2, rfl, _, _, _⟩ := own_slice HIr.out
      generalize hnn : a.length = n at *
      clear HTr HGr
      have t0 := HB1r.out.cell 0
      have t1 := HB1r.out.cell 1
      have g0 := HB1r.out.frozen 0
      have g1 := HB1r.out.frozen 1
      simp at t0 t1
      go_wp2_with fail
      refine bodyPost_ret (v := .tuple #[.agg #[.slice A0 h.length c0, .slice A1 n c1], .slice A2 o.length c2]) (by simp [results, Tryz.results51, go_sem, t0, t1]; try first | exact rfl | exact ⟨rfl, rfl⟩ | exact ⟨rfl, rfl, rfl⟩) rfl ?_
      have hgr := (grown_set wr (w.heap.size + 1) 0 (.slice A0 h.length c0)).trans (grown_set (wr.setCell ⟨w.heap.size + 1, 0, none⟩ (.slice A0 h.length c0)) (w.heap.size + 1) 1 (.slice A1 n c1))
      rw [HE.out]
      exact ⟨_, _, hv, av, _, rfl, HOr.out.grownOther HB1r.out (by decide) (by decide) hgr, HAr.out.grownOther HB1r.out (by decide) (by decide) hgr, HXr.out, own_base (HIr.out.kept hgr (.inr (own_blk_ne HIr.out HB1r.out (by decide)))) hb, (HBr.out.setCell (p := ⟨w.heap.size + 1, 0, none⟩) (Nat.le_succ _) _).setCell (p := ⟨w.heap.size + 1, 1, none⟩) (Nat.le_succ _) _⟩
end Go.Proofs.YtiebcdajoddkpaaGreatDoor

namespace Go.Proofs.YtiebcdajoddkpaaGreatDoor
open Go.RowKit
set_option linter.unusedVariables false

theorem zip_getD2 (fs : List ItD) (vs : List Value) (h : vs.length = fs.length) (j : Nat) (hj : j < fs.length) : (fs.zip vs).getD j default = (fs.getD j default, vs.getD j (.slice none 0 0)) := by
  rw [List.getD_eq_getElem?_getD, List.getElem?_eq_getElem (by rw [List.length_zip]; omega), List.getElem_zip, List.getD_eq_getElem?_getD, List.getElem?_eq_getElem hj, List.getD_eq_getElem?_getD, List.getElem?_eq_getElem (by omega)]
  rfl
def sel (p : ItD → Bool) (fs : List ItD) (vs : List Value) (k : Nat) : List (ItD × Value) := ((fs.zip vs).take k).filter fun x => p x.1
theorem sel_zero (p : ItD → Bool) (fs : List ItD) (vs : List Value) : sel p fs vs 0 = [] := by simp [sel]
theorem sel_next (p : ItD → Bool) (fs : List ItD) (vs : List Value) (k : Nat) (hl : vs.length = fs.length) (hk : k < fs.length) : sel p fs vs (k + 1) = if p (fs.getD k default) = true then sel p fs vs k ++ [(fs.getD k default, vs.getD k (.slice none 0 0))] else sel p fs vs k := by
  have hz : k < (fs.zip vs).length := by rw [List.length_zip]; omega
  unfold sel
  rw [filter_snoc (fun x : ItD × Value => p x.1) (fs.zip vs) k hz, zip_getD2 fs vs hl k hk]
theorem sel_le (p : ItD → Bool) (fs : List ItD) (vs : List Value) (k : Nat) : (sel p fs vs k).length ≤ k := by
  unfold sel
  have h1 := List.length_filter_le (fun x : ItD × Value => p x.1) ((fs.zip vs).take k)
  rw [List.length_take] at h1
  omega
theorem sel_all (p : ItD → Bool) (fs : List ItD) (vs : List Value) (hl : vs.length = fs.length) : sel p fs vs fs.length = (fs.zip vs).filter fun x => p x.1 := by
  unfold sel
  rw [List.take_of_length_le (by rw [List.length_zip]; omega)]
theorem map_str_at (ss : List ByteArray) (j : Nat) (hj : j < ss.length) : (ss.map Value.string)[j]? = some (.string (ss.getD j ByteArray.empty)) := by
  simp [List.getD_eq_getElem?_getD, List.getElem?_eq_getElem hj]
theorem SubO.strs {w : World} {base : Nat} {v : Value} {ss : List ByteArray} (h : SubO w base v ss) : ∃ S q, v = .slice S ss.length q ∧ ss.length ≤ q ∧ q ≤ maxLen ∧ Strs w w.heap.size S ss.length ss := by
  obtain ⟨S, q, e, hq, hqm, hS⟩ := own_slice h
  refine ⟨S, q, e, hq, hqm, rfl, fun hn => ?_⟩
  obtain ⟨g, rfl, hg, _⟩ := hS hn
  refine ⟨g, 0, rfl, hg, fun j hj => ?_⟩
  unfold SubO at h
  rw [e] at h
  rw [Nat.zero_add]
  exact own_cell h j _ (by omega) (by simp [List.getD_eq_getElem?_getD, List.getElem?_eq_getElem hj])
theorem OwnIts.sub_at {w : World} {base t : Nat} {v : Value} {fs : List ItD} {vs : List Value} (h : OwnIts w base t v fs vs) {k : Nat} (hk : k < fs.length) : ∃ S q, vs.getD k (.slice none 0 0) = .slice S (fs.getD k default).subs.length q ∧ (fs.getD k default).subs.length ≤ q ∧ Strs w w.heap.size S (fs.getD k default).subs.length (fs.getD k default).subs := by
  have hs := h.subs k hk
  obtain ⟨S, q, e, hq, _, hS⟩ := own_slice hs
  refine ⟨S, q, e, hq, rfl, fun hn => ?_⟩
  obtain ⟨g, rfl, hg, _⟩ := hS hn
  refine ⟨g, 0, rfl, hg, fun j hj => ?_⟩
  unfold SubO at hs
  rw [e] at hs
  rw [Nat.zero_add]
  exact own_cell hs j _ (by omega) (map_str_at _ j hj)

/-- k items looked at, those with p laid into vo. -/
structure Sv (base T : Nat) (fs : List ItD) (vs : List Value) (p : ItD → Bool) (k : Nat) (v vo : Value) (X : World) : Prop where
  its : OwnIts X base T v fs vs
  row : X.ownsRow base T 4 vo (sel p fs vs k).length (flat ((sel p fs vs k).map (·.1)) ((sel p fs vs k).map (·.2)))
  ap : apart vo v
section
variable {base T : Nat} {fs : List ItD} {vs : List Value} {p : ItD → Bool} {k : Nat} {v vo : Value} {X Y : World}
theorem Sv.start (h : OwnIts X base T v fs vs) : Sv base T fs vs p 0 v (.slice none 0 0) X :=
  ⟨h, by rw [sel_zero]; exact World.ownsRow_nil _ _ _ _, .inl rfl⟩
theorem Sv.later (s : Sv base T fs vs p k v vo X) (hb : Below X.heap.size X Y) : Sv base T fs vs p k v vo Y := ⟨s.its.later hb, own_later s.row hb, s.ap⟩
theorem Sv.other {g tp : Nat} {cs : Array Value} (s : Sv base T fs vs p k v vo X) (hB : Blk X g tp cs) (h1 : T ≠ tp) (h2 : 9 ≠ tp) (hg : X.grownBy Y (some g)) : Sv base T fs vs p k v vo Y :=
  ⟨s.its.grownOther hB h1 h2 hg, s.row.kept hg (.inr (own_blk_ne s.row hB h1)), s.ap⟩
theorem Sv.aside {base' t' size' n' : Nat} {v' : Value} {xs' : List Value} (s : Sv base T fs vs p k v vo X) (hr : X.ownsRow base' t' size' v' n' xs') (h1 : T ≠ t') (h2 : 9 ≠ t') (hg : X.grownBy Y v'.ownBlock) : Sv base T fs vs p k v vo Y :=
  ⟨s.its.keptRow hr h1 h2 hg, kept_apart s.row hg (apart_types s.row hr h1), s.ap⟩
theorem Sv.skip (s : Sv base T fs vs p k v vo X) (hk : k < fs.length) (hp : p (fs.getD k default) = false) : Sv base T fs vs p (k + 1) v vo X := by
  have e : sel p fs vs (k + 1) = sel p fs vs k := by rw [sel_next p fs vs k s.its.len hk, hp, if_neg (by decide)]
  exact ⟨s.its, by rw [e]; exact s.row, s.ap⟩
theorem Sv.keep (s : Sv base T fs vs p k v vo X) (hk : k < fs.length) (hp : p (fs.getD k default) = true) {o : Obj} {g cap : Nat} (hown : Y.ownsRow base T 4 (.slice (some ⟨g, 0, none⟩) ((sel p fs vs k).length + 1) cap) ((sel p fs vs k).length + 1) (flat ((sel p fs vs k).map (·.1)) ((sel p fs vs k).map (·.2)) ++ cellsIt (fs.getD k default) (vs.getD k (.slice none 0 0))))
    (hg : (X.alloc o).grownBy Y vo.ownBlock) (hat : vo.ownBlock = some g ∨ g = X.heap.size + 1) (ht : 9 ≠ T) : Sv base T fs vs p (k + 1) v (.slice (some ⟨g, 0, none⟩) ((sel p fs vs k).length + 1) cap) Y := by
  have e : sel p fs vs (k + 1) = sel p fs vs k ++ [(fs.getD k default, vs.getD k (.slice none 0 0))] := by rw [sel_next p fs vs k s.its.len hk, hp, if_pos rfl]
  have s2 := s.later (Below.new X o)
  have hl : (sel p fs vs (k + 1)).length = (sel p fs vs k).length + 1 := by rw [e, List.length_append]; rfl
  have hf : flat ((sel p fs vs (k + 1)).map (·.1)) ((sel p fs vs (k + 1)).map (·.2)) = flat ((sel p fs vs k).map (·.1)) ((sel p fs vs k).map (·.2)) ++ cellsIt (fs.getD k default) (vs.getD k (.slice none 0 0)) := by
    rw [e, List.map_append, List.map_append, flat_append _ _ _ _ (by simp)]
    simp [flat]
  refine ⟨?_, by rw [hl, hf]; exact hown, ?_⟩
  · have h1 := s2.its
    refine ⟨h1.len, kept_apart h1.row hg (apart_symm s.ap), fun j hj => kept_apart (h1.subs j hj) hg (apart_types (h1.subs j hj) s2.row ht), h1.aprt⟩
  · cases hv : v.ownBlock with
    | none => exact apart_symm (.inl hv)
    | some b =>
      refine .inr ?_
      rw [hv]
      intro he
      have hgb : g = b := by simpa [Value.ownBlock] using he
      subst hgb
      rcases hat with hat | hat
      · rcases s.ap with h1 | h1
        · rw [hat] at h1; cases h1
        · rw [hat, hv] at h1; exact h1 rfl
      · have := (s.its.row.lt g hv).2
        omega
theorem Sv.done (s : Sv base T fs vs p fs.length v vo X) : OwnIts X base T vo (fs.filter p) (((fs.zip vs).filter fun x => p x.1).map (·.2)) ∧ ∀ u ∈ ((fs.zip vs).filter fun x => p x.1).map (·.2), u ∈ vs := by
  have hr := s.row
  rw [sel_all p fs vs s.its.len] at hr
  refine ⟨?_, fun u hu => ?_⟩
  · have h := OwnIts.sub_pairs (w' := X) (v' := vo) s.its (xs := (fs.zip vs).filter fun x => p x.1) List.filter_sublist hr (fun x _ h => h)
    rw [zip_filter p fs vs s.its.len] at h
    exact h
  · obtain ⟨x, hx, rfl⟩ := List.mem_map.1 hu
    obtain ⟨a, b⟩ := x
    exact (List.of_mem_zip (List.mem_filter.1 hx).1).2
end
end Go.Proofs.YtiebcdajoddkpaaGreatDoor

