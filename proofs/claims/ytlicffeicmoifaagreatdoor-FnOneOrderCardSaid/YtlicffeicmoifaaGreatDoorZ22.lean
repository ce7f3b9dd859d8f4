import Derived.Test.YtlicffeicmoifaaGreatDoorZ00
import Derived.Test.YtlicffeicmoifaaGreatDoorZ06
import Derived.Test.YtlicffeicmoifaaGreatDoorZ21
import Derived.Test.YtlicffeicmoifaaGreatDoorZ09
import Derived.Test.YtlicffeicmoifaaGreatDoorZ07
import Derived.Test.YtlicffeicmoifaaGreatDoorProg
import Derived.Test.YtlicffeicmoifaaGreatDoorZ15
import Derived.Test.YtlicffeicmoifaaGreatDoorZ01
import Derived.Test.YtlicffeicmoifaaGreatDoorZ08
import Derived.Test.YtlicffeicmoifaaGreatDoorZ13
import Derived.Laws.BitsAllLaws
import Derived.Ground.Names2Prog
import Derived.Ground.SlgnProg
import Derived.Lib.AppendIntMem
import Derived.Lib.IndexBytes
import Derived.Lib.Join
import Derived.Lib.OwnBridge
import Derived.Lib.SplitLaws
import Derived.Lib.TrimUEq
import Derived.LoopIn
import Derived.LoopNIn
import Derived.OwnWalkIn
import Derived.RangeFuncBox
import Derived.RangeFuncLeaves
import Derived.Shelf.Abstract
import Derived.Shelf.GgClosure.StringsIndexFuncTop
import Derived.Shelf.LaysM
import Derived.Shelf.Slices.Cells
import Derived.Shelf.Slices.Clone
import Derived.Shelf.Slices.CompactS
import Derived.Shelf.Slices.Empties2
import Derived.Shelf.Slices.Equal
import Derived.Shelf.SlicesE.Clone
import Derived.Shelf.SlicesG.CompactI
import Derived.Shelf.SlicesG.Delete
import Derived.Shelf.SlicesG.SearchI
import Derived.Shelf.Small.Bits
import Derived.Shelf.Small.Strs
import Derived.Shelf.Small.Utf8
import Derived.Shelf.Small.Wraps
import Derived.Shelf.Strconv.Itoa0
import Derived.Shelf.Strconv.Itoa1
import Derived.Shelf.Strconv.Itoa2
import Derived.Shelf.Strconv.Itoa3
import Derived.Shelf.Strconv.Itoa4
import Derived.Shelf.Strings.AsciiSet
import Derived.Shelf.Strings.Builder1
import Derived.Shelf.Strings.Builder2
import Derived.Shelf.Strings.Count
import Derived.Shelf.Strings.OnBuilder
import Derived.Shelf.Strings.Prefix
import Derived.Shelf.Strings.Replace
import Derived.Shelf.Strings.RuneCount
import Derived.Shelf.Strings.Runes
import Derived.Shelf.Strings.Search1
import Derived.Shelf.Strings.Search2
import Derived.Shelf.Strings.Search3
import Derived.Shelf.Strings.Shaped
import Derived.Shelf.Strings.SlTrimAscii
import Derived.Shelf.Strings.Split
import Derived.Shelf.Strings.SplitShaped
import Derived.Shelf.Strings.Trim
import Derived.Shelf.Unicode.Decode
import Derived.Shelf.Unicode.DecodeAny
import Derived.Shelf.Unicode.DecodeLast
import Derived.Shelf.Unicode.DecodeSlow
import Derived.TacticsInMore
import Derived.WalkKit
set_option linter.unusedSimpArgs false
namespace Go.Proofs.YtlicffeicmoifaaGreatDoor
open Go.RowKit _root_.Go.Proofs.YtlicffeicmoifaaGreatDoor.Own
set_option linter.unusedVariables false
def Ints (w : World) (B : Nat) (A : Option Addr) (n : Nat) (zs : List Int) : Prop :=
 zs.length = n ∧ (0 < n → ∃ b o, A = some ⟨b, o, none⟩ ∧ b < B ∧ ∀ j, j < n → w.cell? ⟨b, o + j, none⟩ = some (.int .i64 (zs.getD j 0)))
def BytesR (w : World) (B : Nat) (A : Option Addr) (n : Nat) : Prop := 0 < n → ∃ b o, A = some ⟨b, o, none⟩ ∧ b < B ∧ ∀ j, j < n → ∃ x : Nat, w.cell? ⟨b, o + j, none⟩ = some (.int .u8 x) ∧ x ≤ 255
def SrcR (w : World) (p K : Nat) : Prop := ∃ (A : Option Addr) (n c a s : Nat), Blk w p 124 #[.slice A n c, .int .i64 a, .int .u64 s] ∧ BytesR w p A n ∧ a ≤ K ∧ n ≤ 1048576 ∧ s < 18446744073709551616
theorem BytesR.later {w w' : World} {B : Nat} {A : Option Addr} {n : Nat} (h : BytesR w B A n) (hk : ∀ i, i < B → w'.heap[i]? = w.heap[i]?) : BytesR w' B A n := fun hn => by
 obtain ⟨b, o, e, hb, hc⟩ := h hn
 refine ⟨b, o, e, hb, fun j hj => ?_⟩
 obtain ⟨x, h1, h2⟩ := hc j hj
 exact ⟨x, (World.cell?_of_block (w := w) (hk b hb)).trans h1, h2⟩
theorem SrcR.later {w w' : World} {p K : Nat} (h : SrcR w p K) (hb : Below w.heap.size w w') : SrcR w' p K := by
 obtain ⟨A, n, c, a, s, hB, hY, h1, h2, h3⟩ := h
 exact ⟨A, n, c, a, s, hB.later hb hB.lt, hY.later (fun i hi => hb.block i (by have := hB.lt; omega)), h1, h2, h3⟩
theorem SrcR.mono {w : World} {p K K' : Nat} (h : SrcR w p K) (hK : K ≤ K') : SrcR w p K' := by
 obtain ⟨A, n, c, a, s, hB, hY, h1, h2, h3⟩ := h
 exact ⟨A, n, c, a, s, hB, hY, by omega, h2, h3⟩
theorem SrcR.lt {w : World} {p K : Nat} (h : SrcR w p K) : p < w.heap.size := by
 obtain ⟨A, n, c, a, s, hB, _⟩ := h
 exact hB.lt
structure Drawn (p K : Nat) (w w' : World) : Prop where
 src : SrcR w' p K
 chg : Chg (fun g => g = p) w w'
theorem Drawn.later {p K : Nat} {a b c : World} (h : Drawn p K a b) (hb : Below b.heap.size b c) : Drawn p K a c := ⟨h.src.later hb, h.chg.trans (Chg.of_below hb)⟩
theorem Drawn.trans {p K K' : Nat} {a b c : World} (h : Drawn p K a b) (k : Drawn p K' b c) : Drawn p K' a c := ⟨k.src, h.chg.trans k.chg⟩
theorem SrcR.not_own {w : World} {p K : Nat} (h : SrcR w p K) {base e size n : Nat} {v : Value} {xs : List Value} (hr : w.ownsRow base e size v n xs) (he : e ≠ 124) : Own.inP (fun g => ¬ g = p) v := fun g hg e1 => by
 obtain ⟨A, m, c, a, s, hB, _⟩ := h
 subst e1
 exact own_blk_ne hr hB he hg
theorem OwnL.drawn {α : Type} [Inhabited α] {D : Kind α} {w w' : World} {p K K' base t : Nat} {v : Value} {fs : List α} {vs : List Value} (h : OwnL D w base t v fs vs) (hs : SrcR w p K) (hd : Drawn p K' w w') (ht : t ≠ 124) : OwnL D w' base t v fs vs :=
 OwnL.chg h hd.chg (hs.not_own h.row ht) (fun u hu => by
  obtain ⟨j, hj, rfl⟩ := mem_getD hu
  exact hs.not_own (h.subs j (by rw [← h.len]; exact hj)) (by decide))
theorem _root_.Go.Proofs.YtlicffeicmoifaaGreatDoor.Own.Chg.drewN {P : Nat → Prop} {a b : World} (h : Chg P a b) (q : Nat) : Chg P a (b.drewN q) := h.trans (Chg.of_below (below_drewN (Below.refl _ _) q))
theorem src_put {w : World} {p K a s s2 n c : Nat} {A : Option Addr} (hB : Blk w p 124 #[.slice A n c, .int .i64 a, .int .u64 s]) (hY : BytesR w p A n) (ha : a ≤ K) (hn : n ≤ 1048576) (hs : s2 < 18446744073709551616) (q q2 : Nat) :
 Drawn p (K + 1) w ((((w.drewN q).setCell ⟨p, 1, none⟩ (.int .i64 ((a : Int) + 1))).setCell ⟨p, 2, none⟩ (.int .u64 s2)).drewN q2) := by
 have hc : Chg (fun g => g = p) w ((((w.drewN q).setCell ⟨p, 1, none⟩ (.int .i64 ((a : Int) + 1))).setCell ⟨p, 2, none⟩ (.int .u64 s2)).drewN q2) :=
  Chg.drewN (Chg.set (Chg.set (P := fun g => g = p) (Chg.drewN (Chg.refl (fun g => g = p) w) q) (g := p) rfl 1 (.int .i64 ((a : Int) + 1))) (g := p) rfl 2 (.int .u64 s2)) q2
 have h1 : Blk (w.drewN q) p 124 #[.slice A n c, .int .i64 a, .int .u64 s] := hB
 have h2 := (h1.set_ 1 (.int .i64 ((a : Int) + 1))).set_ 2 (.int .u64 s2)
 have h3 : Blk ((((w.drewN q).setCell ⟨p, 1, none⟩ (.int .i64 ((a : Int) + 1))).setCell ⟨p, 2, none⟩ (.int .u64 s2)).drewN q2) p 124 #[.slice A n c, .int .i64 ((a + 1 : Nat) : Int), .int .u64 s2] := by
  have h4 : Blk ((((w.drewN q).setCell ⟨p, 1, none⟩ (.int .i64 ((a : Int) + 1))).setCell ⟨p, 2, none⟩ (.int .u64 s2))) p 124 #[.slice A n c, .int .i64 ((a + 1 : Nat) : Int), .int .u64 s2] := by simpa using h2
  exact h4
 exact ⟨⟨A, n, c, a + 1, s2, h3, hY.later (fun i hi => hc.block i (by have := hB.lt; omega) (by omega)), by omega, hn, hs⟩, hc⟩
theorem low_byte (s : Nat) (h : s < 18446744073709551616) : ∃ x : Nat, wrap64 (bits BinOp.and IntKind.u64 ((s : Int) / 1099511627776) 255) = x ∧ x ≤ 255 := by
 have e : (s : Int) / 1099511627776 = ((s / 1099511627776 : Nat) : Int) := by omega
 have h1 := u64_and_nat (s / 1099511627776) 255 (by omega) (by omega)
 have h2 : s / 1099511627776 &&& 255 ≤ 255 := Nat.and_le_right
 refine ⟨s / 1099511627776 &&& 255, ?_, h2⟩
 rw [e]
 have h3 : bits BinOp.and IntKind.u64 ((s / 1099511627776 : Nat) : Int) 255 = ((s / 1099511627776 &&& 255 : Nat) : Int) := h1
 rw [h3]
 unfold wrap64
 omega
theorem u64_nat (z : Int) : ∃ s : Nat, IntKind.u64.wrap z = s ∧ s < 18446744073709551616 :=
 ⟨(z % 18446744073709551616).toNat, by rw [IntKind.wrap_u64]; omega, by omega⟩
set_option maxHeartbeats 1000000 in
theorem next_any (p K : Nat) (w : World) (h : SrcR w p K) (hK : K ≤ 1099511627776) :
 Calls Tryz.prog 171 #[.pointer (some ⟨p, 0, none⟩)] w fun e w' => ∃ x : Nat, e = .returned (.int .i64 x) ∧ x ≤ 255 ∧ Drawn p (K + 1) w w' := by
 obtain ⟨A, n, c, a, s, hB, hY, ha, hn, hs⟩ := h
 have HB := Lib.hid hB
 have HY := Lib.hid hY
 have c0 := hB.cell 0
 have c1 := hB.cell 1
 have c2 := hB.cell 2
 have f1 := hB.frozen 1
 have f2 := hB.frozen 2
 have hz := hB.lt
 simp at c0 c1 c2
 clear hB hY
 go_enter Tryz.func171, Tryz.ntmps171
 by_cases hlt : a < n
 · obtain ⟨b, o, rfl, hb, hc⟩ := HY.out (by omega)
   obtain ⟨x, hx, hx2⟩ := hc a hlt
   clear hc
   go_wp2_with fail
   go_quiet (fail)
   go_wp2_with fail
   go_quiet (fail)
   go_wp2_with fail
   obtain ⟨s2, hs2, hs3⟩ := u64_nat (IntKind.u64.wrap (IntKind.u64.wrap ((s : Int) * 6364136223846793005) + x) + 1442695040888963407)
   rw [hs2]
   clear hs2
   go_quiet (fail)
   go_wp2_with fail
   go_ret
   exact ⟨x, rfl, hx2, src_put HB.out HY.out ha hn hs3 _ _⟩
 · go_wp2_with fail
   go_quiet (fail)
   go_wp2_with fail
   obtain ⟨s2, hs2, hs3⟩ := u64_nat (IntKind.u64.wrap (IntKind.u64.wrap ((s : Int) * 6364136223846793005)) + 1442695040888963407)
   rw [hs2]
   clear hs2
   have hnot : ¬ (a : Int) + 1 ≤ (n : Int) := by omega
   go_quiet (fail)
   go_wp2_with fail
   obtain ⟨x, hx, hx2⟩ := low_byte s2 hs3
   rw [hx]
   go_ret
   exact ⟨x, rfl, hx2, src_put HB.out HY.out ha hn hs3 _ _⟩
theorem Drawn.refl {p K : Nat} {w : World} (h : SrcR w p K) : Drawn p K w w := ⟨h, Chg.refl _ _⟩
theorem Drawn.mono {p K K' : Nat} {a b : World} (h : Drawn p K a b) (hK : K ≤ K') : Drawn p K' a b := ⟨h.src.mono hK, h.chg⟩
theorem emod_nat (z n : Int) (h : 0 < n) : ∃ x : Nat, z % n = x ∧ (x : Int) < n :=
 ⟨(z % n).toNat, by have := Int.emod_nonneg z (show n ≠ 0 by omega); omega, by have := Int.emod_lt_of_pos z h; have := Int.emod_nonneg z (show n ≠ 0 by omega); omega⟩
set_option maxHeartbeats 1000000 in
theorem pick_any (p K : Nat) (n : Int) (w : World) (h : SrcR w p K) (hK : K ≤ 1099511627775) (hn : n ≤ 4294967296) :
 Calls Tryz.prog 84 #[.pointer (some ⟨p, 0, none⟩), .int .i64 n] w fun e w' => ∃ x : Nat, e = .returned (.int .i64 x) ∧ ((x : Int) < n ∨ x = 0) ∧ Drawn p (K + 2) w w' := by
 have HK1 := Lib.hid (next_any p K w h (by omega))
 have HK2 := Lib.hid (fun W (hW : SrcR W p (K + 1)) => next_any p (K + 1) W hW (by omega))
 have HD0 := Lib.hid ((Drawn.refl h).mono (show K ≤ K + 2 by omega))
 clear h
 go_enter Tryz.func84, Tryz.ntmps84
 by_cases h1 : n ≤ 1
 · go_wp2_with fail
   go_ret
   exact ⟨0, rfl, .inr rfl, HD0.out⟩
 · go_wp2_with fail
   refine HK1.out.mono ?_
   rintro e w1 ⟨x, rfl, hx, hd1⟩
   have HD1 := Lib.hid (hd1.mono (show K + 1 ≤ K + 2 by omega))
   have HN := Lib.hid (HK2.out w1 hd1.src)
   have HD2 := Lib.hid hd1
   clear hd1 HK1 HK2
   have hn0 : ¬ n = 0 := by omega
   by_cases h2 : 200 < n
   · go_wp2_with fail
     refine HN.out.mono ?_
     rintro e w2 ⟨y, rfl, hy, hd2⟩
     have HD3 := Lib.hid (HD2.out.trans hd2)
     clear hd2
     go_wp2_with fail
     obtain ⟨z, hz1, hz2⟩ := emod_nat ((x : Int) * 256 + y) n (by omega)
     rw [hz1]
     go_ret
     exact ⟨z, rfl, .inl hz2, HD3.out⟩
   · go_wp2_with fail
     obtain ⟨z, hz1, hz2⟩ := emod_nat (x : Int) n (by omega)
     rw [hz1]
     go_ret
     exact ⟨z, rfl, .inl hz2, HD1.out⟩
set_option maxHeartbeats 1000000 in
theorem one_any (p K : Nat) (n : Int) (w : World) (h : SrcR w p K) (hK : K ≤ 1099511627775) (hn : n ≤ 4294967296) :
 Calls Tryz.prog 215 #[.pointer (some ⟨p, 0, none⟩), .int .i64 n] w fun e w' => ∃ b : Bool, e = .returned (.bool b) ∧ Drawn p (K + 2) w w' := by
 have HK1 := Lib.hid (pick_any p K n w h hK hn)
 clear h
 go_enter Tryz.func215, Tryz.ntmps215
 go_wp2_with fail
 refine HK1.out.mono ?_
 rintro e w1 ⟨x, rfl, _, hd1⟩
 have HD1 := Lib.hid hd1
 clear hd1
 go_wp2_with fail
 go_ret
 exact ⟨_, rfl, HD1.out⟩
theorem SrcR.ne {w : World} {p K b o : Nat} {v : Value} (h : SrcR w p K) (hv : w.cell? ⟨b, o, none⟩ = some v) (h1 : (∀ A n c, v ≠ .slice A n c) ∧ (∀ z, v ≠ .int .i64 z) ∧ (∀ z, v ≠ .int .u64 z)) : b ≠ p := by
 rintro rfl
 obtain ⟨A, n, c, a, s, hB, _⟩ := h
 have h2 := (hB.cell o).symm.trans hv
 rcases o with _ | _ | _ | o
 · exact h1.1 _ _ _ (by simpa using h2.symm)
 · exact h1.2.1 _ (by simpa using h2.symm)
 · exact h1.2.2 _ (by simpa using h2.symm)
 · simp at h2
theorem SrcR.strs {w w' : World} {p K K' n : Nat} {A : Option Addr} {ss : List ByteArray} (h : SrcR w p K) (hs : Strs w w.heap.size A n ss) (hd : Drawn p K' w w') : Strs w' w'.heap.size A n ss := by
 refine ⟨hs.1, fun hn => ?_⟩
 obtain ⟨b, o, e, hb, hc⟩ := hs.2 hn
 have hne : b ≠ p := h.ne (hc 0 hn) ⟨fun _ _ _ => by simp, fun _ => by simp, fun _ => by simp⟩
 exact ⟨b, o, e, Nat.lt_of_lt_of_le hb hd.chg.size, fun j hj => (World.cell?_of_block (w := w) (hd.chg.block b hb hne)).trans (hc j hj)⟩
set_option maxHeartbeats 1000000 in
theorem text_any (p K : Nat) (A : Option Addr) (n c : Nat) (ss : List ByteArray) (w : World) (h : SrcR w p K) (hK : K ≤ 1099511627775) (hs : Strs w w.heap.size A n ss) (hn : 0 < n) (hn2 : n ≤ 1048576) :
 Calls Tryz.prog 87 #[.pointer (some ⟨p, 0, none⟩), .slice A n c] w fun e w' => ∃ s ∈ ss, e = .returned (.string s) ∧ Drawn p (K + 2) w w' := by
 have HK1 := Lib.hid (pick_any p K n w h hK (by omega))
 have HS := Lib.hid (fun w' (hd : Drawn p (K + 2) w w') => h.strs hs hd)
 have HL : Hid (ss.length = n) := hs.1
 clear h hs
 go_enter Tryz.func87, Tryz.ntmps87
 go_wp2_with fail
 refine HK1.out.mono ?_
 rintro e w1 ⟨x, rfl, hx, hd1⟩
 have hxn : x < n := by omega
 obtain ⟨b, o, rfl, hb, hc⟩ := (HS.out w1 hd1).2 hn
 have hcx := hc x hxn
 have HM : Hid (ss.getD x ByteArray.empty ∈ ss) := mem_of_getD ss x _ (by rw [HL.out]; exact hxn)
 have HD1 := Lib.hid hd1
 clear hd1 hc hx HS
 generalize ss.getD x ByteArray.empty = t at *
 go_wp2_with fail
 go_ret
 exact ⟨t, HM.out, rfl, HD1.out⟩
set_option maxHeartbeats 1000000 in
theorem among_any (p K : Nat) (b n c : Nat) (zs : List Int) (w : World) (h : SrcR w p K) (hK : K ≤ 1099511627775) (hs : Ints w w.heap.size (some ⟨b, 0, none⟩) n zs) (hbp : b ≠ p) (hn : 0 < n) (hn2 : n ≤ 1048576) :
 Calls Tryz.prog 159 #[.pointer (some ⟨p, 0, none⟩), .slice (some ⟨b, 0, none⟩) n c] w fun e w' => ∃ z ∈ zs, e = .returned (.int .i64 z) ∧ Drawn p (K + 2) w w' := by
 have HK1 := Lib.hid (pick_any p K n w h hK (by omega))
 have HS : Hid (∀ w', Drawn p (K + 2) w w' → Ints w' w'.heap.size (some ⟨b, 0, none⟩) n zs) := fun w' hd => by
  refine ⟨hs.1, fun hn => ?_⟩
  obtain ⟨b', o, e, hb, hc⟩ := hs.2 hn
  cases e
  exact ⟨b, 0, rfl, Nat.lt_of_lt_of_le hb hd.chg.size, fun j hj => (World.cell?_of_block (w := w) (hd.chg.block b hb hbp)).trans (hc j hj)⟩
 have HL : Hid (zs.length = n) := hs.1
 clear h hs
 go_enter Tryz.func159, Tryz.ntmps159
 go_wp2_with fail
 refine HK1.out.mono ?_
 rintro e w1 ⟨x, rfl, hx, hd1⟩
 have hxn : x < n := by omega
 obtain ⟨b', o, e, hb, hc⟩ := (HS.out w1 hd1).2 hn
 cases e
 have hcx := hc x hxn
 have HM : Hid (zs.getD x 0 ∈ zs) := mem_of_getD zs x _ (by rw [HL.out]; exact hxn)
 have HD1 := Lib.hid hd1
 clear hd1 hc hx HS
 rw [Nat.zero_add] at hcx
 generalize zs.getD x 0 = t at *
 go_wp2_with fail
 go_ret
 exact ⟨t, HM.out, rfl, HD1.out⟩
theorem _root_.Go.Proofs.YtlicffeicmoifaaGreatDoor.Own.Chg.fresh {P Q : Nat → Prop} {a b c : World} (h : Chg P a b) (k : Chg Q b c) (hQ : ∀ g, Q g → a.heap.size ≤ g) : Chg P a c :=
 ⟨k.os.trans h.os, k.tape.trans h.tape, k.output.trans h.output, Nat.le_trans h.size k.size, fun i hi' hr => (k.block i (Nat.lt_of_lt_of_le hi' h.size) (fun hq => by have := hQ i hq; omega)).trans (h.block i hi' hr)⟩
theorem SrcR.chg {P : Nat → Prop} {w w' : World} {p K : Nat} (h : SrcR w p K) (k : Chg P w w') (hP : ∀ g, P g → p < g) : SrcR w' p K := by
 obtain ⟨A, n, c, a, s, hB, hY, h1, h2, h3⟩ := h
 exact ⟨A, n, c, a, s, Own.Blk.chg hB k (fun hp => Nat.lt_irrefl _ (hP _ hp)), hY.later (fun i hi => k.block i (by have := hB.lt; omega) (fun hp => by have := hP _ hp; omega)), h1, h2, h3⟩
theorem Drawn.pre {p K : Nat} {a b c : World} (hb : Below a.heap.size a b) (h : Drawn p K b c) : Drawn p K a c := ⟨h.src, (Chg.of_below hb).trans h.chg⟩
theorem Drawn.grown {p K : Nat} {a b c : World} {row : Option Nat} (h : Drawn p K a b) (hg : b.grownBy c row) (hr : ∀ g, row = some g → a.heap.size ≤ g) (hp : p < a.heap.size) : Drawn p K a c :=
 ⟨h.src.chg (Chg.of_grown (P := fun g => a.heap.size ≤ g) hg hr) (fun g hg' => Nat.lt_of_lt_of_le hp hg'), h.chg.fresh (Chg.of_grown (P := fun g => a.heap.size ≤ g) hg hr) (fun g hg' => hg')⟩
theorem Drawn.lt {p K : Nat} {a b : World} (h : Drawn p K a b) : p < b.heap.size := h.src.lt
theorem SubO.drawn {w w' : World} {p K K' base : Nat} {v : Value} {ss : List ByteArray} (h : SubO w base v ss) (hs : SrcR w p K) (hd : Drawn p K' w w') : SubO w' base v ss :=
 own_chg h hd.chg (hs.not_own h (by decide))
theorem Blk.drawn {w w' : World} {p K g t : Nat} {cs : Array Value} (h : Blk w g t cs) (hd : Drawn p K w w') (hp : g ≠ p) : Blk w' g t cs := Own.Blk.chg h hd.chg hp
theorem strs_lit (w : World) (t : TypeId) (ss : List ByteArray) (cs : Array Value) (h : cs = strArr ss) : Strs (w.alloc (.cells cs t)) (w.alloc (.cells cs t)).heap.size (some ⟨w.heap.size, 0, none⟩) ss.length ss := by
 subst h
 exact (Strs.made w t ss).more (by simp)
theorem ints_lit (w : World) (t : TypeId) (zs : List Int) (cs : Array Value) (h : cs = (zs.map (Value.int .i64)).toArray) : Ints (w.alloc (.cells cs t)) (w.alloc (.cells cs t)).heap.size (some ⟨w.heap.size, 0, none⟩) zs.length zs := by
 subst h
 refine ⟨rfl, fun hn => ⟨w.heap.size, 0, rfl, by simp, fun j hj => ?_⟩⟩
 refine (Blk.cell (t := t) (heap_alloc_new w _) _).trans ?_
 simp [List.getD_eq_getElem?_getD, List.getElem?_eq_getElem hj]
theorem SrcR.reads_nodes {w w' : World} {p K K' n : Nat} {A : Option Addr} {fs : List NodeD} (h : SrcR w p K) (hs : Nodes w w.heap.size A n fs) (hd : Drawn p K' w w') : Nodes w' w'.heap.size A n fs := by
 refine ⟨hs.1, fun hn => ?_⟩
 obtain ⟨b, o, e, hb, hc⟩ := hs.2 hn
 have hne : b ≠ p := by
  obtain ⟨c0, c1, c2, h0, _, _, hr⟩ := hc 0 hn
  refine h.ne h0 ?_
  rw [hr.1]
  exact ⟨fun _ _ _ => by simp, fun _ => by simp, fun _ => by simp⟩
 refine ⟨b, o, e, Nat.lt_of_lt_of_le hb hd.chg.size, fun j hj => ?_⟩
 obtain ⟨c0, c1, c2, h0, h1, h2, e0, ⟨A1, n1, p1, e1, s1, k1⟩, e2⟩ := hc j hj
 have hk : ∀ i, w'.cell? ⟨b, i, none⟩ = w.cell? ⟨b, i, none⟩ := fun i => World.cell?_of_block (w := w) (hd.chg.block b hb hne)
 exact ⟨c0, c1, c2, (hk _).trans h0, (hk _).trans h1, (hk _).trans h2, e0, ⟨A1, n1, p1, e1, h.strs s1 hd, k1⟩, e2⟩
end Go.Proofs.YtlicffeicmoifaaGreatDoor
namespace Go.Proofs.YtlicffeicmoifaaGreatDoor
open Go.RowKit
set_option linter.unusedVariables false
theorem _root_.Go.Proofs.YtlicffeicmoifaaGreatDoor.Own.SubO.setBlk {w : World} {base g tp i : Nat} {v u : Value} {ss : List ByteArray} {cs : Array Value} (h : Own.SubO w base v ss) (hB : Blk w g tp cs) (h2 : 9 ≠ tp) : Own.SubO (w.setCell ⟨g, i, none⟩ u) base v ss :=
 World.ownsRow.kept h (Own.grown_set _ _ _ _) (.inr (Own.own_blk_ne h hB h2))
theorem sub_lit {w : World} {base : Nat} (ss : List ByteArray) (cs : Array Value) (hb : base ≤ w.heap.size) (hm : ss.length ≤ 1048576) (h : cs = strArr ss) : Own.SubO (w.alloc (.cells cs 9)) base (.slice (some ⟨w.heap.size, 0, none⟩) ss.length ss.length) ss := by
 subst h
 exact Own.sub_of_blk (heap_alloc_new w _) hb (by unfold maxLen; omega)
end Go.Proofs.YtlicffeicmoifaaGreatDoor
namespace Go.Proofs.YtlicffeicmoifaaGreatDoor
open Go.RowKit
set_option linter.unusedVariables false
theorem ev_own {X : World} {B p q : Nat} {v a b c d e u : Value} {ss : List ByteArray} {cs0 cs1 cs2 : Array Value} (h : Own.SubO X B v ss) (h1 : Blk (X.setCell ⟨p, 2, none⟩ u) p 37 cs1) (h0 : Blk X p 37 cs0) (h2 : Blk X q 37 cs2) (hpq : q ≠ p) :
 Own.SubO (((((((X.setCell ⟨p, 2, none⟩ u).setCell ⟨q, 0, none⟩ a).setCell ⟨q, 1, none⟩ b).setCell ⟨q, 2, none⟩ c).setCell ⟨q, 3, none⟩ d).setCell ⟨q, 4, none⟩ e)) B v ss := by
 have k0 := Own.SubO.setBlk (u := u) (i := 2) h h0 (by decide)
 have g1 : Blk (X.setCell ⟨p, 2, none⟩ u) q 37 cs2 := h2.far (p := ⟨p, 2, none⟩) hpq u
 have k1 := Own.SubO.setBlk (u := a) (i := 0) k0 g1 (by decide)
 have g2 := g1.set_ 0 a
 have k2 := Own.SubO.setBlk (u := b) (i := 1) k1 g2 (by decide)
 have g3 := g2.set_ 1 b
 have k3 := Own.SubO.setBlk (u := c) (i := 2) k2 g3 (by decide)
 have g4 := g3.set_ 2 c
 have k4 := Own.SubO.setBlk (u := d) (i := 3) k3 g4 (by decide)
 have g5 := g4.set_ 3 d
 exact Own.SubO.setBlk (u := e) (i := 4) k4 g5 (by decide)
theorem ev_frame {X w : World} {p q : Nat} {a b c d e u : Value} (h : Below w.heap.size w X) (hp : w.heap.size ≤ p := by omega) (hq : w.heap.size ≤ q := by omega) :
 Below w.heap.size w (((((((X.setCell ⟨p, 2, none⟩ u).setCell ⟨q, 0, none⟩ a).setCell ⟨q, 1, none⟩ b).setCell ⟨q, 2, none⟩ c).setCell ⟨q, 3, none⟩ d).setCell ⟨q, 4, none⟩ e)) :=
 (((((h.setCell (p := ⟨p, 2, none⟩) hp u).setCell (p := ⟨q, 0, none⟩) hq a).setCell (p := ⟨q, 1, none⟩) hq b).setCell (p := ⟨q, 2, none⟩) hq c).setCell (p := ⟨q, 3, none⟩) hq d).setCell (p := ⟨q, 4, none⟩) hq e
set_option maxRecDepth 100000 in
set_option maxHeartbeats 2000000 in
theorem copyEvent_any (c0 c1 c2 c3 c4 : Value) (d : EvD) (w : World) (h : EvR w w.heap.size c0 c1 c2 c3 c4 d) (hsm : d.subs.length ≤ 1048576) :
 Calls Tryz.prog 63 #[.agg #[c0, c1, c2, c3, c4]] w (EvPost d w) := by
 obtain ⟨rfl, rfl, ⟨S, m, q, rfl, hs, hmq⟩, rfl, rfl⟩ := h
 have hm : m ≤ 1048576 := by rw [← hs.1]; exact hsm
 have HK := Lib.hid (fun W (hW : Below w.heap.size w W) => CloneS_any S m q d.subs W (hs.later hW) hm)
 clear hs hsm
 unfold EvPost
 generalize d.name = nm at *
 generalize d.val = vl at *
 generalize d.kind = kd at *
 generalize d.n = nn at *
 obtain ⟨WB, hWB⟩ : ∃ WB, WB = (w.alloc (.cells #[.int .i64 kd, .string nm, .slice S m q, .string vl, .int .i64 nn] 37)).alloc (.cells #[.int .i64 0, .string ⟨#[]⟩, .slice none 0 0, .string ⟨#[]⟩, .int .i64 0] 37) := ⟨_, rfl⟩
 have HB0 : Hid (Below w.heap.size w WB) := by subst hWB; exact (Below.new _ _).later (Below.new _ _)
 have HE0 : Hid (Blk WB w.heap.size 37 #[.int .i64 kd, .string nm, .slice S m q, .string vl, .int .i64 nn]) := by subst hWB; exact heap_two0 _ _ _
 have HE1 : Hid (Blk WB (w.heap.size + 1) 37 #[.int .i64 0, .string ⟨#[]⟩, .slice none 0 0, .string ⟨#[]⟩, .int .i64 0]) := by subst hWB; exact heap_two1 _ _ _
 have p2 := HE0.out.cell 2
 simp at p2
 go_enter Tryz.func63, Tryz.ntmps63
 go_wp2_with fail
 rw [← hWB]
 clear hWB
 refine (HK.out _ HB0.out).mono ?_
 rintro e w1 ⟨v1, rfl, ho1, hb1⟩
 have HB1 := Lib.hid (HB0.out.later hb1)
 have HF0 := Lib.hid (HE0.out.later hb1 HE0.out.lt)
 have HF1 := Lib.hid (HE1.out.later hb1 HE1.out.lt)
 have HO1 := Lib.hid (Own.own_base ho1 HB0.out.size)
 obtain ⟨A1, m1, q1, rfl⟩ : ∃ A1 m1 q1, v1 = .slice A1 m1 q1 := by
  obtain ⟨A, cap, e, _⟩ := Own.own_slice ho1
  exact ⟨A, _, cap, e⟩
 have r0 := HF0.out.cell 0
 have r1 := HF0.out.cell 1
 have r2 := HF0.out.cell 2
 have r3 := HF0.out.cell 3
 have r4 := HF0.out.cell 4
 have rf := HF0.out.frozen 2
 have rz := HF0.out.lt
 have y0 := HF1.out.cell 0
 have y1 := HF1.out.cell 1
 have y2 := HF1.out.cell 2
 have y3 := HF1.out.cell 3
 have y4 := HF1.out.cell 4
 have yf0 := HF1.out.frozen 0
 have yf1 := HF1.out.frozen 1
 have yf2 := HF1.out.frozen 2
 have yf3 := HF1.out.frozen 3
 have yf4 := HF1.out.frozen 4
 have yz := HF1.out.lt
 simp at r0 r1 r2 r3 r4 y0 y1 y2 y3 y4
 clear hb1 ho1 p2
 go_wp2_with fail
 refine bodyPost_ret (v := .agg #[.int .i64 kd, .string nm, .slice A1 m1 q1, .string vl, .int .i64 nn]) (by simp [results, Tryz.results63, go_sem, y0, y1, y2, y3, y4]) rfl ?_
 refine ⟨_, rfl, ?_, ?_⟩
 · exact ev_own HO1.out (HF0.out.set_ 2 _) HF0.out HF1.out (by omega)
 · exact ev_frame HB1.out
theorem l24SubsO_any (A : Option Addr) (n c : Nat) (ss : List ByteArray) (w : World) (h : Strs w w.heap.size A n ss) (hn : n ≤ 1048576) :
 Calls Tryz.prog 103 #[.slice A n c] w fun e w' => ∃ A' c', e = .returned (.slice A' n c') ∧ n ≤ c' ∧ Own.SubO w' w.heap.size (.slice A' n c') ss ∧ Below w.heap.size w w' := by
 have HN := Lib.hid h.1
 obtain ⟨i0, hi, hz0, hz1, hz2⟩ := info_parts infoS
 have Hh := Lib.hid (strs_reads h)
 clear h
 go_enter Tryz.func103, Tryz.ntmps103
 go_wp2_with (at_builtin; refine wpList_append_any _ rfl (.tmp 3) (.tmp 4) 35 rfl w.heap.size 9 i0 _ 1 16 Tryz.underlying35 hi hz0 hz1 hz2 rfl (by decide) _ 0 [] rfl (World.ownsRow_lit _ _ 0 (Nat.le_refl _) (by omega) rfl) w.heap.size A n c (ss.map Value.string) rfl (Hh.out.alloc (Nat.le_refl _) _) (oneCells_strs ss) ?c1 ?c2 ?c3 ?_)
 case c1 => unfold maxLen; omega
 case c2 => omega
 case c3 => simp
 intro v w1 ho hg _
 have HB := Lib.hid (below_own (w0 := w) (size := 1) (n := 0) (xs := []) (Below.new _ _) (World.ownsRow_lit _ _ 0 (Nat.le_refl _) (by omega) rfl) (Nat.le_refl _) hg)
 obtain ⟨A', c', rfl, hc, _, _⟩ := Own.own_slice ho
 have HS := Lib.hid ho
 clear ho hg
 go_wp2_with fail
 go_ret
 exact ⟨A', c', rfl, hc, by unfold Own.SubO; rw [HN.out]; exact HS.out, HB.out⟩
set_option maxRecDepth 100000 in
set_option maxHeartbeats 2000000 in
theorem l25Own_any (c0 c1 c2 c3 c4 : Value) (d : EvD) (w : World) (h : EvR w w.heap.size c0 c1 c2 c3 c4 d) (hsm : d.subs.length ≤ 1048576) :
 Calls Tryz.prog 187 #[.agg #[c0, c1, c2, c3, c4]] w (EvPost d w) := by
 obtain ⟨rfl, rfl, ⟨S, m, q, rfl, hs, hmq⟩, rfl, rfl⟩ := h
 have hm : m ≤ 1048576 := by rw [← hs.1]; exact hsm
 have HK := Lib.hid (fun W (hW : Below w.heap.size w W) => l24SubsO_any S m q d.subs W (hs.later hW) hm)
 clear hs hsm
 unfold EvPost
 generalize d.name = nm at *
 generalize d.val = vl at *
 generalize d.kind = kd at *
 generalize d.n = nn at *
 obtain ⟨WB, hWB⟩ : ∃ WB, WB = (w.alloc (.cells #[.int .i64 kd, .string nm, .slice S m q, .string vl, .int .i64 nn] 37)).alloc (.cells #[.int .i64 0, .string ⟨#[]⟩, .slice none 0 0, .string ⟨#[]⟩, .int .i64 0] 37) := ⟨_, rfl⟩
 have HB0 : Hid (Below w.heap.size w WB) := by subst hWB; exact (Below.new _ _).later (Below.new _ _)
 have HE0 : Hid (Blk WB w.heap.size 37 #[.int .i64 kd, .string nm, .slice S m q, .string vl, .int .i64 nn]) := by subst hWB; exact heap_two0 _ _ _
 have HE1 : Hid (Blk WB (w.heap.size + 1) 37 #[.int .i64 0, .string ⟨#[]⟩, .slice none 0 0, .string ⟨#[]⟩, .int .i64 0]) := by subst hWB; exact heap_two1 _ _ _
 have p2 := HE0.out.cell 2
 simp at p2
 go_enter Tryz.func187, Tryz.ntmps187
 go_wp2_with fail
 rw [← hWB]
 clear hWB
 refine (HK.out _ HB0.out).mono ?_
 rintro e w1 ⟨A1, q1, rfl, _, ho1, hb1⟩
 have HB1 := Lib.hid (HB0.out.later hb1)
 have HF0 := Lib.hid (HE0.out.later hb1 HE0.out.lt)
 have HF1 := Lib.hid (HE1.out.later hb1 HE1.out.lt)
 have HO1 := Lib.hid (Own.own_base ho1 HB0.out.size)
 have r0 := HF0.out.cell 0
 have r1 := HF0.out.cell 1
 have r2 := HF0.out.cell 2
 have r3 := HF0.out.cell 3
 have r4 := HF0.out.cell 4
 have rf := HF0.out.frozen 2
 have rz := HF0.out.lt
 have y0 := HF1.out.cell 0
 have y1 := HF1.out.cell 1
 have y2 := HF1.out.cell 2
 have y3 := HF1.out.cell 3
 have y4 := HF1.out.cell 4
 have yf0 := HF1.out.frozen 0
 have yf1 := HF1.out.frozen 1
 have yf2 := HF1.out.frozen 2
 have yf3 := HF1.out.frozen 3
 have yf4 := HF1.out.frozen 4
 have yz := HF1.out.lt
 simp at r0 r1 r2 r3 r4 y0 y1 y2 y3 y4
 clear hb1 ho1 p2
 go_wp2_with fail
 refine bodyPost_ret (v := .agg #[.int .i64 kd, .string nm, .slice A1 m q1, .string vl, .int .i64 nn]) (by simp [results, Tryz.results187, go_sem, y0, y1, y2, y3, y4]) rfl ?_
 refine ⟨_, rfl, ?_, ?_⟩
 · exact ev_own HO1.out (HF0.out.set_ 2 _) HF0.out HF1.out (by omega)
 · exact ev_frame HB1.out
set_option maxRecDepth 100000 in
set_option maxHeartbeats 4000000 in
theorem sameEvent_any (c0 c1 c2 c3 c4 d0 d1 d2 d3 d4 : Value) (a b : EvD) (w : World) (h : EvR w w.heap.size c0 c1 c2 c3 c4 a) (h' : EvR w w.heap.size d0 d1 d2 d3 d4 b) (hsa : a.subs.length ≤ 1048576) (hsb : b.subs.length ≤ 1048576) :
 Calls Tryz.prog 183 #[.agg #[c0, c1, c2, c3, c4], .agg #[d0, d1, d2, d3, d4]] w fun e w' => e = .returned (.bool (sameE a b)) ∧ Below w.heap.size w w' := by
 obtain ⟨rfl, rfl, ⟨S, m, q, rfl, hs, hmq⟩, rfl, rfl⟩ := h
 obtain ⟨rfl, rfl, ⟨S', m', q', rfl, hs', hmq'⟩, rfl, rfl⟩ := h'
 have hm : m ≤ 1048576 := by rw [← hs.1]; exact hsa
 have hm' : m' ≤ 1048576 := by rw [← hs'.1]; exact hsb
 have HK := Lib.hid (fun W (hW : Below w.heap.size w W) => slicesEqual_any S S' m q m' q' a.subs b.subs W (hs.later hW) (hs'.later hW) hm hm')
 have HR : Hid (sameE a b = (decide (a.kind = b.kind) && (decide (a.name = b.name) && (eqS a.subs b.subs && (decide (a.val = b.val) && decide (a.n = b.n)))))) := rfl
 clear hs hs' hsa hsb
 generalize sameE a b = R at *
 generalize eqS a.subs b.subs = x at *
 generalize a.name = an at *
 generalize b.name = bn at *
 generalize a.val = av at *
 generalize b.val = bv at *
 generalize a.kind = ak at *
 generalize b.kind = bk at *
 generalize a.n = ai at *
 generalize b.n = bi at *
 go_enter Tryz.func183, Tryz.ntmps183
 by_cases h0 : ak = bk
 · subst h0
   by_cases h1 : an = bn
   · subst h1
     have HR1 : Hid (R = (x && (decide (av = bv) && decide (ai = bi)))) := by unfold Hid; rw [HR.out]; simp
     go_wp2_with fail
     refine (HK.out _ ((Below.new _ _).later (Below.new _ _))).mono ?_
     rintro e w1 ⟨rfl, z, rfl⟩
     cases x
     · go_wp2_with fail
       go_ret
       exact ⟨ret_bool (by rw [HR1.out]; rfl), below_drewN ((Below.new _ _).later (Below.new _ _)) _⟩
     · by_cases h2 : av = bv
       · subst h2
         by_cases h3 : ai = bi
         · subst h3
           go_wp2_with fail
           go_ret
           exact ⟨ret_bool (by rw [HR1.out]; simp), below_drewN ((Below.new _ _).later (Below.new _ _)) _⟩
         · have hb3 : (ai == bi) = false := beq_eq_false_iff_ne.2 h3
           have HE : Hid (R = false) := by unfold Hid; rw [HR1.out]; simp [h3]
           clear h3
           go_wp2_with fail
           go_ret
           exact ⟨ret_bool HE.out.symm, below_drewN ((Below.new _ _).later (Below.new _ _)) _⟩
       · have hb2 := str_beq h2
         have HE : Hid (R = false) := by unfold Hid; rw [HR1.out]; simp [h2]
         clear h2
         go_wp2_with fail
         go_ret
         exact ⟨ret_bool HE.out.symm, below_drewN ((Below.new _ _).later (Below.new _ _)) _⟩
   · have hb1 := str_beq h1
     have HE : Hid (R = false) := by unfold Hid; rw [HR.out]; simp [h1]
     clear h1
     go_wp2_with fail
     go_ret
     exact ⟨ret_bool HE.out.symm, (Below.new _ _).later (Below.new _ _)⟩
 · have hb0 : (ak == bk) = false := beq_eq_false_iff_ne.2 h0
   have HE : Hid (R = false) := by unfold Hid; rw [HR.out]; simp [h0]
   clear h0
   go_wp2_with fail
   go_ret
   exact ⟨ret_bool HE.out.symm, (Below.new _ _).later (Below.new _ _)⟩
set_option maxRecDepth 100000 in
set_option maxHeartbeats 4000000 in
theorem l25SameEvent_any (c0 c1 c2 c3 c4 d0 d1 d2 d3 d4 : Value) (a b : EvD) (w : World) (h : EvR w w.heap.size c0 c1 c2 c3 c4 a) (h' : EvR w w.heap.size d0 d1 d2 d3 d4 b) (hsa : a.subs.length ≤ 1048576) (hsb : b.subs.length ≤ 1048576) :
 Calls Tryz.prog 100 #[.agg #[c0, c1, c2, c3, c4], .agg #[d0, d1, d2, d3, d4]] w fun e w' => e = .returned (.bool (sameE a b)) ∧ Below w.heap.size w w' := by
 obtain ⟨rfl, rfl, ⟨S, m, q, rfl, hs, hmq⟩, rfl, rfl⟩ := h
 obtain ⟨rfl, rfl, ⟨S', m', q', rfl, hs', hmq'⟩, rfl, rfl⟩ := h'
 have hm : m ≤ 1048576 := by rw [← hs.1]; exact hsa
 have hm' : m' ≤ 1048576 := by rw [← hs'.1]; exact hsb
 have HK := Lib.hid (fun W (hW : Below w.heap.size w W) => l24Texts_any S S' m q m' q' a.subs b.subs W (hs.later hW) (hs'.later hW) hm hm')
 have HR : Hid (sameE a b = (decide (a.kind = b.kind) && (decide (a.name = b.name) && (eqS a.subs b.subs && (decide (a.val = b.val) && decide (a.n = b.n)))))) := rfl
 clear hs hs' hsa hsb
 generalize sameE a b = R at *
 generalize eqS a.subs b.subs = x at *
 generalize a.name = an at *
 generalize b.name = bn at *
 generalize a.val = av at *
 generalize b.val = bv at *
 generalize a.kind = ak at *
 generalize b.kind = bk at *
 generalize a.n = ai at *
 generalize b.n = bi at *
 go_enter Tryz.func100, Tryz.ntmps100
 by_cases h0 : ak = bk
 · subst h0
   by_cases h1 : an = bn
   · subst h1
     have HR1 : Hid (R = (x && (decide (av = bv) && decide (ai = bi)))) := by unfold Hid; rw [HR.out]; simp
     go_wp2_with fail
     refine (HK.out _ ((Below.new _ _).later (Below.new _ _))).mono ?_
     rintro e w1 ⟨rfl, z, rfl⟩
     cases x
     · go_wp2_with fail
       go_ret
       exact ⟨ret_bool (by rw [HR1.out]; rfl), below_drewN ((Below.new _ _).later (Below.new _ _)) _⟩
     · by_cases h2 : av = bv
       · subst h2
         by_cases h3 : ai = bi
         · subst h3
           go_wp2_with fail
           go_ret
           exact ⟨ret_bool (by rw [HR1.out]; simp), below_drewN ((Below.new _ _).later (Below.new _ _)) _⟩
         · have hb3 : (ai == bi) = false := beq_eq_false_iff_ne.2 h3
           have HE : Hid (R = false) := by unfold Hid; rw [HR1.out]; simp [h3]
           clear h3
           go_wp2_with fail
           go_ret
           exact ⟨ret_bool HE.out.symm, below_drewN ((Below.new _ _).later (Below.new _ _)) _⟩
       · have hb2 := str_beq h2
         have HE : Hid (R = false) := by unfold Hid; rw [HR1.out]; simp [h2]
         clear h2
         go_wp2_with fail
         go_ret
         exact ⟨ret_bool HE.out.symm, below_drewN ((Below.new _ _).later (Below.new _ _)) _⟩
   · have hb1 := str_beq h1
     have HE : Hid (R = false) := by unfold Hid; rw [HR.out]; simp [h1]
     clear h1
     go_wp2_with fail
     go_ret
     exact ⟨ret_bool HE.out.symm, (Below.new _ _).later (Below.new _ _)⟩
 · have hb0 : (ak == bk) = false := beq_eq_false_iff_ne.2 h0
   have HE : Hid (R = false) := by unfold Hid; rw [HR.out]; simp [h0]
   clear h0
   go_wp2_with fail
   go_ret
   exact ⟨ret_bool HE.out.symm, (Below.new _ _).later (Below.new _ _)⟩
end Go.Proofs.YtlicffeicmoifaaGreatDoor
