import Derived.Test.YtlicffeicmoifaaGreatDoorZ11
import Derived.Test.YtlicffeicmoifaaGreatDoorZ03
import Derived.Test.YtlicffeicmoifaaGreatDoorZ00
import Derived.Test.YtlicffeicmoifaaGreatDoorZ05
import Derived.Laws.IdiomStrings
import Derived.Lib.BufferWrite
set_option linter.unusedSimpArgs false
namespace Go.Proofs.YtlicffeicmoifaaGreatDoor
open Go.RowKit
set_option linter.unusedVariables false
theorem infoByte : (Tryz.prog.info? 5).map (fun i => (i.zero, i.size, i.bytes)) = some (some (.int .u8 0), 1, 1) := by kernel_rfl
def BytO (w : World) (base : Nat) (v : Value) (l : List UInt8) : Prop := w.ownsRow base 5 1 v l.length (Go.Lib.byteCells l)
theorem BytO.later {w w' : World} {base : Nat} {v : Value} {l : List UInt8} (h : BytO w base v l) (hb : Below w.heap.size w w') : BytO w' base v l := Own.own_later h hb
theorem byt_lit (w : World) (base : Nat) (h : base ≤ w.heap.size) : BytO (w.alloc (.cells #[] 5)) base (.slice (some ⟨w.heap.size, 0, none⟩) 0 0) [] := World.ownsRow_lit (e := 5) (size := 1) w #[] 0 h (by omega) rfl
theorem byt_app {w : World} {base n : Nat} {v : Value} {l : List UInt8} {c : Int} {b : UInt8} (h : w.ownsRow base 5 1 v (n + 1) (Go.Lib.byteCells l ++ [.int .u8 c])) (hn : n = l.length) (hc : c = (b.toNat : Int)) : BytO w base v (l ++ [b]) := by
 subst hn hc
 unfold BytO
 rw [List.length_append, Go.Lib.byteCells_append]
 exact h
theorem byt_two {w : World} {base n : Nat} {v : Value} {l : List UInt8} {c d : Int} {b b' : UInt8} (h : w.ownsRow base 5 1 v (n + 2) (Go.Lib.byteCells l ++ [.int .u8 c, .int .u8 d])) (hn : n = l.length) (hc : c = (b.toNat : Int)) (hd : d = (b'.toNat : Int)) : BytO w base v (l ++ [b, b']) := by
 subst hn hc hd
 unfold BytO
 rw [List.length_append, Go.Lib.byteCells_append]
 exact h
theorem byt_slice {w : World} {base : Nat} {v : Value} {l : List UInt8} (h : BytO w base v l) : ∃ A cap, v = .slice A l.length cap ∧ l.length ≤ cap := by
 obtain ⟨A, cap, e, hc, _⟩ := Own.own_slice h
 exact ⟨A, cap, e, hc⟩
set_option maxRecDepth 100000 in
theorem conv_byt {w : World} {base : Nat} {A : Option Addr} {cap n : Nat} {l : List UInt8} (h : BytO w base (.slice A n cap) l) (hn : n = l.length) (hpos : 0 < n) :
 (convert 22 9 (.slice A n cap)).run Tryz.prog w = .ok (.string ⟨l.toArray⟩) w := by
 subst hn
 obtain ⟨_, _, e, _, _, hA⟩ := Own.own_slice h
 injection e with e1 _ e3
 subst e1 e3
 obtain ⟨g, rfl, _, _⟩ := hA hpos
 refine run_convert_bytes_back (P := Tryz.prog) w 22 9 5 ⟨g, 0, none⟩ cap l Tryz.underlying22 Tryz.underlying5 Tryz.underlying9 (fun j hj => ?_)
 have h2 := Own.own_cell h j (.int .u8 (l[j].toNat : Int)) (by omega) (by unfold Go.Lib.byteCells; rw [List.getElem?_map, List.getElem?_eq_getElem hj]; rfl)
 unfold Addr.add
 split
 · next h0 => subst h0; exact h2
 · rw [Nat.zero_add]; exact h2
theorem be_byte (N k : Nat) (c : Int) (hc : c = (((N / 2 ^ (56 - 8 * k)) % 256 : Nat) : Int)) : c = ((UInt8.ofNat ((N / 2 ^ (56 - 8 * k)) % 256)).toNat : Int) := by
 rw [hc, UInt8.toNat_ofNat']
 have := Nat.mod_lt (N / 2 ^ (56 - 8 * k)) (show 0 < 256 by decide)
 rw [Nat.mod_eq_of_lt (a := N / 2 ^ (56 - 8 * k) % 256) (by simpa using this)]
theorem cell_two_new (w : World) (x y : Value) (t : TypeId) : ∀ j u, [x, y][j]? = some u → (w.alloc (.cells #[x, y] t)).cell? ((⟨w.heap.size, 0, none⟩ : Addr).add j) = some u := by
 intro j u hu
 have h : ∀ i, (w.alloc (.cells #[x, y] t)).cell? ⟨w.heap.size, i, none⟩ = (#[x, y] : Array Value)[i]? := fun i => by simp
 unfold Addr.add
 split
 · next h0 => subst h0; rw [h, ← Array.getElem?_toList]; exact hu
 · rw [Nat.zero_add, h, ← Array.getElem?_toList]; exact hu
theorem byte_at (s : ByteArray) (k : Nat) (h : k < s.size) : s.data.toList.take (k + 1) = s.data.toList.take k ++ [s[k]] := List.take_succ_eq_append_getElem (by rw [Array.length_toList]; exact h)
theorem byte_nz {b : UInt8} (h : b ≠ 0) : ((b.toNat : Int) == (0 : Int)) = false := beq_eq_false_iff_ne.2 (fun e => h (UInt8.toNat_inj.1 (by rw [show (0 : UInt8).toNat = 0 from rfl]; omega)))
set_option maxRecDepth 100000 in
set_option maxHeartbeats 8000000 in
theorem l02Key_any (s : ByteArray) (w : World) (hp : pureS s) (hs : s.size ≤ 1048576) :
 Calls Tryz.prog 261 #[.string s] w fun e w' => e = .returned (.string ⟨(subE s).toArray⟩) ∧ Below w.heap.size w w' := by
 obtain ⟨i0, hi, hz0, hz1, hz2⟩ := info_parts infoByte
 have HK1 := Lib.hid (fun W => l01Canon_any s W hs)
 have HK2 := Lib.hid (fun W => l01Of_any s W hs)
 have HSE : Hid (subE s = if canonB s = true then 1 :: be8 (encN s) else 2 :: (s.data.toList ++ [0, 0])) := rfl
 obtain ⟨hn1, hn2, hn3⟩ := encN_bd s
 have hw0 : wrap64 (numS s.data.toList + 1000000000000000000) = (encN s : Int) := by unfold wrap64; omega
 have hw00 : IntKind.i64.wrap (numS s.data.toList + 1000000000000000000) = (encN s : Int) := by rw [IntKind.wrap_i64]; omega
 have HSZ : Hid (s.data.toList.length = s.size) := by unfold Hid; rw [Array.length_toList]; rfl
 have HP : Hid (∀ k (h : k < s.size), s[k] ≠ 0) := fun k h e => hp (by rw [← e]; exact Array.getElem_mem_toList h)
 clear hn3 hp
 generalize canonB s = cn at *
 generalize encN s = N at *
 generalize numS s.data.toList = M at *
 obtain ⟨W0, hW0⟩ : ∃ W0, W0 = w.alloc (.cells #[] 5) := ⟨_, rfl⟩
 have HU0 : Hid (BytO W0 w.heap.size (.slice (some ⟨w.heap.size, 0, none⟩) 0 0) []) := by subst hW0; exact byt_lit w _ (Nat.le_refl _)
 have HB0 : Hid (Below w.heap.size w W0) := by subst hW0; exact Below.new _ _
 go_enter Tryz.func261, Tryz.ntmps261
 go_wp2_with fail
 rw [← hW0]
 clear hW0
 refine (HK1.out _).mono ?_
 rintro e w1 ⟨rfl, hb1⟩
 have HU1 := Lib.hid (HU0.out.later hb1)
 have HB1 := Lib.hid (HB0.out.later hb1)
 have hsz1 := HB1.out.size
 have HR1 : Hid (∀ o, (w1.alloc o).ownsRow w.heap.size 5 1 (.slice (some ⟨w.heap.size, 0, none⟩) 0 0) 0 (Go.Lib.byteCells [])) := fun o => HU1.out.later (Below.new w1 o)
 clear hb1 HU0 HB0
 cases cn
 · have HS : Hid (subE s = 2 :: (s.data.toList ++ [0, 0])) := by unfold Hid; rw [HSE.out]; rfl
   clear hw0 hw00 HSE
   go_wp2_with (at_builtin; refine wpList_append_own _ rfl (.tmp 30) (.tmp 31) 22 rfl w.heap.size 5 i0 _ 1 1 Tryz.underlying22 hi hz0 hz1 hz2 rfl (by decide) _ 0 _ rfl (HR1.out _) ⟨_, 0, none⟩ 1 1 [.int .u8 2] rfl rfl ?c1 ?c2 ?c3 ?c4 ?c5 ?_)
   case c1 => exact cell_one_new _ _ _
   case c2 => simp [Value.oneCell']
   case c3 => unfold maxLen; omega
   case c4 => omega
   case c5 => simp; omega
   intro v2 w2 hown2 hg2 _
   have HU2 : Hid (BytO w2 w.heap.size v2 ([] ++ [2])) := byt_app hown2 rfl rfl
   have HB2 : Hid (Below w.heap.size w w2) := (HB1.out.later (Below.new _ _)).grown hg2 (by simp; omega) (fun g hg => ((HR1.out (.cells #[] 0)).lt g hg).1)
   clear hown2 hg2
   go_wp2_with fail
   go_loopw [3, 6] (fun v i wr => ∃ k : Nat, k ≤ s.size ∧ i = .int .i64 k ∧ Hid (BytO wr w.heap.size v (2 :: s.data.toList.take k)) ∧ Hid (Below w.heap.size w wr)) (fun _ i _ => s.size - (intOf i).toNat)
   case atStart => exact ⟨0, Nat.zero_le _, rfl, HU2.out, HB2.out⟩
   case round =>
    obtain ⟨k, hk, rfl, HU, HB⟩ := hrel
    have hszr := HB.out.size
    obtain ⟨A, cap, rfl, hcap⟩ := byt_slice HU.out
    have HL : Hid ((2 :: s.data.toList.take k : List UInt8).length = k + 1) := by unfold Hid; rw [List.length_cons, List.length_take, HSZ.out]; omega
    rw [HL.out] at hcap HU ⊢
    by_cases hlt : k < s.size
    · have HT := Lib.hid (byte_at s k hlt)
      have HNZ : Hid (s[k] ≠ 0) := HP.out k hlt
      have HRr : Hid (∀ o, (wr.alloc o).ownsRow w.heap.size 5 1 (.slice A (k + 1) cap) (k + 1) (Go.Lib.byteCells (2 :: s.data.toList.take k))) := fun o => by
       have h := HU.out.later (Below.new wr o)
       unfold BytO at h
       rw [HL.out] at h
       exact h
      have hb0 : ((s[k].toNat : Int) == (0 : Int)) = false := byte_nz HNZ.out
      go_wp2_with (at_builtin; refine wpList_append_own _ rfl (.tmp 39) (.tmp 43) 22 rfl w.heap.size 5 i0 _ 1 1 Tryz.underlying22 hi hz0 hz1 hz2 rfl (by decide) _ (k + 1) _ rfl (HRr.out _) ⟨_, 0, none⟩ 1 1 [.int .u8 s[k].toNat] rfl rfl ?c1 ?c2 ?c3 ?c4 ?c5 ?_)
      case c1 => exact cell_one_new _ _ _
      case c2 => simp [Value.oneCell']
      case c3 => unfold maxLen; omega
      case c4 => omega
      case c5 => simp; omega
      intro v4 w4 hown4 hg4 _
      have HU4 : Hid (BytO w4 w.heap.size v4 (2 :: s.data.toList.take (k + 1))) := by
       unfold Hid
       rw [HT.out]
       exact byt_app hown4 HL.out.symm rfl
      have HB4 : Hid (Below w.heap.size w w4) := (HB.out.later (Below.new _ _)).grown hg4 (by simp; omega) (fun g hg => ((HRr.out (.cells #[] 0)).lt g hg).1)
      clear hown4 hg4
      go_wp2_with fail
      go_roundw
      case rel => exact ⟨k + 1, by omega, by go_num, HU4.out, HB4.out⟩
      case measure => simp [intOf]; omega
    · obtain rfl : k = s.size := by omega
      have HRr : Hid (∀ o, (wr.alloc o).ownsRow w.heap.size 5 1 (.slice A (s.size + 1) cap) (s.size + 1) (Go.Lib.byteCells (2 :: s.data.toList))) := fun o => by
       have h := HU.out.later (Below.new wr o)
       unfold BytO at h
       rw [HL.out, List.take_of_length_le (by rw [HSZ.out]; omega)] at h
       exact h
      go_wp2_with (at_builtin; refine wpList_append_own _ rfl (.tmp 52) (.tmp 53) 22 rfl w.heap.size 5 i0 _ 1 1 Tryz.underlying22 hi hz0 hz1 hz2 rfl (by decide) _ (s.size + 1) _ rfl (HRr.out _) ⟨_, 0, none⟩ 2 2 [.int .u8 0, .int .u8 0] rfl rfl ?c1 ?c2 ?c3 ?c4 ?c5 ?_)
      case c1 => exact cell_two_new _ _ _ _
      case c2 => simp [Value.oneCell']
      case c3 => unfold maxLen; omega
      case c4 => omega
      case c5 => simp; omega
      intro v5 w5 hown5 hg5 _
      have HU5 : Hid (BytO w5 w.heap.size v5 ((2 :: s.data.toList) ++ [0, 0])) := byt_two hown5 (by rw [List.length_cons, HSZ.out]) rfl rfl
      have HB5 : Hid (Below w.heap.size w w5) := (HB.out.later (Below.new _ _)).grown hg5 (by simp; omega) (fun g hg => ((HRr.out (.cells #[] 0)).lt g hg).1)
      obtain ⟨A5, cap5, e5, _⟩ := byt_slice HU5.out
      have HL5 : Hid (((2 :: s.data.toList) ++ [0, 0] : List UInt8).length = s.size + 3) := by unfold Hid; rw [List.length_append, List.length_cons, HSZ.out]; rfl
      rw [HL5.out] at e5
      subst e5
      have hcv := conv_byt HU5.out HL5.out.symm (by omega)
      have HCV := Lib.hid hcv
      clear hown5 hg5
      go_wp2_with fail
      go_ret
      exact ⟨by rw [HS.out]; rfl, HB5.out⟩
 · have HS : Hid (subE s = 1 :: be8 N) := by unfold Hid; rw [HSE.out]; rfl
   clear HSE
   go_wp2_with fail
   refine (HK2.out _).mono ?_
   rintro e w1' ⟨rfl, rfl⟩
   go_wp2_with (at_builtin; refine wpList_append_own _ rfl (.tmp 13) (.tmp 14) 22 rfl w.heap.size 5 i0 _ 1 1 Tryz.underlying22 hi hz0 hz1 hz2 rfl (by decide) _ 0 _ rfl (HR1.out _) ⟨_, 0, none⟩ 1 1 [.int .u8 1] rfl rfl ?c1 ?c2 ?c3 ?c4 ?c5 ?_)
   case c1 => exact cell_one_new _ _ _
   case c2 => simp [Value.oneCell']
   case c3 => unfold maxLen; omega
   case c4 => omega
   case c5 => simp; omega
   intro v2 w2 hown2 hg2 _
   have HU2 : Hid (BytO w2 w.heap.size v2 ([] ++ [1])) := byt_app hown2 rfl rfl
   have HB2 : Hid (Below w.heap.size w w2) := (HB1.out.later (Below.new _ _)).grown hg2 (by simp; omega) (fun g hg => ((HR1.out (.cells #[] 0)).lt g hg).1)
   clear hown2 hg2 HR1 HU1 HB1 hw0 hw00
   go_wp2_with fail
   go_loopw [3, 5] (fun v i wr => ∃ (k : Nat) (z : Int), k ≤ 8 ∧ z = 7 - (k : Int) ∧ i = .int .i64 z ∧ Hid (BytO wr w.heap.size v (1 :: (be8 N).take k)) ∧ Hid (Below w.heap.size w wr)) (fun _ i _ => (intOf i + 1).toNat)
   case atStart => exact ⟨0, 7, by omega, by omega, rfl, HU2.out, HB2.out⟩
   case round =>
    obtain ⟨k, z, hk, hz, rfl, HU, HB⟩ := hrel
    have hszr := HB.out.size
    obtain ⟨A, cap, rfl, hcap⟩ := byt_slice HU.out
    have HL : Hid ((1 :: (be8 N).take k : List UInt8).length = k + 1) := by unfold Hid; rw [List.length_cons, List.length_take, be8_len]; omega
    rw [HL.out] at hcap HU ⊢
    by_cases hlt : k < 8
    · have HT := Lib.hid (be_step N k hlt)
      have HBY := Lib.hid (fun c hc => be_byte N k c hc)
      have HRr : Hid (∀ o, (wr.alloc o).ownsRow w.heap.size 5 1 (.slice A (k + 1) cap) (k + 1) (Go.Lib.byteCells (1 :: (be8 N).take k))) := fun o => by
       have h := HU.out.later (Below.new wr o)
       unfold BytO at h
       rw [HL.out] at h
       exact h
      clear HU2 HB2
      generalize hm : k + 1 = m at *
      have hm9 : m ≤ 9 := by omega
      have HM := Lib.hid hm
      generalize hT : (be8 N).take k = T at *
      generalize hT2 : (be8 N).take m = T2 at *
      have HTT := Lib.hid hT2
      clear hm hT hT2
      have hcs : k = 0 ∨ k = 1 ∨ k = 2 ∨ k = 3 ∨ k = 4 ∨ k = 5 ∨ k = 6 ∨ k = 7 := by omega
      rcases hcs with rfl | rfl | rfl | rfl | rfl | rfl | rfl | rfl
      · simp at hz
        subst hz
        go_wp2_with (at_builtin; refine wpList_append_own _ rfl (.tmp 20) (.tmp 26) 22 rfl w.heap.size 5 i0 _ 1 1 Tryz.underlying22 hi hz0 hz1 hz2 rfl (by decide) _ m _ rfl (HRr.out _) ⟨_, 0, none⟩ 1 1 [.int .u8 (↑N / 72057594037927936)] rfl rfl ?d01 ?d02 ?d03 ?d04 ?d05 ?_)
        case d01 => exact cell_one_new _ _ _
        case d02 => simp [Value.oneCell']
        case d03 => unfold maxLen; omega
        case d04 => omega
        case d05 => simp; omega
        intro v4 w4 hown4 hg4 _
        have HU4 := Lib.hid (byt_app hown4 HL.out.symm (HBY.out _ (by simp only [Nat.reduceMul, Nat.reduceSub, Nat.reducePow]; omega)))
        rw [List.cons_append, ← HT.out] at HU4
        have hm2 := HM.out
        have HB4 : Hid (Below w.heap.size w w4) := (HB.out.later (Below.new _ _)).grown hg4 (by simp; omega) (fun g hg => ((HRr.out (.cells #[] 0)).lt g hg).1)
        clear hown4 hg4
        go_wp2_with fail
        go_roundw
        case rel => exact ⟨m, _, by omega, rfl, by go_num, by rw [HTT.out]; exact HU4.out, HB4.out⟩
        case measure => simp [intOf]
      · simp at hz
        subst hz
        go_wp2_with (at_builtin; refine wpList_append_own _ rfl (.tmp 20) (.tmp 26) 22 rfl w.heap.size 5 i0 _ 1 1 Tryz.underlying22 hi hz0 hz1 hz2 rfl (by decide) _ m _ rfl (HRr.out _) ⟨_, 0, none⟩ 1 1 [.int .u8 (↑N / 281474976710656 % 256)] rfl rfl ?d11 ?d12 ?d13 ?d14 ?d15 ?_)
        case d11 => exact cell_one_new _ _ _
        case d12 => simp [Value.oneCell']
        case d13 => unfold maxLen; omega
        case d14 => omega
        case d15 => simp; omega
        intro v4 w4 hown4 hg4 _
        have HU4 := Lib.hid (byt_app hown4 HL.out.symm (HBY.out _ (by simp only [Nat.reduceMul, Nat.reduceSub, Nat.reducePow]; omega)))
        rw [List.cons_append, ← HT.out] at HU4
        have hm2 := HM.out
        have HB4 : Hid (Below w.heap.size w w4) := (HB.out.later (Below.new _ _)).grown hg4 (by simp; omega) (fun g hg => ((HRr.out (.cells #[] 0)).lt g hg).1)
        clear hown4 hg4
        go_wp2_with fail
        go_roundw
        case rel => exact ⟨m, _, by omega, rfl, by go_num, by rw [HTT.out]; exact HU4.out, HB4.out⟩
        case measure => simp [intOf]
      · simp at hz
        subst hz
        go_wp2_with (at_builtin; refine wpList_append_own _ rfl (.tmp 20) (.tmp 26) 22 rfl w.heap.size 5 i0 _ 1 1 Tryz.underlying22 hi hz0 hz1 hz2 rfl (by decide) _ m _ rfl (HRr.out _) ⟨_, 0, none⟩ 1 1 [.int .u8 (↑N / 1099511627776 % 256)] rfl rfl ?d21 ?d22 ?d23 ?d24 ?d25 ?_)
        case d21 => exact cell_one_new _ _ _
        case d22 => simp [Value.oneCell']
        case d23 => unfold maxLen; omega
        case d24 => omega
        case d25 => simp; omega
        intro v4 w4 hown4 hg4 _
        have HU4 := Lib.hid (byt_app hown4 HL.out.symm (HBY.out _ (by simp only [Nat.reduceMul, Nat.reduceSub, Nat.reducePow]; omega)))
        rw [List.cons_append, ← HT.out] at HU4
        have hm2 := HM.out
        have HB4 : Hid (Below w.heap.size w w4) := (HB.out.later (Below.new _ _)).grown hg4 (by simp; omega) (fun g hg => ((HRr.out (.cells #[] 0)).lt g hg).1)
        clear hown4 hg4
        go_wp2_with fail
        go_roundw
        case rel => exact ⟨m, _, by omega, rfl, by go_num, by rw [HTT.out]; exact HU4.out, HB4.out⟩
        case measure => simp [intOf]
      · simp at hz
        subst hz
        go_wp2_with (at_builtin; refine wpList_append_own _ rfl (.tmp 20) (.tmp 26) 22 rfl w.heap.size 5 i0 _ 1 1 Tryz.underlying22 hi hz0 hz1 hz2 rfl (by decide) _ m _ rfl (HRr.out _) ⟨_, 0, none⟩ 1 1 [.int .u8 (↑N / 4294967296 % 256)] rfl rfl ?d31 ?d32 ?d33 ?d34 ?d35 ?_)
        case d31 => exact cell_one_new _ _ _
        case d32 => simp [Value.oneCell']
        case d33 => unfold maxLen; omega
        case d34 => omega
        case d35 => simp; omega
        intro v4 w4 hown4 hg4 _
        have HU4 := Lib.hid (byt_app hown4 HL.out.symm (HBY.out _ (by simp only [Nat.reduceMul, Nat.reduceSub, Nat.reducePow]; omega)))
        rw [List.cons_append, ← HT.out] at HU4
        have hm2 := HM.out
        have HB4 : Hid (Below w.heap.size w w4) := (HB.out.later (Below.new _ _)).grown hg4 (by simp; omega) (fun g hg => ((HRr.out (.cells #[] 0)).lt g hg).1)
        clear hown4 hg4
        go_wp2_with fail
        go_roundw
        case rel => exact ⟨m, _, by omega, rfl, by go_num, by rw [HTT.out]; exact HU4.out, HB4.out⟩
        case measure => simp [intOf]
      · simp at hz
        subst hz
        go_wp2_with (at_builtin; refine wpList_append_own _ rfl (.tmp 20) (.tmp 26) 22 rfl w.heap.size 5 i0 _ 1 1 Tryz.underlying22 hi hz0 hz1 hz2 rfl (by decide) _ m _ rfl (HRr.out _) ⟨_, 0, none⟩ 1 1 [.int .u8 (↑N / 16777216 % 256)] rfl rfl ?d41 ?d42 ?d43 ?d44 ?d45 ?_)
        case d41 => exact cell_one_new _ _ _
        case d42 => simp [Value.oneCell']
        case d43 => unfold maxLen; omega
        case d44 => omega
        case d45 => simp; omega
        intro v4 w4 hown4 hg4 _
        have HU4 := Lib.hid (byt_app hown4 HL.out.symm (HBY.out _ (by simp only [Nat.reduceMul, Nat.reduceSub, Nat.reducePow]; omega)))
        rw [List.cons_append, ← HT.out] at HU4
        have hm2 := HM.out
        have HB4 : Hid (Below w.heap.size w w4) := (HB.out.later (Below.new _ _)).grown hg4 (by simp; omega) (fun g hg => ((HRr.out (.cells #[] 0)).lt g hg).1)
        clear hown4 hg4
        go_wp2_with fail
        go_roundw
        case rel => exact ⟨m, _, by omega, rfl, by go_num, by rw [HTT.out]; exact HU4.out, HB4.out⟩
        case measure => simp [intOf]
      · simp at hz
        subst hz
        go_wp2_with (at_builtin; refine wpList_append_own _ rfl (.tmp 20) (.tmp 26) 22 rfl w.heap.size 5 i0 _ 1 1 Tryz.underlying22 hi hz0 hz1 hz2 rfl (by decide) _ m _ rfl (HRr.out _) ⟨_, 0, none⟩ 1 1 [.int .u8 (↑N / 65536 % 256)] rfl rfl ?d51 ?d52 ?d53 ?d54 ?d55 ?_)
        case d51 => exact cell_one_new _ _ _
        case d52 => simp [Value.oneCell']
        case d53 => unfold maxLen; omega
        case d54 => omega
        case d55 => simp; omega
        intro v4 w4 hown4 hg4 _
        have HU4 := Lib.hid (byt_app hown4 HL.out.symm (HBY.out _ (by simp only [Nat.reduceMul, Nat.reduceSub, Nat.reducePow]; omega)))
        rw [List.cons_append, ← HT.out] at HU4
        have hm2 := HM.out
        have HB4 : Hid (Below w.heap.size w w4) := (HB.out.later (Below.new _ _)).grown hg4 (by simp; omega) (fun g hg => ((HRr.out (.cells #[] 0)).lt g hg).1)
        clear hown4 hg4
        go_wp2_with fail
        go_roundw
        case rel => exact ⟨m, _, by omega, rfl, by go_num, by rw [HTT.out]; exact HU4.out, HB4.out⟩
        case measure => simp [intOf]
      · simp at hz
        subst hz
        go_wp2_with (at_builtin; refine wpList_append_own _ rfl (.tmp 20) (.tmp 26) 22 rfl w.heap.size 5 i0 _ 1 1 Tryz.underlying22 hi hz0 hz1 hz2 rfl (by decide) _ m _ rfl (HRr.out _) ⟨_, 0, none⟩ 1 1 [.int .u8 (↑N / 256 % 256)] rfl rfl ?d61 ?d62 ?d63 ?d64 ?d65 ?_)
        case d61 => exact cell_one_new _ _ _
        case d62 => simp [Value.oneCell']
        case d63 => unfold maxLen; omega
        case d64 => omega
        case d65 => simp; omega
        intro v4 w4 hown4 hg4 _
        have HU4 := Lib.hid (byt_app hown4 HL.out.symm (HBY.out _ (by simp only [Nat.reduceMul, Nat.reduceSub, Nat.reducePow]; omega)))
        rw [List.cons_append, ← HT.out] at HU4
        have hm2 := HM.out
        have HB4 : Hid (Below w.heap.size w w4) := (HB.out.later (Below.new _ _)).grown hg4 (by simp; omega) (fun g hg => ((HRr.out (.cells #[] 0)).lt g hg).1)
        clear hown4 hg4
        go_wp2_with fail
        go_roundw
        case rel => exact ⟨m, _, by omega, rfl, by go_num, by rw [HTT.out]; exact HU4.out, HB4.out⟩
        case measure => simp [intOf]
      · simp at hz
        subst hz
        go_wp2_with (at_builtin; refine wpList_append_own _ rfl (.tmp 20) (.tmp 26) 22 rfl w.heap.size 5 i0 _ 1 1 Tryz.underlying22 hi hz0 hz1 hz2 rfl (by decide) _ m _ rfl (HRr.out _) ⟨_, 0, none⟩ 1 1 [.int .u8 (↑N % 256)] rfl rfl ?d71 ?d72 ?d73 ?d74 ?d75 ?_)
        case d71 => exact cell_one_new _ _ _
        case d72 => simp [Value.oneCell']
        case d73 => unfold maxLen; omega
        case d74 => omega
        case d75 => simp; omega
        intro v4 w4 hown4 hg4 _
        have HU4 := Lib.hid (byt_app hown4 HL.out.symm (HBY.out _ (by simp only [Nat.reduceMul, Nat.reduceSub, Nat.reducePow]; omega)))
        rw [List.cons_append, ← HT.out] at HU4
        have hm2 := HM.out
        have HB4 : Hid (Below w.heap.size w w4) := (HB.out.later (Below.new _ _)).grown hg4 (by simp; omega) (fun g hg => ((HRr.out (.cells #[] 0)).lt g hg).1)
        clear hown4 hg4
        go_wp2_with fail
        go_roundw
        case rel => exact ⟨m, _, by omega, rfl, by go_num, by rw [HTT.out]; exact HU4.out, HB4.out⟩
        case measure => simp [intOf]
    · obtain rfl : k = 8 := by omega
      have hcv := conv_byt (n := 9) HU.out HL.out.symm (by omega)
      simp at hz
      subst hz
      go_wp2_with fail
      go_ret
      refine ⟨?_, HB.out⟩
      rw [HS.out]
      rfl
theorem flat_step (ss : List ByteArray) (k : Nat) (h : k < ss.length) : (ss.take (k + 1)).flatMap subE = (ss.take k).flatMap subE ++ subE (ss.getD k ByteArray.empty) := by
 rw [List.take_succ_eq_append_getElem h, List.flatMap_append, List.flatMap_cons, List.flatMap_nil, List.append_nil, List.getD_eq_getElem?_getD, List.getElem?_eq_getElem h]
 rfl
theorem subE_len (s : ByteArray) : (subE s).length ≤ s.size + 9 := by
 have hl : s.data.toList.length = s.size := by rw [Array.length_toList]; rfl
 unfold subE
 split
 · rw [List.length_cons, be8_len]; omega
 · rw [List.length_cons, List.length_append, hl]; simp
theorem flat_bd (ss : List ByteArray) (h : ∀ s ∈ ss, s.size ≤ 1048576) : ∀ k, k ≤ ss.length → ((ss.take k).flatMap subE).length ≤ k * 1048585 := by
 intro k
 induction k with
 | zero => intro _; simp
 | succ k ih =>
   intro hk
   have h1 := ih (by omega)
   have h2 := subE_len (ss.getD k ByteArray.empty)
   have h3 := h _ (Own.mem_of_getD ss k ByteArray.empty (by omega))
   rw [flat_step ss k (by omega), List.length_append]
   omega
theorem putE_size (ss : List ByteArray) : (putE ss).size = (ss.flatMap subE).length := by
 show (ss.flatMap subE).toArray.size = _
 simp
theorem bytes_cat (a b : List UInt8) : (⟨a.toArray⟩ : ByteArray) ++ ⟨b.toArray⟩ = ⟨(a ++ b).toArray⟩ := by
 apply bytes_ext
 rw [toList_data, toList_data, ByteArray.data_append]
 simp
set_option maxRecDepth 100000 in
set_option maxHeartbeats 2000000 in
theorem l02Put_any (A : Option Addr) (n c : Nat) (ss : List ByteArray) (w : World) (h : Strs w w.heap.size A n ss) (hn : n ≤ 1048576) (hz : ∀ s ∈ ss, s.size ≤ 1048576) (hp : ∀ s ∈ ss, pureS s) :
 Calls Tryz.prog 206 #[.slice A n c] w fun e w' => e = .returned (.string (putE ss)) ∧ Below w.heap.size w w' := by
 have Hh := Lib.hid h
 have HLn : Hid (ss.length = n) := h.1
 have HK := Lib.hid (fun s (hs : s ∈ ss) W => l02Key_any s W (hp s hs) (hz s hs))
 have HBD := Lib.hid (flat_bd ss hz)
 have HZ : Hid (∀ k, k < ss.length → (ss.getD k ByteArray.empty).size ≤ 1048576) := fun k hk => hz _ (Own.mem_of_getD ss k _ hk)
 clear h hz hp
 go_enter Tryz.func206, Tryz.ntmps206
 go_wp2_with fail
 go_loopw [3, 4] (fun v i wr => ∃ k : Nat, k ≤ n ∧ i = .int .i64 k ∧ v = .string (putE (ss.take k)) ∧ Hid (Below w.heap.size w wr)) (fun _ i _ => n - (intOf i).toNat)
 case atStart => exact ⟨0, Nat.zero_le _, rfl, rfl, Below.refl _ _⟩
 case round =>
  obtain ⟨k, hk, rfl, rfl, HB⟩ := hrel
  by_cases hlt : k < n
  · have hl : k < ss.length := by rw [HLn.out]; exact hlt
    have HE : Hid (putE (ss.take (k + 1)) = putE (ss.take k) ++ ⟨(subE (ss.getD k ByteArray.empty)).toArray⟩) := by
     unfold Hid putE
     rw [flat_step ss k hl, bytes_cat]
    obtain ⟨b, o, rfl, hbB, hc⟩ := (Hh.out.later HB.out).2 (by omega)
    have k0 := hc k hlt
    have HKs := Lib.hid (HK.out (ss.getD k ByteArray.empty) (Own.mem_of_getD ss k _ hl))
    clear hc
    have hsz1 : (putE (ss.take k)).size ≤ 1099532676352 := by rw [putE_size]; have := HBD.out k (by omega); omega
    have hsz2 : (⟨(subE (ss.getD k ByteArray.empty)).toArray⟩ : ByteArray).size ≤ 2097152 := by
     show (subE (ss.getD k ByteArray.empty)).toArray.size ≤ _
     have h1 := HBD.out (k + 1) (by omega)
     have h2 := HBD.out k (by omega)
     have h3 := subE_len (ss.getD k ByteArray.empty)
     have h4 := HZ.out k hl
     rw [List.size_toArray]
     omega
    generalize hsk : (⟨(subE (ss.getD k ByteArray.empty)).toArray⟩ : ByteArray) = sk at *
    generalize ss.getD k ByteArray.empty = s at *
    generalize putE (ss.take k) = a at *
    go_wp2_with fail
    refine (HKs.out _).mono ?_
    rintro e w1 ⟨rfl, hb1⟩
    have HB1 := Lib.hid (HB.out.later hb1)
    clear hb1
    go_wp2_with fail
    go_roundw
    case rel => exact ⟨k + 1, by omega, by go_num, by rw [HE.out], HB1.out⟩
    case measure => simp [intOf]; omega
  · obtain rfl : k = n := by omega
    have HE : Hid (ss.take k = ss) := List.take_of_length_le (by rw [HLn.out]; omega)
    go_wp2_with fail
    go_ret
    refine ⟨?_, HB.out⟩
    rw [HE.out]
    rfl
set_option maxHeartbeats 1000000 in
theorem specPutSubs_any (A : Option Addr) (n c : Nat) (ss : List ByteArray) (w : World) (h : Strs w w.heap.size A n ss) (hn : n ≤ 1048576) (hz : ∀ s ∈ ss, s.size ≤ 1048576) (hp : ∀ s ∈ ss, pureS s) (hok : subsB ss = true) :
 Calls Tryz.prog 192 #[.slice A n c] w fun e w' => e = .returned (.string (putE ss)) ∧ Below w.heap.size w w' := by
 have HK1 := Lib.hid (l02Subs_any A n c ss w h hn hz)
 have HK2 := Lib.hid (l02Put_any A n c ss w h hn hz hp)
 rw [hok] at HK1
 clear h hz hp hok
 generalize putE ss = R at *
 go_enter Tryz.func192, Tryz.ntmps192
 go_wp2_with fail
 refine HK1.out.mono ?_
 rintro e w1 ⟨rfl, rfl⟩
 go_wp2_with fail
 refine HK2.out.mono ?_
 rintro e w2 ⟨rfl, hb2⟩
 have HB := Lib.hid hb2
 clear hb2
 go_wp2_with fail
 go_ret
 exact ⟨rfl, HB.out⟩
end Go.Proofs.YtlicffeicmoifaaGreatDoor
