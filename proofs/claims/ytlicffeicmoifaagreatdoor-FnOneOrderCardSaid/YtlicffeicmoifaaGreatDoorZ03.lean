import Derived.Test.YtlicffeicmoifaaGreatDoorZ02
import Derived.Deep.RegionWith
import Derived.IntWalk
import Derived.Lib.ItoaNum
import Derived.Lib.SlTrimSet
set_option linter.unusedSimpArgs false
namespace Go.Proofs.YtlicffeicmoifaaGreatDoor
open Go.RowKit
def decL (n : Nat) : List UInt8 := if n = 0 then [] else Lib.decDigits n
theorem decL_step (n : Nat) (h : n ≠ 0) : decL n = decL (n / 10) ++ [UInt8.ofNat (48 + n % 10)] := by
 unfold decL
 rw [if_neg h]
 by_cases h10 : n < 10
 · rw [Lib.decDigits_one h10, if_pos (by omega)]
   simp [Nat.mod_eq_of_lt h10]
 · rw [Lib.decDigits, dif_neg h10, if_neg (by omega)]
theorem decL_len : ∀ (f n : Nat), n < 10 ^ f → (decL n).length ≤ f
 | 0, n, h => by
   obtain rfl : n = 0 := by simpa using h
   simp [decL]
 | f + 1, n, h => by
   by_cases h0 : n = 0
   · subst h0; simp [decL]
   · rw [decL_step n h0, List.length_append]
     have := decL_len f (n / 10) (by rw [Nat.pow_succ] at h; omega)
     simp
     omega
theorem conv_cell {P : Program} (src dst e : TypeId) (hs : P.underlying src = some (.slice e)) (he : P.underlying e = some (.int .u8)) (hd : P.underlying dst = some .string) (W : World) (b n : Nat) (hn : n < 256)
 (hc : W.cell? ⟨b, 0, none⟩ = some (.int .u8 (n : Int))) : (convert src dst (.slice (some ⟨b, 0, none⟩) 1 1)).run P W = .ok (.string ⟨#[UInt8.ofNat n]⟩) W := by
 have := run_convert_bytes_back (P := P) W src dst e ⟨b, 0, none⟩ 1 [UInt8.ofNat n] hs he hd (fun j hj => by
  obtain rfl : j = 0 := by simpa using hj
  simp only [Addr.add, if_pos]
  rw [hc]
  simp [Nat.mod_eq_of_lt hn])
 simpa using this
theorem cellA (w : World) (v : Value) (t : TypeId) : ((w.alloc (.cells #[v] t)).drew).cell? ⟨w.heap.size, 0, none⟩ = some v := by
 have h := cell_of_row (w.alloc (.cells #[v] t)) w.heap.size 0 #[v] t (0, 0) (heap_alloc_new w _)
 exact h
theorem pow18 : (10 : Nat) ^ 18 = 1000000000000000000 := by decide +kernel
theorem ret_stn {a b : ByteArray} (h : a = b) : Ending.returned (.string a) = .returned (.string b) := by rw [h]
set_option maxHeartbeats 1000000 in
theorem l01Whole_any : ∀ (f n : Nat) (w : World), n < 10 ^ f → f ≤ 18 →
 Calls Tryz.prog 306 #[.int .i64 n] w fun e w' => e = .returned (.string ⟨(decL n).toArray⟩) ∧ Below w.heap.size w w'
 | 0, n, w, h, _ => by
   obtain rfl : n = 0 := by simpa using h
   have HE : Hid ((⟨#[]⟩ : ByteArray) = ⟨(decL 0).toArray⟩) := rfl
   go_enter Tryz.func306, Tryz.ntmps306
   go_wp2_with fail
   go_ret
   exact ⟨ret_stn HE.out, Below.refl _ _⟩
 | f + 1, n, w, h, hf => by
   by_cases h0 : n = 0
   · subst h0
     have HE : Hid ((⟨#[]⟩ : ByteArray) = ⟨(decL 0).toArray⟩) := rfl
     go_enter Tryz.func306, Tryz.ntmps306
     go_wp2_with fail
     go_ret
     exact ⟨ret_stn HE.out, Below.refl _ _⟩
   · have hlt : n / 10 < 10 ^ f := by rw [Nat.pow_succ] at h; omega
     have HIH := Lib.hid (fun W => l01Whole_any f (n / 10) W hlt (by omega))
     have hb18 : n < 10 ^ 18 := Nat.lt_of_lt_of_le h (Nat.pow_le_pow_right (by omega) (by omega))
     have hb : ((n : Int) == 0) = false := by rw [beq_eq_false_iff_ne]; omega
     have hl := decL_len f (n / 10) hlt
     have HE : Hid ((⟨(decL (n / 10)).toArray⟩ : ByteArray) ++ ⟨#[UInt8.ofNat (48 + n % 10)]⟩ = ⟨(decL n).toArray⟩) := by
      unfold Hid
      rw [decL_step n h0]
      apply ByteArray.ext
      simp
     have hcv := fun W b hc => conv_cell (P := Tryz.prog) 22 9 5 Tryz.underlying22 Tryz.underlying5 Tryz.underlying9 W b (48 + n % 10) (by omega) hc
     rw [show ((48 + n % 10 : Nat) : Int) = 48 + (n : Int) % 10 from by omega] at hcv
     rw [pow18] at hb18
     have hn18 := hb18
     clear h hlt hb18 h0
     have hc10 : ((n / 10 : Nat) : Int) = (n : Int) / 10 := by omega
     rw [hc10] at HIH
     clear hc10
     generalize decL (n / 10) = l at *
     generalize UInt8.ofNat (48 + n % 10) = dg at *
     go_enter Tryz.func306, Tryz.ntmps306
     go_wp2_with fail
     have hw1 : IntKind.i64.wrap ((n : Int) / 10) = (n : Int) / 10 := IntWalk.i64_in _ (by omega)
     have hw2 : ((n : Int)).tmod 10 = (n : Int) % 10 := Int.tmod_eq_emod_of_nonneg (by omega)
     have hw3 : IntKind.i64.wrap (48 + (n : Int) % 10) = 48 + (n : Int) % 10 := IntWalk.i64_in _ (by omega)
     have hw4 : IntKind.u8.wrap (48 + (n : Int) % 10) = 48 + (n : Int) % 10 := by simp [IntKind.wrap, IntKind.signed, IntKind.bits]; omega
     go_region_with (go_at_call 306; refine (HIH.out _).mono ?_; rintro e w1 ⟨rfl, hb1⟩; (first | (with_reducible have hk1 := cell_later hb1 (cellA w _ _)) | skip))
     all_goals
      have HB := Lib.hid hb1
      clear hb1
      go_wp2_with fail
      go_ret
      first
        | exact ⟨ret_stn HE.out, undrew HB.out⟩
        | exact ⟨ret_stn HE.out, (undrew HB.out).later (Below.new _ _)⟩
        | exact ⟨ret_stn HE.out, (Below.new _ _).later (undrew HB.out)⟩
end Go.Proofs.YtlicffeicmoifaaGreatDoor
namespace Go.Proofs.YtlicffeicmoifaaGreatDoor
open Go.RowKit
def trimZ (l : List UInt8) : List UInt8 := Lib.trimRightS l [48]
def fracT (rest : Nat) : List UInt8 := if rest = 0 then [] else 46 :: trimZ ((decL (1000000 + rest)).drop 1)
def absText (n : Nat) : List UInt8 := if n = 0 then [48] else decL (n / 1000000) ++ fracT (n % 1000000)
def numText (n : Int) : List UInt8 := if n < 0 then 45 :: absText n.natAbs else absText n.toNat
theorem trimZ_zero (l : List UInt8) : trimZ (l ++ [48]) = trimZ l := by
 unfold trimZ Lib.trimRightS
 rw [List.reverse_append]
 simp
theorem trimZ_stop (l : List UInt8) (c : UInt8) (h : c ≠ 48) : trimZ (l ++ [c]) = l ++ [c] := by
 unfold trimZ Lib.trimRightS
 rw [List.reverse_append]
 have : ([48] : List UInt8).contains c = false := by simpa using h
 simp [h]
theorem dropWhile_nil {p : UInt8 → Bool} : ∀ (l : List UInt8), l.dropWhile p = [] → ∀ c ∈ l, p c = true
 | [], _, c, h => by cases h
 | x :: r, h, c, hc => by
   by_cases hx : p x = true
   · rw [List.dropWhile_cons_of_pos hx] at h
     rcases List.mem_cons.1 hc with rfl | hc
     · exact hx
     · exact dropWhile_nil r h c hc
   · rw [List.dropWhile_cons_of_neg hx] at h; cases h
theorem trimZ_nil (l : List UInt8) (h : trimZ l = []) : ∀ c ∈ l, c = 48 := by
 intro c hc
 have h1 : l.reverse.dropWhile (([48] : List UInt8).contains ·) = [] := by
  have := congrArg List.reverse h
  simpa [trimZ, Lib.trimRightS] using this
 have := dropWhile_nil _ h1 c (by simpa using hc)
 simpa using this
theorem trimZ_len (l : List UInt8) : (trimZ l).length ≤ l.length := by
 unfold trimZ Lib.trimRightS
 rw [List.length_reverse]
 have := (List.dropWhile_sublist (p := (([48] : List UInt8).contains ·)) (l := l.reverse)).length_le
 simpa using this
theorem dV_of (n : Nat) (h : n < 10) : dV (UInt8.ofNat (48 + n)) = n := by
 unfold dV
 rw [UInt8.toNat_ofNat', Nat.mod_eq_of_lt (by omega)]
 omega
theorem valN_append (a b : List UInt8) (n : Nat) : valN (a ++ b) n = valN b (valN a n) := by
 unfold valN
 rw [List.foldl_append]
theorem valN_decL : ∀ (f n : Nat), n < 10 ^ f → valN (decL n) 0 = n
 | 0, n, h => by
   obtain rfl : n = 0 := by simpa using h
   rfl
 | f + 1, n, h => by
   by_cases h0 : n = 0
   · subst h0; rfl
   · rw [decL_step n h0, valN_append, valN_decL f (n / 10) (by rw [Nat.pow_succ] at h; omega)]
     show 10 * (n / 10) + dV (UInt8.ofNat (48 + n % 10)) = n
     rw [dV_of _ (by omega)]
     omega
theorem all48 : ∀ (l : List UInt8), (∀ c ∈ l, c = 48) → l = List.replicate l.length 48
 | [], _ => rfl
 | x :: r, h => by
   rw [h x List.mem_cons_self, List.length_cons, List.replicate_succ, ← all48 r (fun c hc => h c (List.mem_cons_of_mem _ hc))]
theorem decL_digit : ∀ (f n : Nat), n < 10 ^ f → ∀ c ∈ decL n, dV c ≤ 9
 | 0, n, h, c, hc => by
   obtain rfl : n = 0 := by simpa using h
   simp [decL] at hc
 | f + 1, n, h, c, hc => by
   by_cases h0 : n = 0
   · subst h0; simp [decL] at hc
   · rw [decL_step n h0] at hc
     rcases List.mem_append.1 hc with h1 | h1
     · exact decL_digit f (n / 10) (by rw [Nat.pow_succ] at h; omega) c h1
     · rw [List.mem_singleton.1 h1, dV_of _ (by omega)]; omega
theorem pow7 : (10 : Nat) ^ 7 = 10000000 := by decide
theorem frac_ne (rest : Nat) (h0 : 0 < rest) (h1 : rest < 1000000) : trimZ ((decL (1000000 + rest)).drop 1) ≠ [] := by
 intro h
 have hall := trimZ_nil _ h
 have hlt : 1000000 + rest < 10 ^ 7 := by rw [pow7]; omega
 have hl := decL_len 7 _ hlt
 have hv := valN_decL 7 _ hlt
 have hd := decL_digit 7 _ hlt
 cases hL : decL (1000000 + rest) with
 | nil => rw [hL] at hv; simp [valN] at hv; omega
 | cons d r =>
   rw [hL] at hall hv hl hd
   have hr := all48 r hall
   have hd9 := hd d List.mem_cons_self
   rw [show d :: r = [d] ++ r from rfl, valN_append, hr, valN_zeros] at hv
   have hv1 : valN [d] 0 = dV d := by simp [valN]
   rw [hv1] at hv
   simp only [List.length_cons] at hl
   have hk : r.length ≤ 6 := by omega
   by_cases h6 : r.length = 6
   · rw [h6] at hv
     have : (10 : Nat) ^ 6 = 1000000 := by decide
     rw [this] at hv
     omega
   · have h5 : (10 : Nat) ^ r.length ≤ 10 ^ 5 := Nat.pow_le_pow_right (by omega) (by omega)
     have h6 : (10 : Nat) ^ 5 = 100000 := by decide
     have : dV d * 10 ^ r.length ≤ 9 * 100000 := Nat.le_trans (Nat.mul_le_mul_left _ h5) (by rw [h6]; exact Nat.mul_le_mul_right _ hd9)
     omega
end Go.Proofs.YtlicffeicmoifaaGreatDoor
namespace Go.Proofs.YtlicffeicmoifaaGreatDoor
open Go.RowKit
theorem bytes_snoc (t : ByteArray) (h : 0 < t.size) : t.data.toList = (t.extract 0 (t.size - 1)).data.toList ++ [t[t.size - 1]] := by
 rw [Lib.extract_data]
 simp only [List.drop_zero, Nat.sub_zero]
 have hl : t.size - 1 < t.data.toList.length := by rw [← Lib.size_eq]; omega
 have := List.take_succ_eq_append_getElem hl
 rw [show t.size - 1 + 1 = t.data.toList.length from by rw [← Lib.size_eq]; omega, List.take_length] at this
 exact this
theorem size_ext (t : ByteArray) : (t.extract 0 (t.size - 1)).size = t.size - 1 := by rw [ByteArray.size_extract]; omega
theorem byte48 {b : UInt8} : ((b.toNat : Int) == 48) = true ↔ b = 48 := by
 rw [beq_iff_eq]
 constructor
 · intro h
   apply UInt8.toNat_inj.1
   show b.toNat = 48
   omega
 · rintro rfl; rfl
def strLen (v : Value) : Nat := match v with | .string t => t.size | _ => 0
theorem pow12 : (10 : Nat) ^ 12 = 1000000000000 := by decide +kernel
theorem absText_len (n : Nat) (h : n ≤ 999999999999999999) : (absText n).length ≤ 20 := by
 unfold absText
 split
 · simp
 · have h1 := decL_len 12 (n / 1000000) (by rw [pow12]; omega)
   rw [List.length_append]
   unfold fracT
   split
   · simp; omega
   · have h2 := decL_len 7 (1000000 + n % 1000000) (by rw [pow7]; omega)
     have h3 := trimZ_len ((decL (1000000 + n % 1000000)).drop 1)
     rw [List.length_drop] at h3
     simp only [List.length_cons]
     omega
set_option maxHeartbeats 2000000 in
theorem l01Text_pos (n : Nat) (w : World) (hn : n ≤ 999999999999999999) :
 Calls Tryz.prog 260 #[.int .i64 n] w fun e w' => e = .returned (.string ⟨(absText n).toArray⟩) ∧ Below w.heap.size w w' := by
 have hW : n / 1000000 < 10 ^ 12 := by rw [pow12]; omega
 have HK1 : Hid (∀ W, Calls Tryz.prog 306 #[.int .i64 ((n : Int) / 1000000)] W fun e w' => e = .returned (.string ⟨(decL (n / 1000000)).toArray⟩) ∧ Below W.heap.size W w') := fun W => by
  have := l01Whole_any 12 (n / 1000000) W hW (by omega)
  rwa [show ((n / 1000000 : Nat) : Int) = (n : Int) / 1000000 from by omega] at this
 have hl1 := decL_len 12 _ hW
 clear hW
 by_cases hr : n % 1000000 = 0
 · have HE : Hid (absText n = if n = 0 then [48] else decL (n / 1000000)) := by unfold Hid absText fracT; rw [if_pos hr]; simp
   have HZ : Hid (decL (n / 1000000) = [] ↔ n = 0) := by
    unfold Hid
    constructor
    · intro h
      have := valN_decL 12 (n / 1000000) (by rw [pow12]; omega)
      rw [h] at this
      simp [valN] at this
      omega
    · rintro rfl; rfl
   have hr' : ¬ (0 : Int) < (n : Int) % 1000000 := by omega
   generalize decL (n / 1000000) = l at *
   clear hr
   go_enter Tryz.func260, Tryz.ntmps260
   go_wp2_with fail
   refine (HK1.out _).mono ?_
   rintro e w1 ⟨rfl, hb1⟩
   have HB1 := Lib.hid hb1
   clear hb1
   go_wp2_with fail
   · go_ret
     have hl : l = [] := by simpa using (show l.isEmpty = true by assumption)
     exact ⟨ret_stn (by rw [HE.out, if_pos (HZ.out.1 hl)]), HB1.out⟩
   · go_ret
     have hl : l ≠ [] := by simpa using (show l.isEmpty = false by assumption)
     exact ⟨ret_stn (by rw [HE.out, if_neg (fun h => hl (HZ.out.2 h))]), HB1.out⟩
 · have hW : 1000000 + n % 1000000 < 10 ^ 7 := by rw [pow7]; omega
   have HK2 : Hid (∀ W, Calls Tryz.prog 306 #[.int .i64 (1000000 + (n : Int) % 1000000)] W fun e w' => e = .returned (.string ⟨(decL (1000000 + n % 1000000)).toArray⟩) ∧ Below W.heap.size W w') := fun W => by
    have := l01Whole_any 7 (1000000 + n % 1000000) W hW (by omega)
    rwa [show ((1000000 + n % 1000000 : Nat) : Int) = 1000000 + (n : Int) % 1000000 from by omega] at this
   have hl2 := decL_len 7 _ hW
   have hpos : (0 : Int) < (n : Int) % 1000000 := by omega
   have hne := frac_ne (n % 1000000) (by omega) (by omega)
   have HE : Hid (absText n = decL (n / 1000000) ++ 46 :: trimZ ((decL (1000000 + n % 1000000)).drop 1)) := by
    unfold Hid absText fracT
    rw [if_neg (by omega), if_neg hr]
   have hl3 : 0 < (decL (1000000 + n % 1000000)).length := by
    rcases Nat.eq_zero_or_pos (decL (1000000 + n % 1000000)).length with h | h
    · exfalso
      apply hne
      rw [List.eq_nil_of_length_eq_zero h]
      rfl
    · exact h
   have HNE := Lib.hid hne
   clear hW hr hne
   generalize decL (n / 1000000) = l at *
   generalize decL (1000000 + n % 1000000) = F at *
   go_enter Tryz.func260, Tryz.ntmps260
   go_wp2_with fail
   refine (HK1.out _).mono ?_
   rintro e w1 ⟨rfl, hb1⟩
   have HB1 := Lib.hid hb1
   clear hb1
   go_wp2_with fail
   refine (HK2.out _).mono ?_
   rintro e w2 ⟨rfl, hb2⟩
   have HB2 := Lib.hid (HB1.out.later hb2)
   clear hb2
   go_wp2_with fail
   go_loop [5] (fun v => ∃ t : ByteArray, v = .string t ∧ t.size ≤ 7 ∧ Hid (trimZ t.data.toList = trimZ (F.drop 1))) (fun v => strLen v)
   case atStart =>
    refine ⟨_, rfl, ?_, ?_⟩
    · rw [ByteArray.size_extract]; simp [ByteArray.size]; omega
    · unfold Hid
      rw [Lib.extract_data]
      show trimZ ((F.drop 1).take (F.length - 1)) = _
      rw [List.take_of_length_le (by simp)]
   case round =>
    obtain ⟨t, rfl, ht, hT⟩ := hrel
    have h0 : 0 < t.size := by
     rcases Nat.eq_zero_or_pos t.size with h | h
     · exfalso
       apply HNE.out
       rw [← hT.out, List.eq_nil_of_length_eq_zero (show t.data.toList.length = 0 by rw [← Lib.size_eq]; exact h)]
       rfl
     · exact h
    have HS := Lib.hid (bytes_snoc t h0)
    have hem : (({ data := l.toArray } : ByteArray) ++ (({ data := #[46] } : ByteArray) ++ t)).toList.isEmpty = false := by
     rw [toList_data, ByteArray.data_append, ByteArray.data_append, Array.toList_append, Array.toList_append]
     simp
    go_wp2_with fail
    · have hb : t[t.size - 1] = 48 := byte48.1 (by assumption)
      go_round
      case rel => exact ⟨_, rfl, by rw [size_ext]; omega, by unfold Hid; rw [← hT.out, HS.out, hb, trimZ_zero]⟩
      case measure => simp only [strLen]; have := size_ext t; show (t.extract 0 (t.size - 1)).size < t.size; omega
    · have hb : t[t.size - 1] ≠ 48 := fun h => by
       have h1 := byte48.2 h
       have h2 : ((t[t.size - 1].toNat : Int) == 48) = false := by assumption
       rw [h1] at h2; cases h2
      have HT : Hid (trimZ (F.drop 1) = t.data.toList) := by
       unfold Hid
       rw [← hT.out]
       conv => lhs; rw [HS.out]
       rw [trimZ_stop _ _ hb, ← HS.out]
      clear hb
      go_ret
      refine ⟨ret_stn ?_, HB2.out⟩
      rw [HE.out, HT.out]
      apply ByteArray.ext
      rw [ByteArray.data_append, ByteArray.data_append]
      apply Array.toList_inj.1
      simp
set_option maxHeartbeats 400000 in
theorem l01Text_any (n : Int) (w : World) (h1 : -999999999999999999 ≤ n) (h2 : n ≤ 999999999999999999) :
 Calls Tryz.prog 260 #[.int .i64 n] w fun e w' => e = .returned (.string ⟨(numText n).toArray⟩) ∧ Below w.heap.size w w' := by
 by_cases hneg : n < 0
 · have HK : Hid (∀ W, Calls Tryz.prog 260 #[.int .i64 (-n)] W fun e w' => e = .returned (.string ⟨(absText n.natAbs).toArray⟩) ∧ Below W.heap.size W w') := fun W => by
    have := l01Text_pos n.natAbs W (by omega)
    rwa [show (n.natAbs : Int) = -n from by omega] at this
   have HE : Hid (numText n = 45 :: absText n.natAbs) := if_pos hneg
   have hlen := absText_len n.natAbs (by omega)
   generalize absText n.natAbs = l at *
   go_enter Tryz.func260, Tryz.ntmps260
   go_wp2_with fail
   refine (HK.out _).mono ?_
   rintro e w1 ⟨rfl, hb1⟩
   have HB1 := Lib.hid hb1
   clear hb1
   go_wp2_with fail
   go_ret
   refine ⟨ret_stn ?_, HB1.out⟩
   rw [HE.out]
   apply ByteArray.ext
   simp
 · have HE : numText n = absText n.toNat := if_neg hneg
   rw [HE]
   have := l01Text_pos n.toNat w (by omega)
   rwa [show (n.toNat : Int) = n from by omega] at this
def canonB (s : ByteArray) : Bool := decide (numText (numS s.data.toList) = s.data.toList)
theorem absText_ne (n : Nat) (_h : n ≤ 999999999999999999) : absText n ≠ [] := by
 unfold absText
 split
 · simp
 · rename_i h0
   intro he
   obtain ⟨h1, h2⟩ := List.append_eq_nil_iff.1 he
   unfold fracT at h2
   split at h2
   · rename_i hr
     have := valN_decL 12 (n / 1000000) (by rw [pow12]; omega)
     rw [h1] at this
     simp [valN] at this
     omega
   · cases h2
theorem numText_len (n : Int) (h1 : -999999999999999999 ≤ n) (h2 : n ≤ 999999999999999999) : 0 < (numText n).length ∧ (numText n).length ≤ 21 := by
 unfold numText
 split
 · have := absText_len n.natAbs (by omega)
   simp only [List.length_cons]
   omega
 · have a := absText_len n.toNat (by omega)
   have b := List.length_pos_iff.2 (absText_ne n.toNat (by omega))
   omega
theorem numS_bd' (l : List UInt8) : -999999999999999999 ≤ numS l ∧ numS l ≤ 999999999999999999 := by
 have := numS_bd l
 unfold maxNum at this
 omega
set_option maxHeartbeats 400000 in
theorem l01Canon_any (s : ByteArray) (w : World) (hs : s.size ≤ 1048576) :
 Calls Tryz.prog 307 #[.string s] w fun e w' => e = .returned (.bool (canonB s)) ∧ Below w.heap.size w w' := by
 have hbd := numS_bd' s.data.toList
 have hlen := numText_len _ hbd.1 hbd.2
 by_cases h0 : s.size = 0
 · have HE : Hid (canonB s = false) := by
    unfold Hid canonB
    rw [decide_eq_false_iff_not]
    intro h
    rw [h, ← Lib.size_eq] at hlen
    omega
   have hem : s.toList.isEmpty = true := by rw [toList_data, List.eq_nil_of_length_eq_zero (show s.data.toList.length = 0 by rw [← Lib.size_eq]; exact h0)]; rfl
   clear hbd hlen h0
   go_enter Tryz.func307, Tryz.ntmps307
   go_wp2_with fail
   go_ret
   exact ⟨ret_bool HE.out.symm, Below.refl _ _⟩
 · have hem : s.toList.isEmpty = false := by
    rw [toList_data]
    cases hx : s.data.toList with
    | nil => exfalso; apply h0; rw [Lib.size_eq, hx]; rfl
    | cons a l => rfl
   by_cases h21 : s.size ≤ 21
   · have HK1 := Lib.hid (fun W => l01Of_any s W hs)
     have HK2 := Lib.hid (fun W => l01Text_any (numS s.data.toList) W hbd.1 hbd.2)
     have HE : Hid (canonB s = decide (numText (numS s.data.toList) = s.data.toList)) := rfl
     clear hbd hlen h0
     generalize numS s.data.toList = n at *
     generalize numText n = l at *
     go_enter Tryz.func307, Tryz.ntmps307
     go_wp2_with fail
     refine (HK1.out _).mono ?_
     rintro e w1 ⟨rfl, rfl⟩
     go_wp2_with fail
     refine (HK2.out _).mono ?_
     rintro e w2 ⟨rfl, hb2⟩
     have HB2 := Lib.hid hb2
     clear hb2
     go_wp2_with fail
     go_ret
     refine ⟨ret_bool ?_, HB2.out⟩
     rw [HE.out, ← toList_data, Bool.eq_iff_iff]
     simp
   · have HE : Hid (canonB s = false) := by
      unfold Hid canonB
      rw [decide_eq_false_iff_not]
      intro h
      rw [h, ← Lib.size_eq] at hlen
      omega
     clear hbd hlen h0
     go_enter Tryz.func307, Tryz.ntmps307
     go_wp2_with fail
     go_ret
     exact ⟨ret_bool HE.out.symm, Below.refl _ _⟩
end Go.Proofs.YtlicffeicmoifaaGreatDoor
