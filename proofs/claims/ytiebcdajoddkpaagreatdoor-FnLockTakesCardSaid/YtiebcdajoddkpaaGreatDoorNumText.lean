/-
  A number's text: the plain function; what l01Whole of the reference computes.
-/
import Derived.Test.YtiebcdajoddkpaaGreatDoorNumSpec
import Derived.Lib.ItoaNum
import Derived.Deep.RegionWith
import Derived.IntWalk
namespace Go.Proofs.YtiebcdajoddkpaaGreatDoor
open Go.RowKit

/-- The digits of n; none for 0. -/
def decL (n : Nat) : List UInt8 := if n = 0 then [] else Lib.decDigits n
theorem decL_step (n : Nat) (h : n ≠ 0) : decL n = decL (n / 10) ++ [UInt8.ofNat (48 + n % 10)] := by
  unfold decL
  rw [if_neg h]
  by_cases h10 : n < 10
  · rw [Lib.decDigits_one h10, if_pos (by omega)]
    simp [Nat.mod_eq_of_lt h10]
  · rw [Lib.decDigits, dif_neg h10, if_neg (by omega)]
theorem decL_len : ∀ (f n : Nat), n < 10 ^ f → (decL n).length ≤ f
  | 0, n, h => by
    obtain rfl : n = 0 := by simpa using h
    simp [decL]
  | f + 1, n, h => by
    by_cases h0 : n = 0
    · subst h0; simp [decL]
    · rw [decL_step n h0, List.length_append]
      have := decL_len f (n / 10) (by rw [Nat.pow_succ] at h; omega)
      simp
      omega

theorem conv_cell {P : Program} (src dst e : TypeId) (hs : P.underlying src = some (.slice e)) (he : P.underlying e = some (.int .u8)) (hd : P.underlying dst = some .string) (W : World) (b n : Nat) (hn : n < 256)
    (hc : W.cell? ⟨b, 0, none⟩ = some (.int .u8 (n : Int))) : (convert src dst (.slice (some ⟨b, 0, none⟩) 1 1)).run P W = .ok (.string ⟨#[UInt8.ofNat n]⟩) W := by
  have := run_convert_bytes_back (P := P) W src dst e ⟨b, 0, none⟩ 1 [UInt8.ofNat n] hs he hd (fun j hj => by
    obtain rfl : j = 0 := by simpa using hj
    simp only [Addr.add, if_pos]
    rw [hc]
    simp [Nat.mod_eq_of_lt hn])
  simpa using this

theorem cellA (w : World) (v : Value) (t : TypeId) : ((w.alloc (.cells #[v] t)).drew).cell? ⟨w.heap.size, 0, none⟩ = some v := by
  have h := cell_of_row (w.alloc (.cells #[v] t)) w.heap.size 0 #[v] t (0, 0) (heap_alloc_new w _)
  exact h
theorem pow18 : (10 : Nat) ^ 18 = 1000000000000000000 := by decide +kernel
theorem ret_stn {a b : ByteArray} (h : a = b) : Ending.returned (.string a) = .returned (.string b) := by rw [h]

set_option maxHeartbeats 1000000 in
theorem l01Whole_any : ∀ (f n : Nat) (w : World), n < 10 ^ f → f ≤ 18 →
    Calls Tryz.prog 181 #[.int .i64 n] w fun e w' => e = .returned (.string ⟨(decL n).toArray⟩) ∧ Below w.heap.size w w'
  | 0, n, w, h, _ => by
    obtain rfl : n = 0 := by simpa using h
    have HE : Hid ((⟨#[]⟩ : ByteArray) = ⟨(decL 0).toArray⟩) := rfl
    go_enter Tryz.func181, Tryz.ntmps181
    go_wp2_with fail
    go_ret
    exact ⟨ret_stn HE.out, Below.refl _ _⟩
  | f + 1, n, w, h, hf => by
    by_cases h0 : n = 0
    · subst h0
      have HE : Hid ((⟨#[]⟩ : ByteArray) = ⟨(decL 0).toArray⟩) := rfl
      go_enter Tryz.func181, Tryz.ntmps181
      go_wp2_with fail
      go_ret
      exact ⟨ret_stn HE.out, Below.refl _ _⟩
    · have hlt : n / 10 < 10 ^ f := by rw [Nat.pow_succ] at h; omega
      have HIH := Lib.hid (fun W => l01Whole_any f (n / 10) W hlt (by omega))
      have hb18 : n < 10 ^ 18 := Nat.lt_of_lt_of_le h (Nat.pow_le_pow_right (by omega) (by omega))
      have hb : ((n : Int) == 0) = false := by rw [beq_eq_false_iff_ne]; omega
      have hl := decL_len f (n / 10) hlt
      have HE : Hid ((⟨(decL (n / 10)).toArray⟩ : ByteArray) ++ ⟨#[UInt8.ofNat (48 + n % 10)]⟩ = ⟨(decL n).toArray⟩) := by
        unfold Hid
        rw [decL_step n h0]
        apply ByteArray.ext
        simp
      have hcv := fun W b hc => conv_cell (P := Tryz.prog) 22 9 5 Tryz.underlying22 Tryz.underlying5 Tryz.underlying9 W b (48 + n % 10) (by omega) hc
      rw [show ((48 + n % 10 : Nat) : Int) = 48 + (n : Int) % 10 from by omega] at hcv
      rw [pow18] at hb18
      have hn18 := hb18
      clear h hlt hb18 h0
      have hc10 : ((n / 10 : Nat) : Int) = (n : Int) / 10 := by omega
      rw [hc10] at HIH
      clear hc10
      generalize decL (n / 10) = l at *
      generalize UInt8.ofNat (48 + n % 10) = dg at *
      go_enter Tryz.func181, Tryz.ntmps181
      go_wp2_with fail
      have hw1 : IntKind.i64.wrap ((n : Int) / 10) = (n : Int) / 10 := IntWalk.i64_in _ (by omega)
      have hw2 : ((n : Int)).tmod 10 = (n : Int) % 10 := Int.tmod_eq_emod_of_nonneg (by omega)
      have hw3 : IntKind.i64.wrap (48 + (n : Int) % 10) = 48 + (n : Int) % 10 := IntWalk.i64_in _ (by omega)
      have hw4 : IntKind.u8.wrap (48 + (n : Int) % 10) = 48 + (n : Int) % 10 := by simp [IntKind.wrap, IntKind.signed, IntKind.bits]; omega
      go_region_with (go_at_call 181; refine (HIH.out _).mono ?_; rintro e w1 ⟨rfl, hb1⟩; (first | (with_reducible have hk1 := cell_later hb1 (cellA w _ _)) | skip))
      all_goals
        have HB := Lib.hid hb1
        clear hb1
        go_wp2_with fail
        go_ret
        first
          | exact ⟨ret_stn HE.out, undrew HB.out⟩
          | exact ⟨ret_stn HE.out, (undrew HB.out).later (Below.new _ _)⟩
          | exact ⟨ret_stn HE.out, (Below.new _ _).later (undrew HB.out)⟩
end Go.Proofs.YtiebcdajoddkpaaGreatDoor
