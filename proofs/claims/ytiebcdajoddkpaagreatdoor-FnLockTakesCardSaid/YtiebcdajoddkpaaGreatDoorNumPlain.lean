/-
  Plain law of a number's text: the digits, the fraction without its zeros.
-/
import Derived.Test.YtiebcdajoddkpaaGreatDoorNumText
import Derived.Lib.SlTrimSet
namespace Go.Proofs.YtiebcdajoddkpaaGreatDoor
open Go.RowKit

def trimZ (l : List UInt8) : List UInt8 := Lib.trimRightS l [48]
def fracT (rest : Nat) : List UInt8 := if rest = 0 then [] else 46 :: trimZ ((decL (1000000 + rest)).drop 1)
def absText (n : Nat) : List UInt8 := if n = 0 then [48] else decL (n / 1000000) ++ fracT (n % 1000000)
def numText (n : Int) : List UInt8 := if n < 0 then 45 :: absText n.natAbs else absText n.toNat

theorem trimZ_zero (l : List UInt8) : trimZ (l ++ [48]) = trimZ l := by
  unfold trimZ Lib.trimRightS
  rw [List.reverse_append]
  simp
theorem trimZ_stop (l : List UInt8) (c : UInt8) (h : c ≠ 48) : trimZ (l ++ [c]) = l ++ [c] := by
  unfold trimZ Lib.trimRightS
  rw [List.reverse_append]
  have : ([48] : List UInt8).contains c = false := by simpa using h
  simp [h]
theorem dropWhile_nil {p : UInt8 → Bool} : ∀ (l : List UInt8), l.dropWhile p = [] → ∀ c ∈ l, p c = true
  | [], _, c, h => by cases h
  | x :: r, h, c, hc => by
    by_cases hx : p x = true
    · rw [List.dropWhile_cons_of_pos hx] at h
      rcases List.mem_cons.1 hc with rfl | hc
      · exact hx
      · exact dropWhile_nil r h c hc
    · rw [List.dropWhile_cons_of_neg hx] at h; cases h
theorem trimZ_nil (l : List UInt8) (h : trimZ l = []) : ∀ c ∈ l, c = 48 := by
  intro c hc
  have h1 : l.reverse.dropWhile (([48] : List UInt8).contains ·) = [] := by
    have := congrArg List.reverse h
    simpa [trimZ, Lib.trimRightS] using this
  have := dropWhile_nil _ h1 c (by simpa using hc)
  simpa using this
theorem trimZ_len (l : List UInt8) : (trimZ l).length ≤ l.length := by
  unfold trimZ Lib.trimRightS
  rw [List.length_reverse]
  have := (List.dropWhile_sublist (p := (([48] : List UInt8).contains ·)) (l := l.reverse)).length_le
  simpa using this

theorem dV_of (n : Nat) (h : n < 10) : dV (UInt8.ofNat (48 + n)) = n := by
  unfold dV
  rw [UInt8.toNat_ofNat', Nat.mod_eq_of_lt (by omega)]
  omega
theorem valN_append (a b : List UInt8) (n : Nat) : valN (a ++ b) n = valN b (valN a n) := by
  unfold valN
  rw [List.foldl_append]
theorem valN_decL : ∀ (f n : Nat), n < 10 ^ f → valN (decL n) 0 = n
  | 0, n, h => by
    obtain rfl : n = 0 := by simpa using h
    rfl
  | f + 1, n, h => by
    by_cases h0 : n = 0
    · subst h0; rfl
    · rw [decL_step n h0, valN_append, valN_decL f (n / 10) (by rw [Nat.pow_succ] at h; omega)]
      show 10 * (n / 10) + dV (UInt8.ofNat (48 + n % 10)) = n
      rw [dV_of _ (by omega)]
      omega
theorem all48 : ∀ (l : List UInt8), (∀ c ∈ l, c = 48) → l = List.replicate l.length 48
  | [], _ => rfl
  | x :: r, h => by
    rw [h x List.mem_cons_self, List.length_cons, List.replicate_succ, ← all48 r (fun c hc => h c (List.mem_cons_of_mem _ hc))]
theorem decL_digit : ∀ (f n : Nat), n < 10 ^ f → ∀ c ∈ decL n, dV c ≤ 9
  | 0, n, h, c, hc => by
    obtain rfl : n = 0 := by simpa using h
    simp [decL] at hc
  | f + 1, n, h, c, hc => by
    by_cases h0 : n = 0
    · subst h0; simp [decL] at hc
    · rw [decL_step n h0] at hc
      rcases List.mem_append.1 hc with h1 | h1
      · exact decL_digit f (n / 10) (by rw [Nat.pow_succ] at h; omega) c h1
      · rw [List.mem_singleton.1 h1, dV_of _ (by omega)]; omega
theorem pow7 : (10 : Nat) ^ 7 = 10000000 := by decide
theorem frac_ne (rest : Nat) (h0 : 0 < rest) (h1 : rest < 1000000) : trimZ ((decL (1000000 + rest)).drop 1) ≠ [] := by
  intro h
  have hall := trimZ_nil _ h
  have hlt : 1000000 + rest < 10 ^ 7 := by rw [pow7]; omega
  have hl := decL_len 7 _ hlt
  have hv := valN_decL 7 _ hlt
  have hd := decL_digit 7 _ hlt
  cases hL : decL (1000000 + rest) with
  | nil => rw [hL] at hv; simp [valN] at hv; omega
  | cons d r =>
    rw [hL] at hall hv hl hd
    have hr := all48 r hall
    have hd9 := hd d List.mem_cons_self
    rw [show d :: r = [d] ++ r from rfl, valN_append, hr, valN_zeros] at hv
    have hv1 : valN [d] 0 = dV d := by simp [valN]
    rw [hv1] at hv
    simp only [List.length_cons] at hl
    have hk : r.length ≤ 6 := by omega
    by_cases h6 : r.length = 6
    · rw [h6] at hv
      have : (10 : Nat) ^ 6 = 1000000 := by decide
      rw [this] at hv
      omega
    · have h5 : (10 : Nat) ^ r.length ≤ 10 ^ 5 := Nat.pow_le_pow_right (by omega) (by omega)
      have h6 : (10 : Nat) ^ 5 = 100000 := by decide
      have : dV d * 10 ^ r.length ≤ 9 * 100000 := Nat.le_trans (Nat.mul_le_mul_left _ h5) (by rw [h6]; exact Nat.mul_le_mul_right _ hd9)
      omega
end Go.Proofs.YtiebcdajoddkpaaGreatDoor
