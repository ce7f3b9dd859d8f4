/-
  Plain law: the number that a text begins with, as the reference reads it and as the program reads it, is one and the same.
-/
namespace Go.Proofs.YtfpcjhajjejpdaaGreatDoor

def isD (c : UInt8) : Bool := decide (48 ≤ c.toNat) && decide (c.toNat ≤ 57)
def isSg (c : UInt8) : Bool := decide (c = 43) || decide (c = 45)
def dV (c : UInt8) : Nat := c.toNat - 48
def maxNum : Nat := 999999999999999999

/-- Signs skipped: whether an odd number of them is a minus; what is left. -/
def skipS : List UInt8 → Bool → Bool × List UInt8
  | [], m => (m, [])
  | c :: r, m => if isSg c = true then skipS r (m != decide (c = 45)) else (m, c :: r)
/-- Digits read, up to 10^12; what is left. -/
def digW : List UInt8 → Nat → Nat × List UInt8
  | [], n => (n, [])
  | c :: r, n => if isD c = true then digW r (min (10 * n + dV c) 1000000000000) else (n, c :: r)
/-- A fraction's digits added. -/
def fracW : List UInt8 → Nat → Nat → Nat
  | [], _, n => n
  | c :: r, u, n => if isD c = true then fracW r (u / 10) (n + dV c * u) else n
/-- The fraction behind a point. -/
def behind : List UInt8 → Option (List UInt8)
  | [] => none
  | c :: r => if c = 46 then some r else none
def withFrac : Option (List UInt8) → Nat → Nat
  | some t, n => fracW t 100000 n
  | none, n => n
def absS (l : List UInt8) : Nat := min (withFrac (behind (digW l 0).2) (min ((digW l 0).1 * 1000000) 1000000000000000000)) maxNum
def numS (l : List UInt8) : Int := if (skipS l false).1 = true then -(absS (skipS l false).2 : Int) else absS (skipS l false).2

/-- The program's: digits scaled, up to the greatest number. -/
def scaledN : List UInt8 → Nat → Nat
  | [], n => n
  | c :: r, n => if (maxNum - dV c) / 10 < n then maxNum else scaledN r (10 * n + dV c)
def fracI (r : List UInt8) : List UInt8 := match behind (r.dropWhile isD) with
  | some t => t.takeWhile isD
  | none => []
def absI (r : List UInt8) : Nat := scaledN (r.takeWhile isD ++ (fracI r ++ List.replicate 6 48).take 6) 0
def numI (l : List UInt8) : Int := if (l.takeWhile isSg).count 45 % 2 = 1 then -(absI (l.dropWhile isSg) : Int) else absI (l.dropWhile isSg)

theorem skipS_eq : ∀ (l : List UInt8) (m : Bool), skipS l m = ((m != decide ((l.takeWhile isSg).count 45 % 2 = 1)), l.dropWhile isSg)
  | [], m => by simp [skipS]
  | c :: r, m => by
    unfold skipS
    by_cases h : isSg c = true
    · rw [if_pos h, skipS_eq r, List.takeWhile_cons_of_pos h, List.dropWhile_cons_of_pos h]
      refine Prod.ext ?_ rfl
      by_cases hc : c = 45
      · subst hc
        rw [List.count_cons_self]
        cases m <;> by_cases h2 : (r.takeWhile isSg).count 45 % 2 = 1 <;> simp [h2] <;> omega
      · rw [List.count_cons_of_ne hc]
        simp [hc]
    · rw [if_neg h, List.takeWhile_cons_of_neg h, List.dropWhile_cons_of_neg h]
      simp

def valN (l : List UInt8) (n : Nat) : Nat := l.foldl (fun n c => 10 * n + dV c) n

theorem valN_ge : ∀ (l : List UInt8) (n : Nat), n ≤ valN l n
  | [], n => Nat.le_refl _
  | c :: r, n => by
    have := valN_ge r (10 * n + dV c)
    show n ≤ valN r (10 * n + dV c)
    omega
theorem digW_eq : ∀ (l : List UInt8) (n : Nat), n ≤ 1000000000000 → digW l n = (min (valN (l.takeWhile isD) n) 1000000000000, l.dropWhile isD)
  | [], n, h => by simp [digW, valN]; omega
  | c :: r, n, h => by
    unfold digW
    by_cases hd : isD c = true
    · rw [if_pos hd, digW_eq r _ (by omega), List.takeWhile_cons_of_pos hd, List.dropWhile_cons_of_pos hd]
      refine Prod.ext ?_ rfl
      show min (valN (r.takeWhile isD) (min (10 * n + dV c) 1000000000000)) 1000000000000 = min (valN (r.takeWhile isD) (10 * n + dV c)) 1000000000000
      by_cases hc : 10 * n + dV c ≤ 1000000000000
      · rw [Nat.min_eq_left hc]
      · rw [Nat.min_eq_right (show 1000000000000 ≤ 10 * n + dV c by omega)]
        have h1 := valN_ge (r.takeWhile isD) 1000000000000
        have h2 := valN_ge (r.takeWhile isD) (10 * n + dV c)
        omega
    · rw [if_neg hd, List.takeWhile_cons_of_neg hd, List.dropWhile_cons_of_neg hd]
      refine Prod.ext ?_ rfl
      show n = min (valN [] n) 1000000000000
      simp [valN]; omega

/-- The first k digits of a fraction, in units of 10^-k. -/
def fv : Nat → List UInt8 → Nat
  | 0, _ => 0
  | _ + 1, [] => 0
  | k + 1, c :: r => if isD c = true then dV c * 10 ^ k + fv k r else 0
def unitOf : Nat → Nat
  | 0 => 0
  | k + 1 => 10 ^ k
theorem unit_div : ∀ k, unitOf k / 10 = unitOf (k - 1)
  | 0 => rfl
  | 1 => rfl
  | k + 2 => by
    show 10 ^ (k + 1) / 10 = 10 ^ k
    rw [Nat.pow_succ]; omega
theorem fracW_eq : ∀ (t : List UInt8) (k n : Nat), fracW t (unitOf k) n = n + fv k t
  | [], 0, n => rfl
  | [], k + 1, n => rfl
  | c :: r, k, n => by
    unfold fracW
    by_cases hd : isD c = true
    · rw [if_pos hd, unit_div, fracW_eq r]
      cases k with
      | zero => simp [unitOf, fv]
      | succ k =>
        simp only [fv, if_pos hd, unitOf, Nat.add_sub_cancel]
        omega
    · rw [if_neg hd]
      cases k with
      | zero => simp [fv]
      | succ k => simp [fv, hd]
theorem dV_le (c : UInt8) (h : isD c = true) : dV c ≤ 9 := by
  simp [isD] at h
  unfold dV
  omega
theorem fv_lt : ∀ (k : Nat) (t : List UInt8), fv k t < 10 ^ k
  | 0, _ => by simp [fv]
  | k + 1, [] => by simp [fv]; exact Nat.pow_pos (by omega)
  | k + 1, c :: r => by
    unfold fv
    split
    · rename_i hd
      have h1 := fv_lt k r
      have h2 := dV_le c hd
      have h3 : dV c * 10 ^ k ≤ 9 * 10 ^ k := Nat.mul_le_mul_right _ h2
      rw [Nat.pow_succ]; omega
    · exact Nat.pow_pos (by omega)
theorem valN_zeros : ∀ (k a : Nat), valN (List.replicate k 48) a = a * 10 ^ k
  | 0, a => by simp [valN]
  | k + 1, a => by
    show valN (List.replicate k 48) (10 * a + dV 48) = _
    rw [valN_zeros k, Nat.pow_succ]
    have : dV 48 = 0 := rfl
    rw [this, Nat.add_zero, Nat.mul_comm 10 a, Nat.mul_assoc, Nat.mul_comm 10]
theorem valN_frac : ∀ (k : Nat) (t : List UInt8) (a : Nat), valN ((t.takeWhile isD ++ List.replicate k 48).take k) a = a * 10 ^ k + fv k t
  | 0, t, a => by simp [valN, fv]
  | k + 1, [], a => by
    rw [List.takeWhile_nil, List.nil_append, List.take_of_length_le (by simp), valN_zeros]
    simp [fv]
  | k + 1, c :: r, a => by
    by_cases hd : isD c = true
    · rw [List.takeWhile_cons_of_pos hd]
      show valN ((r.takeWhile isD ++ List.replicate (k + 1) 48).take k) (10 * a + dV c) = _
      have e : (r.takeWhile isD ++ List.replicate (k + 1) 48).take k = (r.takeWhile isD ++ List.replicate k 48).take k := by
        rw [List.replicate_succ', ← List.append_assoc, List.take_append_of_le_length (by simp)]
      rw [e, valN_frac k r]
      simp only [fv, if_pos hd, Nat.pow_succ]
      rw [Nat.add_mul, Nat.mul_comm 10 a, Nat.mul_assoc, Nat.mul_comm 10]
      omega
    · rw [List.takeWhile_cons_of_neg hd, List.nil_append, List.take_of_length_le (by simp), valN_zeros]
      simp [fv, hd]
theorem scaledN_eq : ∀ (l : List UInt8) (n : Nat), (∀ c ∈ l, dV c ≤ 9) → n ≤ maxNum → scaledN l n = min (valN l n) maxNum
  | [], n, _, h => by simp [scaledN, valN]; omega
  | c :: r, n, hl, h => by
    have hc := hl c List.mem_cons_self
    unfold scaledN
    have hm : maxNum = 999999999999999999 := rfl
    split
    · rename_i h1
      have h2 : maxNum < 10 * n + dV c := by omega
      have h3 := valN_ge r (10 * n + dV c)
      show maxNum = min (valN r (10 * n + dV c)) maxNum
      omega
    · exact scaledN_eq r _ (fun x hx => hl x (List.mem_cons_of_mem _ hx)) (by omega)

theorem mem_takeWhile {p : UInt8 → Bool} : ∀ (l : List UInt8) (c : UInt8), c ∈ l.takeWhile p → p c = true
  | [], c, h => by simp at h
  | x :: r, c, h => by
    by_cases hx : p x = true
    · rw [List.takeWhile_cons_of_pos hx] at h
      rcases List.mem_cons.1 h with rfl | h
      · exact hx
      · exact mem_takeWhile r c h
    · rw [List.takeWhile_cons_of_neg hx] at h; cases h

theorem absI_eq (r : List UInt8) : absI r = absS r := by
  unfold absI absS
  rw [digW_eq r 0 (by omega)]
  have hm : maxNum = 999999999999999999 := rfl
  have hall : ∀ c ∈ r.takeWhile isD ++ (fracI r ++ List.replicate 6 48).take 6, dV c ≤ 9 := by
    intro c hc
    rcases List.mem_append.1 hc with h | h
    · exact dV_le c (mem_takeWhile _ _ h)
    · rcases List.mem_append.1 (List.mem_of_mem_take h) with h | h
      · unfold fracI at h
        split at h
        · exact dV_le c (mem_takeWhile _ _ h)
        · cases h
      · rw [List.eq_of_mem_replicate h]; decide
  rw [scaledN_eq _ _ hall (by omega)]
  have hv : valN (r.takeWhile isD ++ (fracI r ++ List.replicate 6 48).take 6) 0 = valN (r.takeWhile isD) 0 * 10 ^ 6 + (match behind (r.dropWhile isD) with | some t => fv 6 t | none => 0) := by
    show List.foldl _ 0 _ = _
    rw [List.foldl_append]
    show valN _ (valN _ 0) = _
    unfold fracI
    cases behind (r.dropWhile isD) with
    | some t => exact valN_frac 6 t _
    | none =>
      have := valN_frac 6 [] (valN (r.takeWhile isD) 0)
      simpa [fv] using this
  rw [hv]
  simp only
  cases behind (r.dropWhile isD) with
  | some t =>
    have h1 := fracW_eq t 6 (min (min (valN (r.takeWhile isD) 0) 1000000000000 * 1000000) 1000000000000000000)
    have h2 : unitOf 6 = 100000 := rfl
    rw [h2] at h1
    simp only [withFrac, h1]
    have h3 := fv_lt 6 t
    omega
  | none => simp only [withFrac]; omega

/-- The program and the reference read one and the same number. -/
theorem numI_eq (l : List UInt8) : numI l = numS l := by
  unfold numI numS
  rw [skipS_eq]
  simp only [absI_eq]
  by_cases h : (l.takeWhile isSg).count 45 % 2 = 1 <;> simp [h]

theorem absS_le (l : List UInt8) : absS l ≤ maxNum := by unfold absS; exact Nat.min_le_right _ _
theorem numS_bd (l : List UInt8) : -(maxNum : Int) ≤ numS l ∧ numS l ≤ maxNum := by
  have := absS_le (skipS l false).2
  unfold numS
  split <;> omega
end Go.Proofs.YtfpcjhajjejpdaaGreatDoor
