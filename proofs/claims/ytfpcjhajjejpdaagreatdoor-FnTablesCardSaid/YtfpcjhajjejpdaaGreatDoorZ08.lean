/-
  What isLetter, isDigit, NameOk, SubOk, SubsOk, locationOk, jobOk, begins and conflict of the program compute.
-/
import Derived.Test.YtfpcjhajjejpdaaGreatDoorZ06
import Derived.Test.YtfpcjhajjejpdaaGreatDoorZ07
namespace Go.Proofs.YtfpcjhajjejpdaaGreatDoor
open Go.RowKit

set_option maxHeartbeats 400000 in
theorem isLetter_any (c : UInt8) (w : World) :
    Calls Tryz.prog 176 #[.int .u8 c.toNat] w fun e w' => e = .returned (.bool (letterB c)) ∧ w = w' := by
  unfold letterB
  generalize c.toNat = n
  by_cases h1 : 97 ≤ n
  · by_cases h2 : n ≤ 122
    all_goals
      go_enter Tryz.func176, Tryz.ntmps176
      go_wp2
      all_goals
        go_ret
        exact ⟨ret_bool (by first | (simp; done) | (simp; omega) | (rw [Bool.eq_iff_iff]; simp; omega)), rfl⟩
  · by_cases h3 : 65 ≤ n
    · by_cases h4 : n ≤ 90
      all_goals
        go_enter Tryz.func176, Tryz.ntmps176
        go_wp2
        all_goals
          go_ret
          exact ⟨ret_bool (by first | (simp; done) | (simp; omega) | (rw [Bool.eq_iff_iff]; simp; omega)), rfl⟩
    · go_enter Tryz.func176, Tryz.ntmps176
      go_wp2
      all_goals
        go_ret
        exact ⟨ret_bool (by first | (simp; done) | (simp; omega) | (rw [Bool.eq_iff_iff]; simp; omega)), rfl⟩
set_option maxHeartbeats 400000 in
theorem isDigit_any (c : UInt8) (w : World) :
    Calls Tryz.prog 177 #[.int .u8 c.toNat] w fun e w' => e = .returned (.bool (isD c)) ∧ w = w' := by
  unfold isD
  generalize c.toNat = n
  by_cases h1 : 48 ≤ n
  · by_cases h2 : n ≤ 57
    all_goals
      go_enter Tryz.func177, Tryz.ntmps177
      go_wp2
      go_ret
      exact ⟨ret_bool (by first | (simp; done) | (simp; omega) | (rw [Bool.eq_iff_iff]; simp; omega)), rfl⟩
  · go_enter Tryz.func177, Tryz.ntmps177
    go_wp2
    go_ret
    exact ⟨ret_bool (by first | (simp; done) | (simp; omega) | (rw [Bool.eq_iff_iff]; simp; omega)), rfl⟩

def nameP (x : UInt8) : Bool := letterB x || isD x
def restN : Nat → List UInt8 → Bool
  | 0, l => decide (l = []) || nameL l
  | _ + 1, l => l.all nameP
theorem nameB_eq (s : ByteArray) : nameB s = (restN 0 s.data.toList && (decide (1 ≤ s.size) && decide (s.size ≤ 8))) := by
  unfold nameB restN
  rw [Lib.size_eq]
  cases hl : s.data.toList with
  | nil => simp [nameL]
  | cons c r => simp; rw [Bool.and_comm]
theorem restN_zero (s : ByteArray) (h : 0 < s.size) : restN 0 s.data.toList = ((letterB s[0] || decide (s[0] = 37)) && restN 1 (s.data.toList.drop 1)) := by
  have h0 := drop_cons s 0 h
  rw [List.drop_zero] at h0
  show (decide (s.data.toList = []) || nameL s.data.toList) = _
  rw [nameL_head s h]
  have : decide (s.data.toList = []) = false := by rw [h0]; simp
  rw [this, Bool.false_or]
  rfl
theorem restN_succ (s : ByteArray) (k : Nat) (h : k < s.size) (hk : 0 < k) : restN k (s.data.toList.drop k) = ((letterB s[k] || isD s[k]) && restN (k + 1) (s.data.toList.drop (k + 1))) := by
  obtain ⟨j, rfl⟩ : ∃ j, k = j + 1 := ⟨k - 1, by omega⟩
  rw [drop_cons s _ h]
  rfl

set_option maxHeartbeats 1000000 in
theorem NameOk_any (s : ByteArray) (w : World) (hs : s.size ≤ 1048576) :
    Calls Tryz.prog 123 #[.string s] w fun e w' => e = .returned (.bool (nameB s)) ∧ w = w' := by
  have HE := Lib.hid (nameB_eq s)
  go_enter Tryz.func123, Tryz.ntmps123
  go_wp2_with fail
  go_loop [3] (fun i => ∃ k : Nat, k ≤ s.size ∧ i = .int .i64 k ∧ Hid (restN 0 s.data.toList = restN k (s.data.toList.drop k))) (fun i => s.size - (intOf i).toNat)
  case atStart => exact ⟨0, Nat.zero_le _, rfl, rfl⟩
  case round =>
    obtain ⟨k, hk, rfl, hS⟩ := hrel
    by_cases hlt : k < s.size
    · have HK1 := Lib.hid (isLetter_any s[k])
      have HK2 := Lib.hid (isDigit_any s[k])
      by_cases h0 : k = 0
      · subst h0
        have HZ := Lib.hid (restN_zero s hlt)
        have hbe := byte_eq s[0] 37 (by omega)
        cases hx : letterB s[0]
        · by_cases h37 : s[0] = 37
          · have HF : Hid (restN 0 s.data.toList = restN 1 (s.data.toList.drop 1)) := by unfold Hid; rw [HZ.out, hx, decide_eq_true h37]; rfl
            have hb : ((s[0].toNat : Int) == 37) = true := by rw [decide_eq_true (show s[0] = UInt8.ofNat 37 from h37)] at hbe; exact hbe
            rw [hx] at HK1
            clear hx h37 hbe
            go_wp2_with fail
            refine (HK1.out _).mono ?_
            rintro e w' ⟨rfl, rfl⟩
            go_wp2_with fail
            go_round
            case rel => exact ⟨1, by omega, by go_num, HF.out⟩
            case measure => simp [intOf]; omega
          · have HF : Hid (nameB s = false) := by unfold Hid; rw [HE.out, HZ.out, hx, decide_eq_false h37]; rfl
            have hb : ((s[0].toNat : Int) == 37) = false := by rw [decide_eq_false (show ¬ s[0] = UInt8.ofNat 37 from h37)] at hbe; exact hbe
            rw [hx] at HK1
            clear hx h37 hbe
            go_wp2_with fail
            refine (HK1.out _).mono ?_
            rintro e w' ⟨rfl, rfl⟩
            go_wp2_with fail
            go_ret
            exact ⟨ret_bool HF.out.symm, rfl⟩
        · have HF : Hid (restN 0 s.data.toList = restN 1 (s.data.toList.drop 1)) := by unfold Hid; rw [HZ.out, hx]; rfl
          rw [hx] at HK1
          clear hx hbe
          go_wp2_with fail
          refine (HK1.out _).mono ?_
          rintro e w' ⟨rfl, rfl⟩
          go_wp2_with fail
          go_round
          case rel => exact ⟨1, by omega, by go_num, HF.out⟩
          case measure => simp [intOf]; omega
      · have HZ := Lib.hid (restN_succ s k hlt (by omega))
        have hb0 : ((k : Int) == 0) = false := by rw [beq_eq_false_iff_ne]; omega
        have hb1 : (k == 0) = false := by rw [beq_eq_false_iff_ne]; omega
        clear h0
        cases hx : letterB s[k]
        · cases hy : isD s[k]
          · have HF : Hid (nameB s = false) := by unfold Hid; rw [HE.out, hS.out, HZ.out, hx, hy]; rfl
            rw [hx] at HK1
            rw [hy] at HK2
            clear hx hy
            go_wp2_with fail
            refine (HK1.out _).mono ?_
            rintro e w' ⟨rfl, rfl⟩
            go_wp2_with fail
            refine (HK2.out _).mono ?_
            rintro e w' ⟨rfl, rfl⟩
            go_wp2_with fail
            go_ret
            exact ⟨ret_bool HF.out.symm, rfl⟩
          · have HF : Hid (restN 0 s.data.toList = restN (k + 1) (s.data.toList.drop (k + 1))) := by unfold Hid; rw [hS.out, HZ.out, hx, hy]; rfl
            rw [hx] at HK1
            rw [hy] at HK2
            clear hx hy
            go_wp2_with fail
            refine (HK1.out _).mono ?_
            rintro e w' ⟨rfl, rfl⟩
            go_wp2_with fail
            refine (HK2.out _).mono ?_
            rintro e w' ⟨rfl, rfl⟩
            go_wp2_with fail
            go_round
            case rel => exact ⟨k + 1, by omega, by go_num, HF.out⟩
            case measure => simp [intOf]; omega
        · have HF : Hid (restN 0 s.data.toList = restN (k + 1) (s.data.toList.drop (k + 1))) := by unfold Hid; rw [hS.out, HZ.out, hx]; rfl
          rw [hx] at HK1
          clear hx
          go_wp2_with fail
          refine (HK1.out _).mono ?_
          rintro e w' ⟨rfl, rfl⟩
          go_wp2_with fail
          go_round
          case rel => exact ⟨k + 1, by omega, by go_num, HF.out⟩
          case measure => simp [intOf]; omega
    · have HF : Hid (nameB s = (decide (1 ≤ s.size) && decide (s.size ≤ 8))) := by
        unfold Hid
        rw [HE.out, hS.out, drop_end s k (by omega)]
        cases k <;> simp [restN]
      by_cases h1 : 1 ≤ s.size
      · by_cases h8 : s.size ≤ 8
        all_goals
          go_wp2_with fail
          go_ret
          exact ⟨ret_bool (by rw [HF.out]; first | (simp; done) | (simp; omega) | (rw [Bool.eq_iff_iff]; simp; omega)), rfl⟩
      · go_wp2_with fail
        go_ret
        exact ⟨ret_bool (by rw [HF.out]; first | (simp; done) | (simp; omega) | (rw [Bool.eq_iff_iff]; simp; omega)), rfl⟩

set_option maxHeartbeats 400000 in
theorem SubOk_any (s : ByteArray) (w : World) (hs : s.size ≤ 1048576) :
    Calls Tryz.prog 223 #[.string s] w fun e w' => e = .returned (.bool (subB s)) ∧ w = w' := by
  unfold subB
  by_cases h1 : 1 ≤ s.size
  · by_cases h2 : s.size ≤ 24
    all_goals
      go_enter Tryz.func223, Tryz.ntmps223
      go_wp2
      go_ret
      exact ⟨ret_bool (by first | (simp; done) | (simp; omega) | (rw [Bool.eq_iff_iff]; simp; omega)), rfl⟩
  · go_enter Tryz.func223, Tryz.ntmps223
    go_wp2
    go_ret
    exact ⟨ret_bool (by first | (simp; done) | (simp; omega) | (rw [Bool.eq_iff_iff]; simp; omega)), rfl⟩
theorem SubsOk1_any (s : ByteArray) (w : World) (hs : s.size ≤ 1048576) :
    Calls Tryz.prog 222 #[.string s] w fun e w' => e = .returned (.bool (!subB s)) ∧ w = w' := by
  have HK := Lib.hid (SubOk_any s w hs)
  generalize subB s = x at *
  go_enter Tryz.func222, Tryz.ntmps222
  go_wp2_with fail
  refine HK.out.mono ?_
  rintro e w' ⟨rfl, rfl⟩
  go_wp2_with fail
  go_ret
  exact ⟨rfl, rfl⟩

/-- slices.IndexFunc over strings, at a function value that reads alone. -/
def idxS (p : ByteArray → Bool) : List ByteArray → Nat → Int
  | [], _ => -1
  | d :: r, k => if p d = true then k else idxS p r (k + 1)
theorem idxS_step (p : ByteArray → Bool) (l : List ByteArray) (k : Nat) (h : k < l.length) : idxS p (l.drop k) k = if p (l.getD k ByteArray.empty) = true then (k : Int) else idxS p (l.drop (k + 1)) (k + 1) := by
  rw [List.drop_eq_getElem_cons h]
  simp [idxS, List.getD_eq_getElem?_getD, List.getElem?_eq_getElem h]
theorem idxS_any (p : ByteArray → Bool) : ∀ (l : List ByteArray) (k : Nat), decide (0 ≤ idxS p l k) = l.any p
  | [], k => by simp [idxS]
  | d :: r, k => by
    unfold idxS
    rw [List.any_cons, ← idxS_any p r (k + 1)]
    by_cases h : p d = true
    · simp [h]
    · simp [h]

set_option maxHeartbeats 400000 in
theorem IndexFuncS_any (g : Nat) (lb : Array Value) (p : ByteArray → Bool) (A : Option Addr) (n c : Nat) (ss : List ByteArray) (w : World) (h : Strs w w.heap.size A n ss) (hn : n ≤ 1048576)
    (eg : ∀ args w, (callFunc g args).run Tryz.prog w = .ok (.enter g args) w)
    (hg : ∀ s ∈ ss, ∀ W, Below w.heap.size w W → Calls Tryz.prog g (#[.string s] ++ lb) W fun e w' => e = .returned (.bool (p s)) ∧ Below W.heap.size W w') :
    Calls Tryz.prog 163 #[.slice A n c, .func (.func g) #[] lb] w fun e w' => e = .returned (.int .i64 (idxS p ss 0)) ∧ Below w.heap.size w w' := by
  have Hh := Lib.hid h
  have Hlen := Lib.hid h.1
  have Hg := Lib.hid hg
  clear h hg
  go_enter Tryz.func163, Tryz.ntmps163
  go_wp2_with fail
  go_loopw [8] (fun i wr => ∃ k : Nat, k ≤ n ∧ i = .int .i64 k ∧ Below w.heap.size w wr ∧ Hid (idxS p ss 0 = idxS p (ss.drop k) k)) (fun i _ => n - (intOf i).toNat)
  case atStart => exact ⟨0, Nat.zero_le _, rfl, Below.refl _ _, rfl⟩
  case round =>
    obtain ⟨k, hk, rfl, hb, hS⟩ := hrel
    have HB := Lib.hid hb
    clear hb
    by_cases hlt : k < n
    · obtain ⟨b, o, rfl, hbB, hcell⟩ := (Hh.out.later HB.out).2 (by omega)
      have hck := hcell k hlt
      clear hcell
      have hl : k < ss.length := by rw [Hlen.out]; exact hlt
      have HS := Lib.hid (idxS_step p ss k hl)
      have HK := Lib.hid (Hg.out (ss.getD k ByteArray.empty) (by rw [List.getD_eq_getElem?_getD, List.getElem?_eq_getElem hl]; simp) wr HB.out)
      clear hl
      generalize ss.getD k ByteArray.empty = s at *
      generalize hx : p s = x at *
      have HX := Lib.hid hx
      clear hx
      go_wp2_with fail
      refine HK.out.mono ?_
      rintro e w' ⟨rfl, hb1⟩
      have HB1 := Lib.hid (HB.out.later hb1)
      clear hb1
      cases x
      · go_wp2_with fail
        go_roundw
        case rel => exact ⟨k + 1, by omega, by go_num, HB1.out, by unfold Hid; rw [hS.out, HS.out]; rfl⟩
        case measure => simp [intOf]; omega
      · go_wp2_with fail
        go_ret
        exact ⟨ret_int (by rw [hS.out, HS.out]; rfl), HB1.out⟩
    · have HE : Hid (idxS p ss 0 = -1) := by unfold Hid; rw [hS.out, List.drop_of_length_le (by rw [Hlen.out]; omega)]; rfl
      go_wp2_with fail
      go_ret
      exact ⟨ret_int HE.out.symm, HB.out⟩
set_option maxHeartbeats 400000 in
theorem ContainsFuncS_any (g : Nat) (lb : Array Value) (p : ByteArray → Bool) (A : Option Addr) (n c : Nat) (ss : List ByteArray) (w : World) (h : Strs w w.heap.size A n ss) (hn : n ≤ 1048576)
    (eg : ∀ args w, (callFunc g args).run Tryz.prog w = .ok (.enter g args) w)
    (hg : ∀ s ∈ ss, ∀ W, Below w.heap.size w W → Calls Tryz.prog g (#[.string s] ++ lb) W fun e w' => e = .returned (.bool (p s)) ∧ Below W.heap.size W w') :
    Calls Tryz.prog 104 #[.slice A n c, .func (.func g) #[] lb] w fun e w' => e = .returned (.bool (ss.any p)) ∧ Below w.heap.size w w' := by
  have HK := Lib.hid (IndexFuncS_any g lb p A n c ss w h hn eg hg)
  have hE := idxS_any p ss 0
  clear h hg eg
  generalize ss.any p = R at *
  generalize idxS p ss 0 = x at *
  have HE := Lib.hid hE
  clear hE
  go_enter Tryz.func104, Tryz.ntmps104
  go_wp2_with fail
  refine HK.out.mono ?_
  rintro e w' ⟨rfl, hb1⟩
  have HB1 := Lib.hid hb1
  clear hb1
  go_wp2_with fail
  go_ret
  exact ⟨ret_bool HE.out, HB1.out⟩

set_option maxHeartbeats 400000 in
theorem IndexFuncS_same (g : Nat) (lb : Array Value) (p : ByteArray → Bool) (A : Option Addr) (n c : Nat) (ss : List ByteArray) (w : World) (h : Strs w w.heap.size A n ss) (hn : n ≤ 1048576)
    (eg : ∀ args w, (callFunc g args).run Tryz.prog w = .ok (.enter g args) w)
    (hg : ∀ s ∈ ss, Calls Tryz.prog g (#[.string s] ++ lb) w fun e w' => e = .returned (.bool (p s)) ∧ w = w') :
    Calls Tryz.prog 163 #[.slice A n c, .func (.func g) #[] lb] w fun e w' => e = .returned (.int .i64 (idxS p ss 0)) ∧ w = w' := by
  have Hh := Lib.hid h
  have Hlen := Lib.hid h.1
  have Hg := Lib.hid hg
  clear h hg
  go_enter Tryz.func163, Tryz.ntmps163
  go_wp2_with fail
  go_loop [8] (fun i => ∃ k : Nat, k ≤ n ∧ i = .int .i64 k ∧ Hid (idxS p ss 0 = idxS p (ss.drop k) k)) (fun i => n - (intOf i).toNat)
  case atStart => exact ⟨0, Nat.zero_le _, rfl, rfl⟩
  case round =>
    obtain ⟨k, hk, rfl, hS⟩ := hrel
    by_cases hlt : k < n
    · obtain ⟨b, o, rfl, hbB, hcell⟩ := Hh.out.2 (by omega)
      have hck := hcell k hlt
      clear hcell
      have hl : k < ss.length := by rw [Hlen.out]; exact hlt
      have HS := Lib.hid (idxS_step p ss k hl)
      have HK := Lib.hid (Hg.out (ss.getD k ByteArray.empty) (by rw [List.getD_eq_getElem?_getD, List.getElem?_eq_getElem hl]; simp))
      clear hl
      generalize ss.getD k ByteArray.empty = s at *
      generalize hx : p s = x at *
      have HX := Lib.hid hx
      clear hx
      go_wp2_with fail
      refine HK.out.mono ?_
      rintro e w' ⟨rfl, rfl⟩
      cases x
      · go_wp2_with fail
        go_round
        case rel => exact ⟨k + 1, by omega, by go_num, by unfold Hid; rw [hS.out, HS.out]; rfl⟩
        case measure => simp [intOf]; omega
      · go_wp2_with fail
        go_ret
        exact ⟨ret_int (by rw [hS.out, HS.out]; rfl), rfl⟩
    · have HE : Hid (idxS p ss 0 = -1) := by unfold Hid; rw [hS.out, List.drop_of_length_le (by rw [Hlen.out]; omega)]; rfl
      go_wp2_with fail
      go_ret
      exact ⟨ret_int HE.out.symm, rfl⟩
set_option maxHeartbeats 400000 in
theorem ContainsFuncS_same (g : Nat) (lb : Array Value) (p : ByteArray → Bool) (A : Option Addr) (n c : Nat) (ss : List ByteArray) (w : World) (h : Strs w w.heap.size A n ss) (hn : n ≤ 1048576)
    (eg : ∀ args w, (callFunc g args).run Tryz.prog w = .ok (.enter g args) w)
    (hg : ∀ s ∈ ss, Calls Tryz.prog g (#[.string s] ++ lb) w fun e w' => e = .returned (.bool (p s)) ∧ w = w') :
    Calls Tryz.prog 104 #[.slice A n c, .func (.func g) #[] lb] w fun e w' => e = .returned (.bool (ss.any p)) ∧ w = w' := by
  have HK := Lib.hid (IndexFuncS_same g lb p A n c ss w h hn eg hg)
  have hE := idxS_any p ss 0
  clear h hg eg
  generalize ss.any p = R at *
  generalize idxS p ss 0 = x at *
  have HE := Lib.hid hE
  clear hE
  go_enter Tryz.func104, Tryz.ntmps104
  go_wp2_with fail
  refine HK.out.mono ?_
  rintro e w' ⟨rfl, rfl⟩
  go_wp2_with fail
  go_ret
  exact ⟨ret_bool HE.out, rfl⟩

theorem any_not (l : List ByteArray) : (!(l.any fun s => !subB s)) = l.all subB := by
  induction l with
  | nil => rfl
  | cons a r ih => simp only [List.any_cons, List.all_cons, Bool.not_or, Bool.not_not, ih]
set_option maxHeartbeats 400000 in
theorem SubsOk_any (A : Option Addr) (n c : Nat) (ss : List ByteArray) (w : World) (h : Strs w w.heap.size A n ss) (hn : n ≤ 1048576) (hz : ∀ s ∈ ss, s.size ≤ 1048576) :
    Calls Tryz.prog 192 #[.slice A n c] w fun e w' => e = .returned (.bool (subsB ss)) ∧ w = w' := by
  have eg : ∀ args w, (callFunc 222 args).run Tryz.prog w = .ok (.enter 222 args) w := enters_of Tryz.func222 (by kernel_rfl) rfl
  have HK := Lib.hid (ContainsFuncS_same 222 #[] (fun s => !subB s) A n c ss w h hn eg (fun s hs => SubsOk1_any s w (hz s hs)))
  have hE : subsB ss = (decide (n ≤ 4) && !(ss.any fun s => !subB s)) := by unfold subsB; rw [any_not, h.1]
  clear h hz eg
  generalize subsB ss = R at *
  generalize (ss.any fun s => !subB s) = x at *
  by_cases h4 : n ≤ 4
  · have HE : Hid ((!x) = R) := by unfold Hid; rw [hE]; simp [h4]
    clear hE
    go_enter Tryz.func192, Tryz.ntmps192
    go_wp2_with fail
    refine HK.out.mono ?_
    rintro e w' ⟨rfl, rfl⟩
    go_wp2_with fail
    go_ret
    exact ⟨ret_bool HE.out, rfl⟩
  · have HE : Hid (false = R) := by unfold Hid; rw [hE]; simp [h4]
    clear hE
    go_enter Tryz.func192, Tryz.ntmps192
    go_wp2_with fail
    go_ret
    exact ⟨ret_bool HE.out, rfl⟩
set_option maxHeartbeats 400000 in
theorem locationOk_any (nm : ByteArray) (A : Option Addr) (n c : Nat) (ss : List ByteArray) (w : World) (hs : nm.size ≤ 1048576) (h : Strs w w.heap.size A n ss) (hn : n ≤ 1048576) (hz : ∀ s ∈ ss, s.size ≤ 1048576) :
    Calls Tryz.prog 151 #[.string nm, .slice A n c] w fun e w' => e = .returned (.bool (thingB nm ss)) ∧ w = w' := by
  have HK1 := Lib.hid (NameOk_any nm w hs)
  have HK2 := Lib.hid (SubsOk_any A n c ss w h hn hz)
  have HR : Hid (thingB nm ss = (nameB nm && subsB ss)) := rfl
  clear h hz
  generalize thingB nm ss = R at *
  generalize nameB nm = x at *
  generalize subsB ss = y at *
  go_enter Tryz.func151, Tryz.ntmps151
  go_wp2_with fail
  refine HK1.out.mono ?_
  rintro e w1 ⟨rfl, rfl⟩
  cases x
  · go_wp2_with fail
    go_ret
    exact ⟨ret_bool (by rw [HR.out]; rfl), rfl⟩
  · go_wp2_with fail
    refine HK2.out.mono ?_
    rintro e w1 ⟨rfl, rfl⟩
    go_wp2_with fail
    go_ret
    exact ⟨ret_bool (by rw [HR.out]; rfl), rfl⟩
end Go.Proofs.YtfpcjhajjejpdaaGreatDoor
