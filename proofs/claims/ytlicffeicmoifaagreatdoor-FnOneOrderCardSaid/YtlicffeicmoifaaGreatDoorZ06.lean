import Derived.Test.YtlicffeicmoifaaGreatDoorZ04
import Derived.Test.YtlicffeicmoifaaGreatDoorZ05
import Derived.Deep.RegionWith
set_option linter.unusedSimpArgs false
namespace Go.Proofs.YtlicffeicmoifaaGreatDoor
open Go.RowKit
set_option maxHeartbeats 400000 in
theorem isLetter_any (c : UInt8) (w : World) :
 Calls Tryz.prog 156 #[.int .u8 c.toNat] w fun e w' => e = .returned (.bool (letterB c)) ∧ w = w' := by
 unfold letterB
 generalize c.toNat = n
 by_cases h1 : 97 ≤ n
 · by_cases h2 : n ≤ 122
   all_goals
    go_enter Tryz.func156, Tryz.ntmps156
    go_wp2
    all_goals
     go_ret
     exact ⟨ret_bool (by first | (simp; done) | (simp; omega) | (rw [Bool.eq_iff_iff]; simp; omega)), rfl⟩
 · by_cases h3 : 65 ≤ n
   · by_cases h4 : n ≤ 90
     all_goals
      go_enter Tryz.func156, Tryz.ntmps156
      go_wp2
      all_goals
       go_ret
       exact ⟨ret_bool (by first | (simp; done) | (simp; omega) | (rw [Bool.eq_iff_iff]; simp; omega)), rfl⟩
   · go_enter Tryz.func156, Tryz.ntmps156
     go_wp2
     all_goals
      go_ret
      exact ⟨ret_bool (by first | (simp; done) | (simp; omega) | (rw [Bool.eq_iff_iff]; simp; omega)), rfl⟩
set_option maxHeartbeats 400000 in
theorem isDigit_any (c : UInt8) (w : World) :
 Calls Tryz.prog 157 #[.int .u8 c.toNat] w fun e w' => e = .returned (.bool (isD c)) ∧ w = w' := by
 unfold isD
 generalize c.toNat = n
 by_cases h1 : 48 ≤ n
 · by_cases h2 : n ≤ 57
   all_goals
    go_enter Tryz.func157, Tryz.ntmps157
    go_wp2
    go_ret
    exact ⟨ret_bool (by first | (simp; done) | (simp; omega) | (rw [Bool.eq_iff_iff]; simp; omega)), rfl⟩
 · go_enter Tryz.func157, Tryz.ntmps157
   go_wp2
   go_ret
   exact ⟨ret_bool (by first | (simp; done) | (simp; omega) | (rw [Bool.eq_iff_iff]; simp; omega)), rfl⟩
def nameP (x : UInt8) : Bool := letterB x || isD x
def restN : Nat → List UInt8 → Bool
 | 0, l => decide (l = []) || nameL l
 | _ + 1, l => l.all nameP
theorem nameB_eq (s : ByteArray) : nameB s = (restN 0 s.data.toList && (decide (1 ≤ s.size) && decide (s.size ≤ 8))) := by
 unfold nameB restN
 rw [Lib.size_eq]
 cases hl : s.data.toList with
 | nil => simp [nameL]
 | cons c r => simp; rw [Bool.and_comm]
theorem restN_zero (s : ByteArray) (h : 0 < s.size) : restN 0 s.data.toList = ((letterB s[0] || decide (s[0] = 37)) && restN 1 (s.data.toList.drop 1)) := by
 have h0 := drop_cons s 0 h
 rw [List.drop_zero] at h0
 show (decide (s.data.toList = []) || nameL s.data.toList) = _
 rw [nameL_head s h]
 have : decide (s.data.toList = []) = false := by rw [h0]; simp
 rw [this, Bool.false_or]
 rfl
theorem restN_succ (s : ByteArray) (k : Nat) (h : k < s.size) (hk : 0 < k) : restN k (s.data.toList.drop k) = ((letterB s[k] || isD s[k]) && restN (k + 1) (s.data.toList.drop (k + 1))) := by
 obtain ⟨j, rfl⟩ : ∃ j, k = j + 1 := ⟨k - 1, by omega⟩
 rw [drop_cons s _ h]
 rfl
set_option maxHeartbeats 1000000 in
theorem NameOk_any (s : ByteArray) (w : World) (hs : s.size ≤ 1048576) :
 Calls Tryz.prog 70 #[.string s] w fun e w' => e = .returned (.bool (nameB s)) ∧ w = w' := by
 have HE := Lib.hid (nameB_eq s)
 go_enter Tryz.func70, Tryz.ntmps70
 go_wp2_with fail
 go_loop [3] (fun i => ∃ k : Nat, k ≤ s.size ∧ i = .int .i64 k ∧ Hid (restN 0 s.data.toList = restN k (s.data.toList.drop k))) (fun i => s.size - (intOf i).toNat)
 case atStart => exact ⟨0, Nat.zero_le _, rfl, rfl⟩
 case round =>
  obtain ⟨k, hk, rfl, hS⟩ := hrel
  by_cases hlt : k < s.size
  · have HK1 := Lib.hid (isLetter_any s[k])
    have HK2 := Lib.hid (isDigit_any s[k])
    by_cases h0 : k = 0
    · subst h0
      have HZ := Lib.hid (restN_zero s hlt)
      have hbe := byte_eq s[0] 37 (by omega)
      cases hx : letterB s[0]
      · by_cases h37 : s[0] = 37
        · have HF : Hid (restN 0 s.data.toList = restN 1 (s.data.toList.drop 1)) := by unfold Hid; rw [HZ.out, hx, decide_eq_true h37]; rfl
          have hb : ((s[0].toNat : Int) == 37) = true := by rw [decide_eq_true (show s[0] = UInt8.ofNat 37 from h37)] at hbe; exact hbe
          rw [hx] at HK1
          clear hx h37 hbe
          go_wp2_with fail
          refine (HK1.out _).mono ?_
          rintro e w' ⟨rfl, rfl⟩
          go_wp2_with fail
          go_round
          case rel => exact ⟨1, by omega, by go_num, HF.out⟩
          case measure => simp [intOf]; omega
        · have HF : Hid (nameB s = false) := by unfold Hid; rw [HE.out, HZ.out, hx, decide_eq_false h37]; rfl
          have hb : ((s[0].toNat : Int) == 37) = false := by rw [decide_eq_false (show ¬ s[0] = UInt8.ofNat 37 from h37)] at hbe; exact hbe
          rw [hx] at HK1
          clear hx h37 hbe
          go_wp2_with fail
          refine (HK1.out _).mono ?_
          rintro e w' ⟨rfl, rfl⟩
          go_wp2_with fail
          go_ret
          exact ⟨ret_bool HF.out.symm, rfl⟩
      · have HF : Hid (restN 0 s.data.toList = restN 1 (s.data.toList.drop 1)) := by unfold Hid; rw [HZ.out, hx]; rfl
        rw [hx] at HK1
        clear hx hbe
        go_wp2_with fail
        refine (HK1.out _).mono ?_
        rintro e w' ⟨rfl, rfl⟩
        go_wp2_with fail
        go_round
        case rel => exact ⟨1, by omega, by go_num, HF.out⟩
        case measure => simp [intOf]; omega
    · have HZ := Lib.hid (restN_succ s k hlt (by omega))
      have hb0 : ((k : Int) == 0) = false := by rw [beq_eq_false_iff_ne]; omega
      have hb1 : (k == 0) = false := by rw [beq_eq_false_iff_ne]; omega
      clear h0
      cases hx : letterB s[k]
      · cases hy : isD s[k]
        · have HF : Hid (nameB s = false) := by unfold Hid; rw [HE.out, hS.out, HZ.out, hx, hy]; rfl
          rw [hx] at HK1
          rw [hy] at HK2
          clear hx hy
          go_wp2_with fail
          refine (HK1.out _).mono ?_
          rintro e w' ⟨rfl, rfl⟩
          go_wp2_with fail
          refine (HK2.out _).mono ?_
          rintro e w' ⟨rfl, rfl⟩
          go_wp2_with fail
          go_ret
          exact ⟨ret_bool HF.out.symm, rfl⟩
        · have HF : Hid (restN 0 s.data.toList = restN (k + 1) (s.data.toList.drop (k + 1))) := by unfold Hid; rw [hS.out, HZ.out, hx, hy]; rfl
          rw [hx] at HK1
          rw [hy] at HK2
          clear hx hy
          go_wp2_with fail
          refine (HK1.out _).mono ?_
          rintro e w' ⟨rfl, rfl⟩
          go_wp2_with fail
          refine (HK2.out _).mono ?_
          rintro e w' ⟨rfl, rfl⟩
          go_wp2_with fail
          go_round
          case rel => exact ⟨k + 1, by omega, by go_num, HF.out⟩
          case measure => simp [intOf]; omega
      · have HF : Hid (restN 0 s.data.toList = restN (k + 1) (s.data.toList.drop (k + 1))) := by unfold Hid; rw [hS.out, HZ.out, hx]; rfl
        rw [hx] at HK1
        clear hx
        go_wp2_with fail
        refine (HK1.out _).mono ?_
        rintro e w' ⟨rfl, rfl⟩
        go_wp2_with fail
        go_round
        case rel => exact ⟨k + 1, by omega, by go_num, HF.out⟩
        case measure => simp [intOf]; omega
  · have HF : Hid (nameB s = (decide (1 ≤ s.size) && decide (s.size ≤ 8))) := by
     unfold Hid
     rw [HE.out, hS.out, drop_end s k (by omega)]
     cases k <;> simp [restN]
    by_cases h1 : 1 ≤ s.size
    · by_cases h8 : s.size ≤ 8
      all_goals
       go_wp2_with fail
       go_ret
       exact ⟨ret_bool (by rw [HF.out]; first | (simp; done) | (simp; omega) | (rw [Bool.eq_iff_iff]; simp; omega)), rfl⟩
    · go_wp2_with fail
      go_ret
      exact ⟨ret_bool (by rw [HF.out]; first | (simp; done) | (simp; omega) | (rw [Bool.eq_iff_iff]; simp; omega)), rfl⟩
set_option maxHeartbeats 400000 in
theorem SubOk_any (s : ByteArray) (w : World) (hs : s.size ≤ 1048576) :
 Calls Tryz.prog 198 #[.string s] w fun e w' => e = .returned (.bool (subB s)) ∧ w = w' := by
 unfold subB
 by_cases h1 : 1 ≤ s.size
 · by_cases h2 : s.size ≤ 24
   all_goals
    go_enter Tryz.func198, Tryz.ntmps198
    go_wp2
    go_ret
    exact ⟨ret_bool (by first | (simp; done) | (simp; omega) | (rw [Bool.eq_iff_iff]; simp; omega)), rfl⟩
 · go_enter Tryz.func198, Tryz.ntmps198
   go_wp2
   go_ret
   exact ⟨ret_bool (by first | (simp; done) | (simp; omega) | (rw [Bool.eq_iff_iff]; simp; omega)), rfl⟩
theorem SubsOk1_any (s : ByteArray) (w : World) (hs : s.size ≤ 1048576) :
 Calls Tryz.prog 200 #[.string s] w fun e w' => e = .returned (.bool (!subB s)) ∧ w = w' := by
 have HK := Lib.hid (SubOk_any s w hs)
 generalize subB s = x at *
 go_enter Tryz.func200, Tryz.ntmps200
 go_wp2_with fail
 refine HK.out.mono ?_
 rintro e w' ⟨rfl, rfl⟩
 go_wp2_with fail
 go_ret
 exact ⟨rfl, rfl⟩
def idxS (p : ByteArray → Bool) : List ByteArray → Nat → Int
 | [], _ => -1
 | d :: r, k => if p d = true then k else idxS p r (k + 1)
theorem idxS_step (p : ByteArray → Bool) (l : List ByteArray) (k : Nat) (h : k < l.length) : idxS p (l.drop k) k = if p (l.getD k ByteArray.empty) = true then (k : Int) else idxS p (l.drop (k + 1)) (k + 1) := by
 rw [List.drop_eq_getElem_cons h]
 simp [idxS, List.getD_eq_getElem?_getD, List.getElem?_eq_getElem h]
theorem idxS_any (p : ByteArray → Bool) : ∀ (l : List ByteArray) (k : Nat), decide (0 ≤ idxS p l k) = l.any p
 | [], k => by simp [idxS]
 | d :: r, k => by
   unfold idxS
   rw [List.any_cons, ← idxS_any p r (k + 1)]
   by_cases h : p d = true
   · simp [h]
   · simp [h]
set_option maxHeartbeats 400000 in
theorem IndexFuncS_any (g : Nat) (lb : Array Value) (p : ByteArray → Bool) (A : Option Addr) (n c : Nat) (ss : List ByteArray) (w : World) (h : Strs w w.heap.size A n ss) (hn : n ≤ 1048576)
 (eg : ∀ args w, (callFunc g args).run Tryz.prog w = .ok (.enter g args) w)
 (hg : ∀ s ∈ ss, ∀ W, Below w.heap.size w W → Calls Tryz.prog g (#[.string s] ++ lb) W fun e w' => e = .returned (.bool (p s)) ∧ Below W.heap.size W w') :
 Calls Tryz.prog 223 #[.slice A n c, .func (.func g) #[] lb] w fun e w' => e = .returned (.int .i64 (idxS p ss 0)) ∧ Below w.heap.size w w' := by
 have Hh := Lib.hid h
 have Hlen := Lib.hid h.1
 have Hg := Lib.hid hg
 clear h hg
 go_enter Tryz.func223, Tryz.ntmps223
 go_wp2_with fail
 go_loopw [8] (fun i wr => ∃ k : Nat, k ≤ n ∧ i = .int .i64 k ∧ Below w.heap.size w wr ∧ Hid (idxS p ss 0 = idxS p (ss.drop k) k)) (fun i _ => n - (intOf i).toNat)
 case atStart => exact ⟨0, Nat.zero_le _, rfl, Below.refl _ _, rfl⟩
 case round =>
  obtain ⟨k, hk, rfl, hb, hS⟩ := hrel
  have HB := Lib.hid hb
  clear hb
  by_cases hlt : k < n
  · obtain ⟨b, o, rfl, hbB, hcell⟩ := (Hh.out.later HB.out).2 (by omega)
    have hck := hcell k hlt
    clear hcell
    have hl : k < ss.length := by rw [Hlen.out]; exact hlt
    have HS := Lib.hid (idxS_step p ss k hl)
    have HK := Lib.hid (Hg.out (ss.getD k ByteArray.empty) (by rw [List.getD_eq_getElem?_getD, List.getElem?_eq_getElem hl]; simp) wr HB.out)
    clear hl
    generalize ss.getD k ByteArray.empty = s at *
    generalize hx : p s = x at *
    have HX := Lib.hid hx
    clear hx
    go_wp2_with fail
    refine HK.out.mono ?_
    rintro e w' ⟨rfl, hb1⟩
    have HB1 := Lib.hid (HB.out.later hb1)
    clear hb1
    cases x
    · go_wp2_with fail
      go_roundw
      case rel => exact ⟨k + 1, by omega, by go_num, HB1.out, by unfold Hid; rw [hS.out, HS.out]; rfl⟩
      case measure => simp [intOf]; omega
    · go_wp2_with fail
      go_ret
      exact ⟨ret_int (by rw [hS.out, HS.out]; rfl), HB1.out⟩
  · have HE : Hid (idxS p ss 0 = -1) := by unfold Hid; rw [hS.out, List.drop_of_length_le (by rw [Hlen.out]; omega)]; rfl
    go_wp2_with fail
    go_ret
    exact ⟨ret_int HE.out.symm, HB.out⟩
set_option maxHeartbeats 400000 in
theorem ContainsFuncS_any (g : Nat) (lb : Array Value) (p : ByteArray → Bool) (A : Option Addr) (n c : Nat) (ss : List ByteArray) (w : World) (h : Strs w w.heap.size A n ss) (hn : n ≤ 1048576)
 (eg : ∀ args w, (callFunc g args).run Tryz.prog w = .ok (.enter g args) w)
 (hg : ∀ s ∈ ss, ∀ W, Below w.heap.size w W → Calls Tryz.prog g (#[.string s] ++ lb) W fun e w' => e = .returned (.bool (p s)) ∧ Below W.heap.size W w') :
 Calls Tryz.prog 141 #[.slice A n c, .func (.func g) #[] lb] w fun e w' => e = .returned (.bool (ss.any p)) ∧ Below w.heap.size w w' := by
 have HK := Lib.hid (IndexFuncS_any g lb p A n c ss w h hn eg hg)
 have hE := idxS_any p ss 0
 clear h hg eg
 generalize ss.any p = R at *
 generalize idxS p ss 0 = x at *
 have HE := Lib.hid hE
 clear hE
 go_enter Tryz.func141, Tryz.ntmps141
 go_wp2_with fail
 refine HK.out.mono ?_
 rintro e w' ⟨rfl, hb1⟩
 have HB1 := Lib.hid hb1
 clear hb1
 go_wp2_with fail
 go_ret
 exact ⟨ret_bool HE.out, HB1.out⟩
set_option maxHeartbeats 400000 in
theorem IndexFuncS_same (g : Nat) (lb : Array Value) (p : ByteArray → Bool) (A : Option Addr) (n c : Nat) (ss : List ByteArray) (w : World) (h : Strs w w.heap.size A n ss) (hn : n ≤ 1048576)
 (eg : ∀ args w, (callFunc g args).run Tryz.prog w = .ok (.enter g args) w)
 (hg : ∀ s ∈ ss, Calls Tryz.prog g (#[.string s] ++ lb) w fun e w' => e = .returned (.bool (p s)) ∧ w = w') :
 Calls Tryz.prog 223 #[.slice A n c, .func (.func g) #[] lb] w fun e w' => e = .returned (.int .i64 (idxS p ss 0)) ∧ w = w' := by
 have Hh := Lib.hid h
 have Hlen := Lib.hid h.1
 have Hg := Lib.hid hg
 clear h hg
 go_enter Tryz.func223, Tryz.ntmps223
 go_wp2_with fail
 go_loop [8] (fun i => ∃ k : Nat, k ≤ n ∧ i = .int .i64 k ∧ Hid (idxS p ss 0 = idxS p (ss.drop k) k)) (fun i => n - (intOf i).toNat)
 case atStart => exact ⟨0, Nat.zero_le _, rfl, rfl⟩
 case round =>
  obtain ⟨k, hk, rfl, hS⟩ := hrel
  by_cases hlt : k < n
  · obtain ⟨b, o, rfl, hbB, hcell⟩ := Hh.out.2 (by omega)
    have hck := hcell k hlt
    clear hcell
    have hl : k < ss.length := by rw [Hlen.out]; exact hlt
    have HS := Lib.hid (idxS_step p ss k hl)
    have HK := Lib.hid (Hg.out (ss.getD k ByteArray.empty) (by rw [List.getD_eq_getElem?_getD, List.getElem?_eq_getElem hl]; simp))
    clear hl
    generalize ss.getD k ByteArray.empty = s at *
    generalize hx : p s = x at *
    have HX := Lib.hid hx
    clear hx
    go_wp2_with fail
    refine HK.out.mono ?_
    rintro e w' ⟨rfl, rfl⟩
    cases x
    · go_wp2_with fail
      go_round
      case rel => exact ⟨k + 1, by omega, by go_num, by unfold Hid; rw [hS.out, HS.out]; rfl⟩
      case measure => simp [intOf]; omega
    · go_wp2_with fail
      go_ret
      exact ⟨ret_int (by rw [hS.out, HS.out]; rfl), rfl⟩
  · have HE : Hid (idxS p ss 0 = -1) := by unfold Hid; rw [hS.out, List.drop_of_length_le (by rw [Hlen.out]; omega)]; rfl
    go_wp2_with fail
    go_ret
    exact ⟨ret_int HE.out.symm, rfl⟩
set_option maxHeartbeats 400000 in
theorem ContainsFuncS_same (g : Nat) (lb : Array Value) (p : ByteArray → Bool) (A : Option Addr) (n c : Nat) (ss : List ByteArray) (w : World) (h : Strs w w.heap.size A n ss) (hn : n ≤ 1048576)
 (eg : ∀ args w, (callFunc g args).run Tryz.prog w = .ok (.enter g args) w)
 (hg : ∀ s ∈ ss, Calls Tryz.prog g (#[.string s] ++ lb) w fun e w' => e = .returned (.bool (p s)) ∧ w = w') :
 Calls Tryz.prog 141 #[.slice A n c, .func (.func g) #[] lb] w fun e w' => e = .returned (.bool (ss.any p)) ∧ w = w' := by
 have HK := Lib.hid (IndexFuncS_same g lb p A n c ss w h hn eg hg)
 have hE := idxS_any p ss 0
 clear h hg eg
 generalize ss.any p = R at *
 generalize idxS p ss 0 = x at *
 have HE := Lib.hid hE
 clear hE
 go_enter Tryz.func141, Tryz.ntmps141
 go_wp2_with fail
 refine HK.out.mono ?_
 rintro e w' ⟨rfl, rfl⟩
 go_wp2_with fail
 go_ret
 exact ⟨ret_bool HE.out, rfl⟩
theorem any_not (l : List ByteArray) : (!(l.any fun s => !subB s)) = l.all subB := by
 induction l with
 | nil => rfl
 | cons a r ih => simp only [List.any_cons, List.all_cons, Bool.not_or, Bool.not_not, ih]
set_option maxHeartbeats 400000 in
theorem SubsOk_any (A : Option Addr) (n c : Nat) (ss : List ByteArray) (w : World) (h : Strs w w.heap.size A n ss) (hn : n ≤ 1048576) (hz : ∀ s ∈ ss, s.size ≤ 1048576) :
 Calls Tryz.prog 107 #[.slice A n c] w fun e w' => e = .returned (.bool (subsB ss)) ∧ w = w' := by
 have eg : ∀ args w, (callFunc 200 args).run Tryz.prog w = .ok (.enter 200 args) w := enters_of Tryz.func200 (by kernel_rfl) rfl
 have HK := Lib.hid (ContainsFuncS_same 200 #[] (fun s => !subB s) A n c ss w h hn eg (fun s hs => SubsOk1_any s w (hz s hs)))
 have hE : subsB ss = (decide (n ≤ 4) && !(ss.any fun s => !subB s)) := by unfold subsB; rw [any_not, h.1]
 clear h hz eg
 generalize subsB ss = R at *
 generalize (ss.any fun s => !subB s) = x at *
 by_cases h4 : n ≤ 4
 · have HE : Hid ((!x) = R) := by unfold Hid; rw [hE]; simp [h4]
   clear hE
   go_enter Tryz.func107, Tryz.ntmps107
   go_wp2_with fail
   refine HK.out.mono ?_
   rintro e w' ⟨rfl, rfl⟩
   go_wp2_with fail
   go_ret
   exact ⟨ret_bool HE.out, rfl⟩
 · have HE : Hid (false = R) := by unfold Hid; rw [hE]; simp [h4]
   clear hE
   go_enter Tryz.func107, Tryz.ntmps107
   go_wp2_with fail
   go_ret
   exact ⟨ret_bool HE.out, rfl⟩
set_option maxHeartbeats 400000 in
theorem locationOk_any (nm : ByteArray) (A : Option Addr) (n c : Nat) (ss : List ByteArray) (w : World) (hs : nm.size ≤ 1048576) (h : Strs w w.heap.size A n ss) (hn : n ≤ 1048576) (hz : ∀ s ∈ ss, s.size ≤ 1048576) :
 Calls Tryz.prog 74 #[.string nm, .slice A n c] w fun e w' => e = .returned (.bool (thingB nm ss)) ∧ w = w' := by
 have HK1 := Lib.hid (NameOk_any nm w hs)
 have HK2 := Lib.hid (SubsOk_any A n c ss w h hn hz)
 have HR : Hid (thingB nm ss = (nameB nm && subsB ss)) := rfl
 clear h hz
 generalize thingB nm ss = R at *
 generalize nameB nm = x at *
 generalize subsB ss = y at *
 go_enter Tryz.func74, Tryz.ntmps74
 go_wp2_with fail
 refine HK1.out.mono ?_
 rintro e w1 ⟨rfl, rfl⟩
 cases x
 · go_wp2_with fail
   go_ret
   exact ⟨ret_bool (by rw [HR.out]; rfl), rfl⟩
 · go_wp2_with fail
   refine HK2.out.mono ?_
   rintro e w1 ⟨rfl, rfl⟩
   go_wp2_with fail
   go_ret
   exact ⟨ret_bool (by rw [HR.out]; rfl), rfl⟩
theorem jobOk_any (n : Int) (w : World) :
 Calls Tryz.prog 62 #[.int .i64 n] w fun e w' => e = .returned (.bool (inB n 1 4)) ∧ w = w' := by
 have HK := Lib.hid (within_any n 1 4 w)
 have HE : Hid ((decide (1 ≤ n) && decide (n ≤ 4)) = inB n 1 4) := rfl
 generalize (decide (1 ≤ n) && decide (n ≤ 4)) = x at *
 go_enter Tryz.func62, Tryz.ntmps62
 go_wp2_with fail
 refine HK.out.mono ?_
 rintro e w1 ⟨rfl, rfl⟩
 go_wp2_with fail
 go_ret
 exact ⟨ret_bool HE.out, rfl⟩
end Go.Proofs.YtlicffeicmoifaaGreatDoor
namespace Go.Proofs.YtlicffeicmoifaaGreatDoor
open Go.RowKit
def cmpI (a b : Int) : Int := if a < b then -1 else if b < a then 1 else 0
def cmpS (a b : ByteArray) : Int := if Op.bytesLess a.toList b.toList = true then -1 else if a = b then 0 else 1
def colI (a b : ByteArray) : Int :=
 if (canonB a && canonB b) = true then cmpI (numS a.data.toList) (numS b.data.toList) else if canonB a = true then -1 else if canonB b = true then 1 else cmpS a b
def colL : List ByteArray → List ByteArray → Int
 | [], [] => 0
 | [], _ :: _ => -1
 | _ :: _, [] => 1
 | x :: r, y :: s => if colI x y = 0 then colL r s else colI x y
def orI (a b : Int) : Int := if a = 0 then b else a
def cmpLoc (n : ByteArray) (s : List ByteArray) (n' : ByteArray) (s' : List ByteArray) : Int := orI (cmpS n n') (colL s s')
theorem isNaNI_any (x : Int) (w : World) : Calls Tryz.prog 210 #[.int .i64 x] w fun e w' => e = .returned (.bool false) ∧ w = w' := by
 have hb : (x != x) = false := by simp
 go_enter Tryz.func210, Tryz.ntmps210
 go_wp2_with fail
 go_ret
 exact ⟨rfl, rfl⟩
theorem isNaNS_any (x : ByteArray) (w : World) : Calls Tryz.prog 241 #[.string x] w fun e w' => e = .returned (.bool false) ∧ w = w' := by
 go_enter Tryz.func241, Tryz.ntmps241
 go_wp2_with fail
 go_ret
 exact ⟨rfl, rfl⟩
set_option maxHeartbeats 400000 in
theorem cmpI_any (a b : Int) (w : World) : Calls Tryz.prog 120 #[.int .i64 a, .int .i64 b] w fun e w' => e = .returned (.int .i64 (cmpI a b)) ∧ w = w' := by
 have H1 := Lib.hid (isNaNI_any a)
 have H2 := Lib.hid (isNaNI_any b)
 have HR : Hid (cmpI a b = if a < b then -1 else if b < a then 1 else 0) := rfl
 generalize cmpI a b = R at *
 by_cases h1 : a < b
 · have HE : Hid (R = -1) := by unfold Hid; rw [HR.out, if_pos h1]
   go_enter Tryz.func120, Tryz.ntmps120
   go_wp2_with fail
   refine (H1.out _).mono ?_
   rintro e w1 ⟨rfl, rfl⟩
   go_wp2_with fail
   refine (H2.out _).mono ?_
   rintro e w1 ⟨rfl, rfl⟩
   go_wp2_with fail
   go_ret
   exact ⟨ret_int HE.out.symm, rfl⟩
 · by_cases h2 : b < a
   · have HE : Hid (R = 1) := by unfold Hid; rw [HR.out, if_neg h1, if_pos h2]
     go_enter Tryz.func120, Tryz.ntmps120
     go_wp2_with fail
     refine (H1.out _).mono ?_
     rintro e w1 ⟨rfl, rfl⟩
     go_wp2_with fail
     refine (H2.out _).mono ?_
     rintro e w1 ⟨rfl, rfl⟩
     go_wp2_with fail
     go_ret
     exact ⟨ret_int HE.out.symm, rfl⟩
   · have HE : Hid (R = 0) := by unfold Hid; rw [HR.out, if_neg h1, if_neg h2]
     go_enter Tryz.func120, Tryz.ntmps120
     go_wp2_with fail
     refine (H1.out _).mono ?_
     rintro e w1 ⟨rfl, rfl⟩
     go_wp2_with fail
     refine (H2.out _).mono ?_
     rintro e w1 ⟨rfl, rfl⟩
     go_wp2_with fail
     go_ret
     exact ⟨ret_int HE.out.symm, rfl⟩
set_option maxHeartbeats 400000 in
theorem cmpS_any (a b : ByteArray) (w : World) : Calls Tryz.prog 175 #[.string a, .string b] w fun e w' => e = .returned (.int .i64 (cmpS a b)) ∧ w = w' := by
 have H1 := Lib.hid (isNaNS_any a)
 have H2 := Lib.hid (isNaNS_any b)
 have HR : Hid (cmpS a b = if Op.bytesLess a.toList b.toList = true then -1 else if a = b then 0 else 1) := rfl
 generalize cmpS a b = R at *
 cases h1 : Op.bytesLess a.toList b.toList
 · by_cases h2 : a = b
   · have HE : Hid (R = 0) := by unfold Hid; rw [HR.out, h1, if_pos h2]; rfl
     subst h2
     go_enter Tryz.func175, Tryz.ntmps175
     go_wp2_with fail
     refine (H1.out _).mono ?_
     rintro e w1 ⟨rfl, rfl⟩
     go_wp2_with fail
     refine (H2.out _).mono ?_
     rintro e w1 ⟨rfl, rfl⟩
     go_wp2_with fail
     go_ret
     exact ⟨ret_int HE.out.symm, rfl⟩
   · have HE : Hid (R = 1) := by unfold Hid; rw [HR.out, h1, if_neg h2]; rfl
     have hb := str_bne h2
     have hb' := str_beq h2
     clear h2
     go_enter Tryz.func175, Tryz.ntmps175
     go_wp2_with fail
     refine (H1.out _).mono ?_
     rintro e w1 ⟨rfl, rfl⟩
     go_wp2_with fail
     refine (H2.out _).mono ?_
     rintro e w1 ⟨rfl, rfl⟩
     go_wp2_with fail
     go_ret
     exact ⟨ret_int HE.out.symm, rfl⟩
 · have HE : Hid (R = -1) := by unfold Hid; rw [HR.out, h1]; rfl
   go_enter Tryz.func175, Tryz.ntmps175
   go_wp2_with fail
   refine (H1.out _).mono ?_
   rintro e w1 ⟨rfl, rfl⟩
   go_wp2_with fail
   refine (H2.out _).mono ?_
   rintro e w1 ⟨rfl, rfl⟩
   go_wp2_with fail
   go_ret
   exact ⟨ret_int HE.out.symm, rfl⟩
set_option maxHeartbeats 1000000 in
theorem collate_any (a b : ByteArray) (w : World) (htab : tabT w) (ha : a.size ≤ 1048576) (hb : b.size ≤ 1048576) :
 Calls Tryz.prog 243 #[.string a, .string b] w fun e w' => e = .returned (.int .i64 (colI a b)) ∧ Below w.heap.size w w' := by
 have HK1 := Lib.hid (fun W hW => IsCanon_any a W hW ha)
 have HK2 := Lib.hid (fun W hW => IsCanon_any b W hW hb)
 have HK3 := Lib.hid (fun W => NumOf_any a W ha)
 have HK4 := Lib.hid (fun W => NumOf_any b W hb)
 rw [numI_eq] at HK3 HK4
 have HT := Lib.hid htab
 have HR : Hid (colI a b = if (canonB a && canonB b) = true then cmpI (numS a.data.toList) (numS b.data.toList) else if canonB a = true then -1 else if canonB b = true then 1 else cmpS a b) := rfl
 clear htab
 generalize colI a b = R at *
 generalize canonB a = x at *
 generalize canonB b = y at *
 generalize numS a.data.toList = p at *
 generalize numS b.data.toList = q at *
 go_enter Tryz.func243, Tryz.ntmps243
 go_wp2_with fail
 refine (HK1.out _ HT.out).mono ?_
 rintro e w1 ⟨rfl, hb1⟩
 have HT1 := Lib.hid (tab_later HT.out hb1)
 have HB1 := Lib.hid hb1
 clear hb1
 go_wp2_with fail
 refine (HK2.out _ HT1.out).mono ?_
 rintro e w2 ⟨rfl, hb2⟩
 have HB2 := Lib.hid (HB1.out.later hb2)
 clear hb2
 cases x
 · cases y
   · have HE : Hid (R = cmpS a b) := HR.out
     go_wp2_with fail
     refine (cmpS_any _ _ _).mono ?_
     rintro e w3 ⟨rfl, rfl⟩
     go_wp2_with fail
     go_ret
     exact ⟨ret_int HE.out.symm, HB2.out⟩
   · have HE : Hid (R = 1) := HR.out
     go_wp2_with fail
     go_ret
     exact ⟨ret_int HE.out.symm, HB2.out⟩
 · cases y
   · have HE : Hid (R = -1) := HR.out
     go_wp2_with fail
     go_ret
     exact ⟨ret_int HE.out.symm, HB2.out⟩
   · have HE : Hid (R = cmpI p q) := HR.out
     go_wp2_with fail
     refine (HK3.out _).mono ?_
     rintro e w3 ⟨rfl, hb3⟩
     have HB3 := Lib.hid (HB2.out.later hb3)
     clear hb3
     go_wp2_with fail
     refine (HK4.out _).mono ?_
     rintro e w4 ⟨rfl, hb4⟩
     have HB4 := Lib.hid (HB3.out.later hb4)
     clear hb4
     go_wp2_with fail
     refine (cmpI_any _ _ _).mono ?_
     rintro e w5 ⟨rfl, rfl⟩
     go_wp2_with fail
     go_ret
     exact ⟨ret_int HE.out.symm, HB4.out⟩
theorem colL_step (a b : List ByteArray) (k : Nat) (h : k < a.length) (h' : k < b.length) :
 colL (a.drop k) (b.drop k) = if colI (a.getD k ByteArray.empty) (b.getD k ByteArray.empty) = 0 then colL (a.drop (k + 1)) (b.drop (k + 1)) else colI (a.getD k ByteArray.empty) (b.getD k ByteArray.empty) := by
 rw [List.drop_eq_getElem_cons h, List.drop_eq_getElem_cons h']
 simp [colL, List.getD_eq_getElem?_getD, List.getElem?_eq_getElem h, List.getElem?_eq_getElem h']
theorem colL_end : ∀ (a b : List ByteArray), a = [] → colL a b = if a.length < b.length then -1 else 0
 | [], [], _ => rfl
 | [], _ :: _, _ => by simp [colL]
 | _ :: _, _, h => by simp at h
theorem colL_end' : ∀ (a b : List ByteArray), a ≠ [] → b = [] → colL a b = 1
 | [], _, h, _ => absurd rfl h
 | _ :: _, [], _, _ => rfl
 | _ :: _, _ :: _, _, h => by simp at h
set_option maxHeartbeats 1000000 in
theorem CompareFuncS_any (A A' : Option Addr) (n c n' c' : Nat) (ss ts : List ByteArray) (w : World) (htab : tabT w) (h : Strs w w.heap.size A n ss) (h' : Strs w w.heap.size A' n' ts) (hn : n ≤ 1048576) (hn' : n' ≤ 1048576)
 (hz : ∀ s ∈ ss, s.size ≤ 1048576) (hz' : ∀ s ∈ ts, s.size ≤ 1048576) :
 Calls Tryz.prog 242 #[.slice A n c, .slice A' n' c', .func (.func 243) #[] #[]] w fun e w' => e = .returned (.int .i64 (colL ss ts)) ∧ Below w.heap.size w w' := by
 have eg : ∀ args w, (callFunc 243 args).run Tryz.prog w = .ok (.enter 243 args) w := enters_of Tryz.func243 (by kernel_rfl) rfl
 have Hh := Lib.hid h
 have Hh' := Lib.hid h'
 have Hlen := Lib.hid h.1
 have Hlen' := Lib.hid h'.1
 have Hz := Lib.hid hz
 have Hz' := Lib.hid hz'
 have HT := Lib.hid htab
 clear h h' hz hz' htab
 go_enter Tryz.func242, Tryz.ntmps242
 go_wp2_with fail
 go_loopw [13] (fun i wr => ∃ (k : Nat), k ≤ n ∧ k ≤ n' ∧ i = .int .i64 k ∧ Below w.heap.size w wr ∧ Hid (colL ss ts = colL (ss.drop k) (ts.drop k))) (fun i _ => n - (intOf i).toNat)
 case atStart => exact ⟨0, Nat.zero_le _, Nat.zero_le _, rfl, Below.refl _ _, rfl⟩
 case round =>
  obtain ⟨k, hk, hk', rfl, hb, hS⟩ := hrel
  have HB := Lib.hid hb
  clear hb
  by_cases hlt : k < n
  · by_cases hlt' : k < n'
    · obtain ⟨b, o, rfl, hbB, hcell⟩ := (Hh.out.later HB.out).2 (by omega)
      obtain ⟨b', o', rfl, hbB', hcell'⟩ := (Hh'.out.later HB.out).2 (by omega)
      have hck := hcell k hlt
      have hck' := hcell' k hlt'
      clear hcell hcell'
      have HS := Lib.hid (colL_step ss ts k (by rw [Hlen.out]; exact hlt) (by rw [Hlen'.out]; exact hlt'))
      have HK := Lib.hid (collate_any (ss.getD k ByteArray.empty) (ts.getD k ByteArray.empty) wr (tab_later HT.out HB.out) (strs_sz Hz.out k (by rw [Hlen.out]; exact hlt)) (strs_sz Hz'.out k (by rw [Hlen'.out]; exact hlt')))
      generalize ss.getD k ByteArray.empty = s at *
      generalize ts.getD k ByteArray.empty = t at *
      generalize colI s t = x at *
      go_wp2_with fail
      refine HK.out.mono ?_
      rintro e w1 ⟨rfl, hb1⟩
      have HB1 := Lib.hid (HB.out.later hb1)
      clear hb1
      by_cases hx : x = 0
      · subst hx
        go_wp2_with fail
        go_roundw
        case rel => exact ⟨k + 1, by omega, by omega, by go_num, HB1.out, by unfold Hid; rw [hS.out, HS.out]; simp⟩
        case measure => simp [intOf]; omega
      · have hbx : (x != 0) = true := by rw [bne_iff_ne]; exact hx
        have HE : Hid (colL ss ts = x) := by unfold Hid; rw [hS.out, HS.out, if_neg hx]
        clear hx
        go_wp2_with fail
        go_ret
        exact ⟨ret_int HE.out.symm, HB1.out⟩
    · have HE : Hid (colL ss ts = 1) := by
       unfold Hid
       rw [hS.out, colL_end' _ _ (fun he => by have := congrArg List.length he; rw [List.length_drop, Hlen.out] at this; simp at this; omega) (List.drop_of_length_le (by rw [Hlen'.out]; omega))]
      obtain ⟨b, o, rfl, hbB, hcell⟩ := (Hh.out.later HB.out).2 (by omega)
      have hck := hcell k hlt
      clear hcell
      go_wp2_with fail
      go_ret
      exact ⟨ret_int HE.out.symm, HB.out⟩
  · have HE : Hid (colL ss ts = if n < n' then -1 else 0) := by
     unfold Hid
     obtain rfl : k = n := by omega
     rw [hS.out, colL_end _ _ (List.drop_of_length_le (by rw [Hlen.out]; omega)), List.length_drop, List.length_drop, Hlen.out, Hlen'.out]
     by_cases hc : k < n'
     · rw [if_pos (by omega), if_pos hc]
     · rw [if_neg (by omega), if_neg hc]
    by_cases hc : n < n'
    all_goals
     go_wp2_with fail
     go_ret
     exact ⟨ret_int (by rw [HE.out]; first | rw [if_pos hc] | rw [if_neg hc]), HB.out⟩
theorem collateLists_any (A A' : Option Addr) (n c n' c' : Nat) (ss ts : List ByteArray) (w : World) (htab : tabT w) (h : Strs w w.heap.size A n ss) (h' : Strs w w.heap.size A' n' ts) (hn : n ≤ 1048576) (hn' : n' ≤ 1048576)
 (hz : ∀ s ∈ ss, s.size ≤ 1048576) (hz' : ∀ s ∈ ts, s.size ≤ 1048576) :
 Calls Tryz.prog 176 #[.slice A n c, .slice A' n' c'] w fun e w' => e = .returned (.int .i64 (colL ss ts)) ∧ Below w.heap.size w w' := by
 have HK := Lib.hid (CompareFuncS_any A A' n c n' c' ss ts w htab h h' hn hn' hz hz')
 clear htab h h' hz hz'
 generalize colL ss ts = x at *
 go_enter Tryz.func176, Tryz.ntmps176
 go_wp2_with fail
 refine HK.out.mono ?_
 rintro e w1 ⟨rfl, hb1⟩
 have HB1 := Lib.hid hb1
 clear hb1
 go_wp2_with fail
 go_ret
 exact ⟨rfl, HB1.out⟩
set_option maxHeartbeats 400000 in
theorem Or2_any (g : Nat) (x y : Int) (w : World) (c0 : w.cell? ⟨g, 0, none⟩ = some (.int .i64 x)) (c1 : w.cell? ⟨g, 1, none⟩ = some (.int .i64 y)) :
 Calls Tryz.prog 119 #[.slice (some ⟨g, 0, none⟩) 2 2] w fun e w' => e = .returned (.int .i64 (orI x y)) ∧ w = w' := by
 have HR : Hid (orI x y = if x = 0 then y else x) := rfl
 generalize orI x y = R at *
 go_enter Tryz.func119, Tryz.ntmps119
 go_wp2_with fail
 refine wp_loop_rounds 3 ?_
 rw [rounds_succ]
 by_cases hx : x = 0
 · subst hx
   go_wp2_with fail
   rw [rounds_succ]
   by_cases hy : y = 0
   · subst hy
     go_wp2_with fail
     rw [rounds_succ]
     go_wp2_with fail
     go_ret
     exact ⟨ret_int (by rw [HR.out]; rfl), rfl⟩
   · have hb : (y != 0) = true := by rw [bne_iff_ne]; exact hy
     clear hy
     go_wp2_with fail
     go_ret
     exact ⟨ret_int (by rw [HR.out]; rfl), rfl⟩
 · have hb : (x != 0) = true := by rw [bne_iff_ne]; exact hx
   have HE : Hid (R = x) := by unfold Hid; rw [HR.out, if_neg hx]
   clear hx
   go_wp2_with fail
   go_ret
   exact ⟨ret_int HE.out.symm, rfl⟩
end Go.Proofs.YtlicffeicmoifaaGreatDoor
namespace Go.Proofs.YtlicffeicmoifaaGreatDoor
open Go.RowKit
def idxF {α : Type} (p : α → Bool) : List α → Nat → Int
 | [], _ => -1
 | d :: r, k => if p d = true then k else idxF p r (k + 1)
theorem idxF_step {α : Type} [Inhabited α] (p : α → Bool) (l : List α) (k : Nat) (h : k < l.length) : idxF p (l.drop k) k = if p (l.getD k default) = true then (k : Int) else idxF p (l.drop (k + 1)) (k + 1) := by
 rw [List.drop_eq_getElem_cons h]
 simp [idxF, List.getD_eq_getElem?_getD, List.getElem?_eq_getElem h]
end Go.Proofs.YtlicffeicmoifaaGreatDoor
