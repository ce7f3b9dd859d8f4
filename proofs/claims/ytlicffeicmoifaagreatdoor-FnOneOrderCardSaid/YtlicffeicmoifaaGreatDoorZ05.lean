import Derived.Test.YtlicffeicmoifaaGreatDoorZ03
import Derived.Test.YtlicffeicmoifaaGreatDoorZ00
import Derived.Deep.RegionHeld3
set_option linter.unusedSimpArgs false
namespace Go.Proofs.YtlicffeicmoifaaGreatDoor
open Go.RowKit
def letterB (c : UInt8) : Bool := (decide (97 ≤ c.toNat) && decide (c.toNat ≤ 122)) || (decide (65 ≤ c.toNat) && decide (c.toNat ≤ 90))
def nameL : List UInt8 → Bool
 | [] => false
 | c :: r => (letterB c || decide (c = 37)) && r.all (fun x => letterB x || isD x)
def nameB (s : ByteArray) : Bool := decide (s.size ≤ 8) && nameL s.data.toList
def subB (s : ByteArray) : Bool := decide (1 ≤ s.size) && decide (s.size ≤ 24)
def subsB (l : List ByteArray) : Bool := decide (l.length ≤ 4) && l.all subB
def beforeB (a b : ByteArray) : Bool := if (canonB a && canonB b) = true then decide (numS a.data.toList < numS b.data.toList) else if (canonB a != canonB b) = true then canonB a else Op.bytesLess a.toList b.toList
set_option maxHeartbeats 400000 in
theorem l02Letter_any (c : UInt8) (w : World) :
 Calls Tryz.prog 237 #[.int .u8 c.toNat] w fun e w' => e = .returned (.bool (letterB c)) ∧ w = w' := by
 unfold letterB
 generalize c.toNat = n
 by_cases h1 : 97 ≤ n
 · by_cases h2 : n ≤ 122
   all_goals
    go_enter Tryz.func237, Tryz.ntmps237
    go_wp2
    all_goals
     go_ret
     exact ⟨ret_bool (by first | (simp; done) | (simp; omega) | (rw [Bool.eq_iff_iff]; simp; omega)), rfl⟩
 · by_cases h3 : 65 ≤ n
   · by_cases h4 : n ≤ 90
     all_goals
      go_enter Tryz.func237, Tryz.ntmps237
      go_wp2
      all_goals
       go_ret
       exact ⟨ret_bool (by first | (simp; done) | (simp; omega) | (rw [Bool.eq_iff_iff]; simp; omega)), rfl⟩
   · go_enter Tryz.func237, Tryz.ntmps237
     go_wp2
     all_goals
      go_ret
      exact ⟨ret_bool (by first | (simp; done) | (simp; omega) | (rw [Bool.eq_iff_iff]; simp; omega)), rfl⟩
set_option maxHeartbeats 400000 in
theorem l02Sub_any (s : ByteArray) (w : World) (hs : s.size ≤ 1048576) :
 Calls Tryz.prog 203 #[.string s] w fun e w' => e = .returned (.bool (subB s)) ∧ w = w' := by
 unfold subB
 by_cases h1 : 1 ≤ s.size
 · by_cases h2 : s.size ≤ 24
   all_goals
    go_enter Tryz.func203, Tryz.ntmps203
    go_wp2
    go_ret
    exact ⟨ret_bool (by first | (simp; done) | (simp; omega) | (rw [Bool.eq_iff_iff]; simp; omega)), rfl⟩
 · go_enter Tryz.func203, Tryz.ntmps203
   go_wp2
   go_ret
   exact ⟨ret_bool (by first | (simp; done) | (simp; omega) | (rw [Bool.eq_iff_iff]; simp; omega)), rfl⟩
theorem all_drop' {α : Type} (p : α → Bool) (l : List α) (k : Nat) (h : k < l.length) : (l.drop k).all p = (p l[k] && (l.drop (k + 1)).all p) := by
 rw [List.drop_eq_getElem_cons h]; rfl
set_option maxHeartbeats 400000 in
theorem l02Subs_any (A : Option Addr) (n c : Nat) (ss : List ByteArray) (w : World) (h : Strs w w.heap.size A n ss) (hn : n ≤ 1048576) (hz : ∀ s ∈ ss, s.size ≤ 1048576) :
 Calls Tryz.prog 205 #[.slice A n c] w fun e w' => e = .returned (.bool (subsB ss)) ∧ w = w' := by
 have Hlen := Lib.hid h.1
 have HC := Lib.hid h.2
 have Hz := Lib.hid hz
 clear h hz
 by_cases h4 : 4 < n
 · have HE : Hid (subsB ss = false) := by unfold Hid subsB; rw [Hlen.out, decide_eq_false (by omega)]; rfl
   go_enter Tryz.func205, Tryz.ntmps205
   go_wp2_with fail
   go_ret
   exact ⟨ret_bool HE.out.symm, rfl⟩
 · have HE : Hid (subsB ss = ss.all subB) := by unfold Hid subsB; rw [Hlen.out, decide_eq_true (by omega)]; rfl
   go_enter Tryz.func205, Tryz.ntmps205
   go_wp2_with fail
   go_loop [3] (fun i => ∃ k : Nat, k ≤ n ∧ i = .int .i64 k ∧ Hid (ss.all subB = (ss.drop k).all subB)) (fun i => n - (intOf i).toNat)
   case atStart => exact ⟨0, Nat.zero_le _, rfl, rfl⟩
   case round =>
    obtain ⟨k, hk, rfl, hS⟩ := hrel
    by_cases hlt : k < n
    · obtain ⟨b, o, rfl, hb, hcell⟩ := HC.out (by omega)
      have hck := hcell k hlt
      have hl : k < ss.length := by rw [Hlen.out]; exact hlt
      have HS : Hid ((ss.drop k).all subB = (subB (ss.getD k ByteArray.empty) && (ss.drop (k + 1)).all subB)) := by
       unfold Hid
       rw [all_drop' _ _ _ hl, List.getD_eq_getElem?_getD, List.getElem?_eq_getElem hl]; rfl
      have hsz := Hz.out (ss.getD k ByteArray.empty) (by rw [List.getD_eq_getElem?_getD, List.getElem?_eq_getElem hl]; simp)
      clear hcell hl
      generalize ss.getD k ByteArray.empty = s at *
      have HK := Lib.hid (l02Sub_any s w hsz)
      go_wp2_with fail
      refine HK.out.mono ?_
      rintro e w' ⟨rfl, rfl⟩
      cases hx : subB s
      · have HX := Lib.hid hx
        clear hx
        go_wp2_with fail
        go_ret
        exact ⟨ret_bool (by rw [HE.out, hS.out, HS.out, HX.out]; rfl), rfl⟩
      · have HX := Lib.hid hx
        clear hx
        go_wp2_with fail
        go_round
        case rel => exact ⟨k + 1, by omega, by go_num, by unfold Hid; rw [hS.out, HS.out, HX.out]; rfl⟩
        case measure => simp [intOf]; omega
    · go_wp2_with fail
      go_ret
      exact ⟨ret_bool (by rw [HE.out, hS.out, List.drop_of_length_le (by rw [Hlen.out]; omega)]; rfl), rfl⟩
theorem nameL_head (s : ByteArray) (h : 0 < s.size) : nameL s.data.toList = ((letterB s[0] || decide (s[0] = 37)) && (s.data.toList.drop 1).all (fun x => letterB x || isD x)) := by
 have := drop_cons s 0 h
 rw [List.drop_zero] at this
 rw [this]
 rfl
set_option maxHeartbeats 1000000 in
theorem l02Name_any (s : ByteArray) (w : World) (hs : s.size ≤ 1048576) :
 Calls Tryz.prog 168 #[.string s] w fun e w' => e = .returned (.bool (nameB s)) ∧ w = w' := by
 by_cases h1 : s.size < 1
 · have HE : Hid (nameB s = false) := by
    unfold Hid nameB
    rw [List.eq_nil_of_length_eq_zero (show s.data.toList.length = 0 by rw [← Lib.size_eq]; omega)]
    simp [nameL]
   go_enter Tryz.func168, Tryz.ntmps168
   go_wp2_with fail
   go_ret
   exact ⟨ret_bool HE.out.symm, rfl⟩
 · by_cases h8 : 8 < s.size
   · have HE : Hid (nameB s = false) := by unfold Hid nameB; rw [decide_eq_false (by omega)]; rfl
     go_enter Tryz.func168, Tryz.ntmps168
     go_wp2_with fail
     go_ret
     exact ⟨ret_bool HE.out.symm, rfl⟩
   · have h0 : 0 < s.size := by omega
     have HE : Hid (nameB s = ((letterB s[0] || decide (s[0] = 37)) && (s.data.toList.drop 1).all (fun x => letterB x || isD x))) := by
      unfold Hid nameB
      rw [decide_eq_true (by omega), nameL_head s h0]; rfl
     have HK0 := Lib.hid (l02Letter_any s[0])
     have hbe := byte_eq s[0] 37 (by omega)
     by_cases hf : (letterB s[0] || decide (s[0] = 37)) = true
     · have HF := Lib.hid hf
       have HE2 : Hid (nameB s = (s.data.toList.drop 1).all (fun x => letterB x || isD x)) := by unfold Hid; rw [HE.out, hf]; rfl
       have hbn : letterB s[0] = false → ((s[0].toNat : Int) != 37) = false := fun h => by
        rw [h] at hf
        have : s[0] = 37 := by simpa using hf
        rw [this]; rfl
       have HBN := Lib.hid hbn
       clear hbn hf hbe HE
       go_enter Tryz.func168, Tryz.ntmps168
       go_wp2_with fail
       refine (HK0.out _).mono ?_
       rintro e w' ⟨rfl, rfl⟩
       cases hl : letterB s[0]
       all_goals
        have hq := HBN.out
        first
          | (have hq2 := hq hl; clear hq)
          | clear hq
        clear hl HBN HF HK0
        go_wp2_with fail
        go_loop [3] (fun i => ∃ k : Nat, 1 ≤ k ∧ k ≤ s.size ∧ i = .int .i64 k ∧ Hid ((s.data.toList.drop 1).all (fun x => letterB x || isD x) = (s.data.toList.drop k).all (fun x => letterB x || isD x))) (fun i => s.size - (intOf i).toNat)
        case atStart => exact ⟨1, by omega, by omega, rfl, rfl⟩
        case round =>
         obtain ⟨k, hk1, hk, rfl, hS⟩ := hrel
         by_cases hlt : k < s.size
         · have HD := Lib.hid (drop_cons s k hlt)
           have HK1 := Lib.hid (l02Letter_any s[k])
           have HK2 := Lib.hid (l01Digit_any s[k])
           go_wp2_with fail
           refine (HK1.out _).mono ?_
           rintro e w' ⟨rfl, rfl⟩
           cases hl1 : letterB s[k]
           · have HL := Lib.hid hl1
             clear hl1
             go_wp2_with fail
             refine (HK2.out _).mono ?_
             rintro e w' ⟨rfl, rfl⟩
             cases hd1 : isD s[k]
             · have HD1 := Lib.hid hd1
               clear hd1
               go_wp2_with fail
               go_ret
               exact ⟨ret_bool (by rw [HE2.out, hS.out, HD.out, List.all_cons, HL.out, HD1.out]; rfl), rfl⟩
             · have HD1 := Lib.hid hd1
               clear hd1
               go_wp2_with fail
               go_round
               case rel => exact ⟨k + 1, by omega, by omega, by go_num, by unfold Hid; rw [hS.out, HD.out, List.all_cons, HD1.out]; simp⟩
               case measure => simp [intOf]; omega
           · have HL := Lib.hid hl1
             clear hl1
             go_wp2_with fail
             go_round
             case rel => exact ⟨k + 1, by omega, by omega, by go_num, by unfold Hid; rw [hS.out, HD.out, List.all_cons, HL.out]; simp⟩
             case measure => simp [intOf]; omega
         · go_wp2_with fail
           go_ret
           exact ⟨ret_bool (by rw [HE2.out, hS.out, drop_end s k (by omega)]; rfl), rfl⟩
     · have HE2 : Hid (nameB s = false) := by unfold Hid; rw [HE.out, Bool.not_eq_true _ |>.mp hf]; rfl
       have hl0 : letterB s[0] = false := by
        cases hx : letterB s[0]
        · rfl
        · rw [hx] at hf; simp at hf
       have hb2 : ((s[0].toNat : Int) != 37) = true := by
        rw [hl0] at hf
        have h37 : s[0] ≠ 37 := by simpa using hf
        have hx : ((s[0].toNat : Int) == 37) = false := by rw [decide_eq_false (by exact h37)] at hbe; exact hbe
        simp only [bne, hx]; rfl
       rw [hl0] at HK0
       clear hbe hf HE hl0
       go_enter Tryz.func168, Tryz.ntmps168
       go_wp2_with fail
       refine (HK0.out _).mono ?_
       rintro e w' ⟨rfl, rfl⟩
       go_wp2_with fail
       go_ret
       exact ⟨ret_bool HE2.out.symm, rfl⟩
set_option maxHeartbeats 1000000 in
theorem l02Before_any (a b : ByteArray) (w : World) (ha : a.size ≤ 1048576) (hb : b.size ≤ 1048576) :
 Calls Tryz.prog 300 #[.string a, .string b] w fun e w' => e = .returned (.bool (beforeB a b)) ∧ Below w.heap.size w w' := by
 have HK1 := Lib.hid (fun W => l01Canon_any a W ha)
 have HK2 := Lib.hid (fun W => l01Canon_any b W hb)
 have HK3 := Lib.hid (fun W => l01Of_any a W ha)
 have HK4 := Lib.hid (fun W => l01Of_any b W hb)
 have hR : beforeB a b = beforeB a b := rfl
 conv at hR => rhs; unfold beforeB
 generalize beforeB a b = R at *
 generalize canonB a = x at *
 generalize canonB b = y at *
 generalize numS a.data.toList = p at *
 generalize numS b.data.toList = q at *
 have HR := Lib.hid hR
 clear hR
 go_enter Tryz.func300, Tryz.ntmps300
 go_wp2_with fail
 refine (HK1.out _).mono ?_
 rintro e w1 ⟨rfl, hb1⟩
 have HB1 := Lib.hid hb1
 clear hb1
 go_wp2_with fail
 refine (HK2.out _).mono ?_
 rintro e w2 ⟨rfl, hb2⟩
 have HB2 := Lib.hid (HB1.out.later hb2)
 clear hb2
 cases x
 · cases y
   · have HE : Hid (R = Op.bytesLess a.toList b.toList) := HR.out
     go_wp2_with fail
     go_ret
     exact ⟨ret_bool HE.out.symm, HB2.out⟩
   · have HE : Hid (R = false) := HR.out
     go_wp2_with fail
     go_ret
     exact ⟨ret_bool HE.out.symm, HB2.out⟩
 · cases y
   · have HE : Hid (R = true) := HR.out
     go_wp2_with fail
     go_ret
     exact ⟨ret_bool HE.out.symm, HB2.out⟩
   · have HE : Hid (R = decide (p < q)) := HR.out
     go_wp2_with fail
     refine (HK3.out _).mono ?_
     rintro e w3 ⟨rfl, rfl⟩
     go_wp2_with fail
     refine (HK4.out _).mono ?_
     rintro e w4 ⟨rfl, rfl⟩
     go_wp2_with fail
     go_ret
     exact ⟨ret_bool HE.out.symm, HB2.out⟩
end Go.Proofs.YtlicffeicmoifaaGreatDoor
namespace Go.Proofs.YtlicffeicmoifaaGreatDoor
open Go.RowKit
def startsB : List ByteArray → List ByteArray → Bool
 | [], _ => true
 | _ :: _, [] => false
 | x :: r, y :: s => decide (x = y) && startsB r s
def wayB (n : ByteArray) (s : List ByteArray) (n' : ByteArray) (s' : List ByteArray) : Bool := decide (n = n') && (startsB s s' || startsB s' s)
def thingB (n : ByteArray) (s : List ByteArray) : Bool := nameB n && subsB s
def lessS : List ByteArray → List ByteArray → Bool
 | [], [] => false
 | [], _ :: _ => true
 | _ :: _, [] => false
 | x :: r, y :: s => if x = y then lessS r s else beforeB x y
def lessB (n : ByteArray) (s : List ByteArray) (n' : ByteArray) (s' : List ByteArray) : Bool := if n = n' then lessS s s' else Op.bytesLess n.toList n'.toList
theorem startsB_long : ∀ (a b : List ByteArray), b.length < a.length → startsB a b = false
 | [], _, h => absurd h (by simp)
 | _ :: _, [], _ => rfl
 | x :: r, y :: s, h => by
   unfold startsB
   rw [startsB_long r s (by simpa using h), Bool.and_false]
theorem startsB_step (a b : List ByteArray) (k : Nat) (h : k < a.length) (h' : k < b.length) :
 startsB (a.drop k) (b.drop k) = (decide (a.getD k ByteArray.empty = b.getD k ByteArray.empty) && startsB (a.drop (k + 1)) (b.drop (k + 1))) := by
 rw [List.drop_eq_getElem_cons h, List.drop_eq_getElem_cons h']
 simp [startsB, List.getD_eq_getElem?_getD, List.getElem?_eq_getElem h, List.getElem?_eq_getElem h']
theorem startsB_nil (b : List ByteArray) : startsB [] b = true := by cases b <;> rfl
theorem lessS_step (a b : List ByteArray) (k : Nat) (h : k < a.length) (h' : k < b.length) :
 lessS (a.drop k) (b.drop k) = if a.getD k ByteArray.empty = b.getD k ByteArray.empty then lessS (a.drop (k + 1)) (b.drop (k + 1)) else beforeB (a.getD k ByteArray.empty) (b.getD k ByteArray.empty) := by
 rw [List.drop_eq_getElem_cons h, List.drop_eq_getElem_cons h']
 simp [lessS, List.getD_eq_getElem?_getD, List.getElem?_eq_getElem h, List.getElem?_eq_getElem h']
theorem lessS_end : ∀ (a b : List ByteArray), a = [] ∨ b = [] → lessS a b = decide (a.length < b.length)
 | [], [], _ => rfl
 | [], _ :: _, _ => by simp [lessS]
 | _ :: _, [], _ => by simp [lessS]
 | _ :: _, _ :: _, h => by simp at h
theorem eqS_starts : ∀ (a b : List ByteArray), (decide (a.length = b.length) && startsB a b) = eqS a b
 | [], [] => rfl
 | [], _ :: _ => by simp [eqS]
 | _ :: _, [] => by simp [eqS]
 | x :: r, y :: s => by
   have h := eqS_starts r s
   unfold eqS at h ⊢
   simp only [startsB, List.length_cons, List.cons.injEq]
   by_cases hx : x = y
   · subst hx
     simp only [decide_true, Bool.true_and, true_and]
     rw [← h]
     simp
   · simp [hx]
set_option maxHeartbeats 400000 in
theorem l24Starts_any (A A' : Option Addr) (n c n' c' : Nat) (ss ts : List ByteArray) (w : World) (h : Strs w w.heap.size A n ss) (h' : Strs w w.heap.size A' n' ts) (hn : n ≤ 1048576) (hn' : n' ≤ 1048576) :
 Calls Tryz.prog 207 #[.slice A n c, .slice A' n' c'] w fun e w' => e = .returned (.bool (startsB ss ts)) ∧ ∃ q, w' = w.drewN q := by
 obtain ⟨hlen, hc⟩ := h
 obtain ⟨hlen', hc'⟩ := h'
 have Hc := Lib.hid hc
 have Hlen := Lib.hid hlen
 have Hc' := Lib.hid hc'
 have Hlen' := Lib.hid hlen'
 clear hc hlen hc' hlen'
 by_cases hgt : n' < n
 · have HE : Hid (startsB ss ts = false) := startsB_long _ _ (by rw [Hlen.out, Hlen'.out]; exact hgt)
   go_enter Tryz.func207, Tryz.ntmps207
   go_wp2_with fail
   go_ret
   exact ⟨ret_bool HE.out.symm, 0, rfl⟩
 · go_enter Tryz.func207, Tryz.ntmps207
   go_wp2_with fail
   go_loopw [5] (fun i wr => ∃ (k : Nat), k ≤ n ∧ i = .int .i64 k ∧ (∃ q, wr = w.drewN q) ∧ Hid (startsB ss ts = startsB (ss.drop k) (ts.drop k))) (fun i _ => n - (intOf i).toNat)
   case atStart => exact ⟨0, Nat.zero_le _, rfl, ⟨0, rfl⟩, rfl⟩
   case round =>
    obtain ⟨k, hk, rfl, ⟨q, rfl⟩, hS⟩ := hrel
    by_cases hlt : k < n
    · obtain ⟨b, o, rfl, hb, hcell⟩ := Hc.out (by omega)
      obtain ⟨b', o', rfl, hb', hcell'⟩ := Hc'.out (by omega)
      have hck := hcell k hlt
      have hck' := hcell' k (by omega)
      clear hcell hcell'
      have HS := Lib.hid (startsB_step ss ts k (by rw [Hlen.out]; exact hlt) (by rw [Hlen'.out]; omega))
      generalize ss.getD k ByteArray.empty = s at *
      generalize ts.getD k ByteArray.empty = t at *
      go_wp2_with fail
      go_quiet (fail)
      go_wp2_with fail
      · go_ret
        have hst : s ≠ t := str_ne (by assumption)
        exact ⟨ret_bool (by rw [hS.out, HS.out, decide_eq_false hst]; rfl), _, World.drewN_drewN _ _ _⟩
      · go_roundw
        case rel =>
         have hst : s = t := str_eq (by assumption)
         exact ⟨k + 1, by omega, by go_num, ⟨_, rfl⟩, by unfold Hid; rw [hS.out, HS.out, decide_eq_true hst]; rfl⟩
        case measure => simp [intOf]; omega
    · go_wp2_with fail
      go_ret
      exact ⟨ret_bool (by rw [hS.out, List.drop_of_length_le (by rw [Hlen.out]; omega), startsB_nil]), _, rfl⟩
set_option maxHeartbeats 400000 in
theorem l24Texts_any (A A' : Option Addr) (n c n' c' : Nat) (ss ts : List ByteArray) (w : World) (h : Strs w w.heap.size A n ss) (h' : Strs w w.heap.size A' n' ts) (hn : n ≤ 1048576) (hn' : n' ≤ 1048576) :
 Calls Tryz.prog 186 #[.slice A n c, .slice A' n' c'] w fun e w' => e = .returned (.bool (eqS ss ts)) ∧ ∃ q, w' = w.drewN q := by
 have HK := Lib.hid (l24Starts_any A A' n c n' c' ss ts w h h' hn hn')
 have hE := eqS_starts ss ts
 rw [h.1, h'.1] at hE
 clear h h'
 generalize startsB ss ts = x at *
 generalize eqS ss ts = R at *
 by_cases hne : n = n'
 · subst hne
   have HE : Hid (x = R) := by unfold Hid; rw [← hE]; simp
   clear hE
   go_enter Tryz.func186, Tryz.ntmps186
   go_wp2_with fail
   refine HK.out.mono ?_
   rintro e w1 ⟨rfl, q, rfl⟩
   go_wp2_with fail
   go_ret
   exact ⟨ret_bool HE.out, q, rfl⟩
 · have HE : Hid (false = R) := by unfold Hid; rw [← hE]; simp [hne]
   have hb : ((n : Int) == (n' : Int)) = false := by rw [beq_eq_false_iff_ne]; omega
   have hb2 : (n == n') = false := by rw [beq_eq_false_iff_ne]; omega
   clear hE hne
   go_enter Tryz.func186, Tryz.ntmps186
   go_wp2_with fail
   go_ret
   exact ⟨ret_bool HE.out, 0, rfl⟩
theorem str_beq {a b : ByteArray} (h : a ≠ b) : (a.toList == b.toList) = false := by
 cases hx : (a.toList == b.toList)
 · rfl
 · exact absurd (bytes_ext (by simpa using hx)) h
theorem str_bne {a b : ByteArray} (h : a ≠ b) : (!a.toList == b.toList) = true := by rw [str_beq h]; rfl
set_option maxHeartbeats 400000 in
theorem l24Way_any (nm nm' : ByteArray) (A A' : Option Addr) (n c n' c' : Nat) (ss ts : List ByteArray) (w : World) (h : Strs w w.heap.size A n ss) (h' : Strs w w.heap.size A' n' ts) (hn : n ≤ 1048576) (hn' : n' ≤ 1048576) :
 Calls Tryz.prog 115 #[.string nm, .slice A n c, .string nm', .slice A' n' c'] w fun e w' => e = .returned (.bool (wayB nm ss nm' ts)) ∧ ∃ q, w' = w.drewN q := by
 have HK1 := Lib.hid (l24Starts_any A A' n c n' c' ss ts w h h' hn hn')
 have HK2 := Lib.hid (fun q => l24Starts_any A' A n' c' n c ts ss (w.drewN q) h' h hn' hn)
 have hR : wayB nm ss nm' ts = wayB nm ss nm' ts := rfl
 conv at hR => rhs; unfold wayB
 generalize wayB nm ss nm' ts = R at *
 clear h h'
 generalize startsB ss ts = x at *
 generalize startsB ts ss = y at *
 by_cases he : nm = nm'
 · subst he
   have HE : Hid (R = (x || y)) := by unfold Hid; rw [hR]; simp
   clear hR
   go_enter Tryz.func115, Tryz.ntmps115
   go_wp2_with fail
   refine HK1.out.mono ?_
   rintro e w1 ⟨rfl, q, rfl⟩
   cases x
   · go_wp2_with fail
     refine (HK2.out _).mono ?_
     rintro e w2 ⟨rfl, q2, rfl⟩
     go_wp2_with fail
     go_ret
     exact ⟨ret_bool (by rw [HE.out]; rfl), _, rfl⟩
   · go_wp2_with fail
     go_ret
     exact ⟨ret_bool (by rw [HE.out]; rfl), _, rfl⟩
 · have HE : Hid (R = false) := by unfold Hid; rw [hR]; simp [he]
   have hb := str_beq he
   clear hR he
   go_enter Tryz.func115, Tryz.ntmps115
   go_wp2_with fail
   go_ret
   exact ⟨ret_bool HE.out.symm, 0, rfl⟩
theorem specNameOk_any (s : ByteArray) (w : World) (hs : s.size ≤ 1048576) :
 Calls Tryz.prog 202 #[.string s] w fun e w' => e = .returned (.bool (nameB s)) ∧ w = w' := by
 have HK := Lib.hid (l02Name_any s w hs)
 generalize nameB s = x at *
 go_enter Tryz.func202, Tryz.ntmps202
 go_wp2_with fail
 refine HK.out.mono ?_
 rintro e w1 ⟨rfl, rfl⟩
 go_wp2_with fail
 go_ret
 exact ⟨rfl, rfl⟩
theorem specSubsOk_any (A : Option Addr) (n c : Nat) (ss : List ByteArray) (w : World) (h : Strs w w.heap.size A n ss) (hn : n ≤ 1048576) (hz : ∀ s ∈ ss, s.size ≤ 1048576) :
 Calls Tryz.prog 114 #[.slice A n c] w fun e w' => e = .returned (.bool (subsB ss)) ∧ w = w' := by
 have HK := Lib.hid (l02Subs_any A n c ss w h hn hz)
 clear h hz
 generalize subsB ss = x at *
 go_enter Tryz.func114, Tryz.ntmps114
 go_wp2_with fail
 refine HK.out.mono ?_
 rintro e w1 ⟨rfl, rfl⟩
 go_wp2_with fail
 go_ret
 exact ⟨rfl, rfl⟩
theorem specBefore_any (a b : ByteArray) (w : World) (ha : a.size ≤ 1048576) (hb : b.size ≤ 1048576) :
 Calls Tryz.prog 303 #[.string a, .string b] w fun e w' => e = .returned (.bool (beforeB a b)) ∧ Below w.heap.size w w' := by
 have HK := Lib.hid (l02Before_any a b w ha hb)
 generalize beforeB a b = x at *
 go_enter Tryz.func303, Tryz.ntmps303
 go_wp2_with fail
 refine HK.out.mono ?_
 rintro e w1 ⟨rfl, hb1⟩
 have HB := Lib.hid hb1
 clear hb1
 go_wp2_with fail
 go_ret
 exact ⟨rfl, HB.out⟩
def inB (n a b : Int) : Bool := decide (a ≤ n) && decide (n ≤ b)
set_option maxHeartbeats 400000 in
theorem l00In_any (n a b : Int) (w : World) :
 Calls Tryz.prog 165 #[.int .i64 n, .int .i64 a, .int .i64 b] w fun e w' => e = .returned (.bool (inB n a b)) ∧ w = w' := by
 unfold inB
 by_cases h1 : a ≤ n
 · by_cases h2 : n ≤ b
   all_goals
    go_enter Tryz.func165, Tryz.ntmps165
    go_wp2
    go_ret
    exact ⟨ret_bool (by first | (simp; done) | (simp; omega) | (rw [Bool.eq_iff_iff]; simp; omega)), rfl⟩
 · go_enter Tryz.func165, Tryz.ntmps165
   go_wp2
   go_ret
   exact ⟨ret_bool (by first | (simp; done) | (simp; omega) | (rw [Bool.eq_iff_iff]; simp; omega)), rfl⟩
theorem l24Job_any (n : Int) (w : World) :
 Calls Tryz.prog 98 #[.int .i64 n] w fun e w' => e = .returned (.bool (inB n 1 4)) ∧ w = w' := by
 have HK := Lib.hid (l00In_any n 1 4 w)
 generalize inB n 1 4 = x at *
 go_enter Tryz.func98, Tryz.ntmps98
 go_wp2_with fail
 refine HK.out.mono ?_
 rintro e w1 ⟨rfl, rfl⟩
 go_wp2_with fail
 go_ret
 exact ⟨rfl, rfl⟩
theorem strs_sz {ss : List ByteArray} {M : Nat} (hz : ∀ s ∈ ss, s.size ≤ M) (k : Nat) (hk : k < ss.length) : (ss.getD k ByteArray.empty).size ≤ M := by
 apply hz
 rw [List.getD_eq_getElem?_getD, List.getElem?_eq_getElem hk]; simp
end Go.Proofs.YtlicffeicmoifaaGreatDoor
