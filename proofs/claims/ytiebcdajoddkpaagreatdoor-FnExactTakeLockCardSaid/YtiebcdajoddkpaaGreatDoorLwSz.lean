/-
  What szLock, szLockS, szAsk, szAskS and szLocks compute: the room that is left. (Printed by gen_lwsz.py.)
-/
import Derived.Test.YtiebcdajoddkpaaGreatDoorLk2
namespace Go.Proofs.YtiebcdajoddkpaaGreatDoor
open Go.RowKit

def ItD.fine (d : ItD) : Prop := d.name.size ≤ maxLen ∧ (∀ s ∈ d.subs, s.size ≤ maxLen) ∧ d.subs.length ≤ maxLen
def szI (d : ItD) (left : Int) : Int := if left - d.name.size < 0 then -1 else szS d.subs (left - d.name.size)
theorem szI_ge (d : ItD) (left : Int) : -1 ≤ szI d left := by
  unfold szI
  split
  · omega
  · exact szS_ge _ _ (by omega)
theorem szI_le (d : ItD) (left : Int) : szI d left ≤ left ∨ szI d left = -1 := by
  unfold szI
  split
  · omega
  · have := szS_le d.subs (left - d.name.size) (by omega)
    omega
/-- The room that is left behind some items. -/
def szIL : List ItD → Int → Int
  | [], left => left
  | d :: r, left => if szI d left < 0 then -1 else szIL r (szI d left)
def szIS (fs : List ItD) (left : Int) : Int := if left - fs.length < 0 then -1 else szIL fs (left - fs.length)
theorem szIL_step (fs : List ItD) (k : Nat) (left : Int) (hk : k < fs.length) :
    szIL (fs.drop k) left = if szI (fs.getD k default) left < 0 then -1 else szIL (fs.drop (k + 1)) (szI (fs.getD k default) left) := by
  rw [List.drop_eq_getElem_cons hk]
  simp [szIL, List.getD_eq_getElem?_getD, List.getElem?_eq_getElem hk]
theorem szI_small (d : ItD) (left : Int) (h1 : left ≤ 1048576) (h : 0 ≤ szI d left) : d.small := by
  unfold szI at h
  split at h
  · omega
  · obtain ⟨r1, r2⟩ := szS_room _ _ h
    refine ⟨by omega, by omega, fun s hs => ?_⟩
    have := r2 s hs
    omega
theorem szIL_ge : ∀ (fs : List ItD) (left : Int), 0 ≤ left → -1 ≤ szIL fs left ∧ szIL fs left ≤ left
  | [], left, h => by simp [szIL]; omega
  | d :: r, left, h => by
    unfold szIL
    have := szI_le d left
    split
    · omega
    · have := szIL_ge r (szI d left) (by omega)
      omega
theorem szIS_ge (fs : List ItD) (left : Int) : -1 ≤ szIS fs left ∧ (0 ≤ left → szIS fs left ≤ left) := by
  unfold szIS
  split
  · omega
  · have := szIL_ge fs (left - fs.length) (by omega)
    omega
theorem szIL_small : ∀ (fs : List ItD) (left : Int), left ≤ 1048576 → 0 ≤ szIL fs left → ∀ d ∈ fs, d.small
  | [], _, _, _ => fun d hd => by cases hd
  | d :: r, left, h1, h => by
    unfold szIL at h
    split at h
    · omega
    · intro x hx
      have hle := szI_le d left
      rcases List.mem_cons.1 hx with e | e
      · subst e; exact szI_small _ left h1 (by omega)
      · exact szIL_small r (szI d left) (by omega) h x e
theorem szIS_small (fs : List ItD) (left : Int) (h1 : left ≤ 1048576) (h : 0 ≤ szIS fs left) : smalls fs := by
  unfold szIS at h
  split at h
  · omega
  · exact ⟨by omega, szIL_small fs _ (by omega) h⟩

set_option maxHeartbeats 1000000 in
theorem szLock_any (c0 c1 c2 c3 : Value) (d : ItD) (left : Int) (w : World) (h : ItR w w.heap.size c0 c1 c2 c3 d) (hf : d.fine)
    (h0 : 0 ≤ left) (h1 : left ≤ 1048576) :
    Calls Tryz.prog 108 #[.agg #[c0, c1, c2, c3], .int .i64 left] w fun e w' => e = .returned (.int .i64 (szI d left)) ∧ Below w.heap.size w w' := by
  obtain ⟨rfl, rfl, rfl, A, n, cap, rfl, hs, _⟩ := h
  obtain ⟨f1, f2, f3⟩ := hf
  rw [hs.1] at f3
  have HK := Lib.hid (fun (l : Int) (hl0 : 0 ≤ l) (hl1 : l ≤ 1048576) o => szStringS_any A n cap d.subs l _ (hs.later (Below.new _ o)) hl0 hl1 f2 f3)
  have HB := Lib.hid (fun o => Below.new w o)
  unfold maxLen at f1
  have HR : Hid (szI d left = if left - d.name.size < 0 then -1 else szS d.subs (left - d.name.size)) := rfl
  have hle := szS_le d.subs (left - d.name.size)
  have hge := szS_ge d.subs (left - d.name.size)
  clear f2 f3 hs
  generalize szI d left = R at *
  generalize d.name = nm at *
  by_cases a1 : left - nm.size < 0
  · have HE : Hid (R = -1) := by unfold Hid; rw [HR.out, if_pos a1]
    clear hle hge
    go_enter Tryz.func108, Tryz.ntmps108
    go_wp2_with fail
    go_ret
    exact ⟨ret_int HE.out.symm, HB.out _⟩
  · have HE : Hid (R = szS d.subs (left - nm.size)) := by unfold Hid; rw [HR.out, if_neg a1]
    have hle := hle (by omega)
    have hge := hge (by omega)
    have HK' := Lib.hid (fun o => HK.out (left - nm.size) (by omega) (by omega) o)
    clear HK HR
    generalize szS d.subs (left - nm.size) = x at *
    go_enter Tryz.func108, Tryz.ntmps108
    go_wp2_with fail
    refine (HK'.out _).mono ?_
    rintro e w1 ⟨rfl, rfl⟩
    by_cases a2 : x < 0
    · have HE2 : Hid (R = -1) := by unfold Hid; rw [HE.out]; omega
      go_wp2_with fail
      go_ret
      exact ⟨ret_int HE2.out.symm, HB.out _⟩
    · go_wp2_with fail
      go_ret
      exact ⟨ret_int HE.out.symm, HB.out _⟩

set_option maxHeartbeats 1000000 in
theorem szLockS_any (A : Option Addr) (n c : Nat) (fs : List ItD) (left : Int) (w : World) (h : Its w w.heap.size A n fs) (hf : ∀ d ∈ fs, d.fine)
    (h0 : 0 ≤ left) (h1 : left ≤ 1048576) (hn : n ≤ maxLen) :
    Calls Tryz.prog 65 #[.slice A n c, .int .i64 left] w fun e w' => e = .returned (.int .i64 (szIS fs left)) ∧ Below w.heap.size w w' := by
  have Hh := Lib.hid h
  have Hlen := Lib.hid h.1
  have Hf := Lib.hid hf
  unfold maxLen at hn
  clear h hf
  by_cases hl : left - n < 0
  · have HE : Hid (szIS fs left = -1) := by unfold Hid szIS; rw [Hlen.out, if_pos hl]
    go_enter Tryz.func65, Tryz.ntmps65
    go_wp2
    go_ret
    exact ⟨ret_int HE.out.symm, Below.refl _ _⟩
  · have HE : Hid (szIS fs left = szIL fs (left - n)) := by unfold Hid szIS; rw [Hlen.out, if_neg hl]
    go_enter Tryz.func65, Tryz.ntmps65
    go_wp2_with fail
    go_loopw [1, 5] (fun l i wr => ∃ (k : Nat) (m : Int), k ≤ n ∧ 0 ≤ m ∧ m ≤ left ∧ i = .int .i64 k ∧ l = .int .i64 m ∧ Below w.heap.size w wr ∧ Hid (szIS fs left = szIL (fs.drop k) m)) (fun _ i _ => n - (intOf i).toNat)
    case atStart => exact ⟨0, left - n, Nat.zero_le _, by omega, by omega, rfl, rfl, Below.refl _ _, HE.out⟩
    case round =>
      obtain ⟨k, m, hk, hm0, hm1, rfl, rfl, hb, hS⟩ := hrel
      have HB := Lib.hid hb
      clear hb
      by_cases hlt : k < n
      · obtain ⟨b, o, rfl, hbB, hc⟩ := (Hh.out.later HB.out).2 (by omega)
        obtain ⟨c0, c1, c2, c3, k0, k1, k2, k3, hr⟩ := hc k hlt
        clear hc
        have hl' : k < fs.length := by rw [Hlen.out]; exact hlt
        have HS := Lib.hid (szIL_step fs k m hl')
        have HF := Lib.hid (Hf.out (fs.getD k default) (getD_mem fs k hl'))
        clear hl'
        have HR := Lib.hid hr
        clear hr
        have hge := szI_ge (fs.getD k default) m
        have hle := szI_le (fs.getD k default) m
        have HK := Lib.hid (szLock_any c0 c1 c2 c3 (fs.getD k default) m wr HR.out HF.out hm0 (by omega))
        generalize szI (fs.getD k default) m = x at *
        go_wp2_with fail
        refine (HK.out).mono ?_
        rintro e w1 ⟨rfl, hb1⟩
        have HB1 := Lib.hid (HB.out.later hb1)
        clear hb1
        by_cases hx : x < 0
        · have HE2 : Hid (szIS fs left = -1) := by unfold Hid; rw [hS.out, HS.out, if_pos hx]
          go_wp2_with fail
          go_ret
          exact ⟨ret_int HE2.out.symm, HB1.out⟩
        · have HE2 : Hid (szIS fs left = szIL (fs.drop (k + 1)) x) := by unfold Hid; rw [hS.out, HS.out, if_neg hx]
          go_wp2_with fail
          go_roundw
          case rel => exact ⟨k + 1, x, by omega, by omega, by omega, by go_num, rfl, HB1.out, HE2.out⟩
          case measure => simp [intOf]; omega
      · go_wp2_with fail
        go_ret
        exact ⟨ret_int (by rw [hS.out, List.drop_of_length_le (by rw [Hlen.out]; omega)]; rfl), HB.out⟩

set_option maxHeartbeats 1000000 in
theorem szAsk_any (c0 c1 c2 c3 : Value) (d : ItD) (left : Int) (w : World) (h : ItR w w.heap.size c0 c1 c2 c3 d) (hf : d.fine)
    (h0 : 0 ≤ left) (h1 : left ≤ 1048576) :
    Calls Tryz.prog 109 #[.agg #[c0, c1, c2, c3], .int .i64 left] w fun e w' => e = .returned (.int .i64 (szI d left)) ∧ Below w.heap.size w w' := by
  obtain ⟨rfl, rfl, rfl, A, n, cap, rfl, hs, _⟩ := h
  obtain ⟨f1, f2, f3⟩ := hf
  rw [hs.1] at f3
  have HK := Lib.hid (fun (l : Int) (hl0 : 0 ≤ l) (hl1 : l ≤ 1048576) o => szStringS_any A n cap d.subs l _ (hs.later (Below.new _ o)) hl0 hl1 f2 f3)
  have HB := Lib.hid (fun o => Below.new w o)
  unfold maxLen at f1
  have HR : Hid (szI d left = if left - d.name.size < 0 then -1 else szS d.subs (left - d.name.size)) := rfl
  have hle := szS_le d.subs (left - d.name.size)
  have hge := szS_ge d.subs (left - d.name.size)
  clear f2 f3 hs
  generalize szI d left = R at *
  generalize d.name = nm at *
  by_cases a1 : left - nm.size < 0
  · have HE : Hid (R = -1) := by unfold Hid; rw [HR.out, if_pos a1]
    clear hle hge
    go_enter Tryz.func109, Tryz.ntmps109
    go_wp2_with fail
    go_ret
    exact ⟨ret_int HE.out.symm, HB.out _⟩
  · have HE : Hid (R = szS d.subs (left - nm.size)) := by unfold Hid; rw [HR.out, if_neg a1]
    have hle := hle (by omega)
    have hge := hge (by omega)
    have HK' := Lib.hid (fun o => HK.out (left - nm.size) (by omega) (by omega) o)
    clear HK HR
    generalize szS d.subs (left - nm.size) = x at *
    go_enter Tryz.func109, Tryz.ntmps109
    go_wp2_with fail
    refine (HK'.out _).mono ?_
    rintro e w1 ⟨rfl, rfl⟩
    by_cases a2 : x < 0
    · have HE2 : Hid (R = -1) := by unfold Hid; rw [HE.out]; omega
      go_wp2_with fail
      go_ret
      exact ⟨ret_int HE2.out.symm, HB.out _⟩
    · go_wp2_with fail
      go_ret
      exact ⟨ret_int HE.out.symm, HB.out _⟩

set_option maxHeartbeats 1000000 in
theorem szAskS_any (A : Option Addr) (n c : Nat) (fs : List ItD) (left : Int) (w : World) (h : Its w w.heap.size A n fs) (hf : ∀ d ∈ fs, d.fine)
    (h0 : 0 ≤ left) (h1 : left ≤ 1048576) (hn : n ≤ maxLen) :
    Calls Tryz.prog 66 #[.slice A n c, .int .i64 left] w fun e w' => e = .returned (.int .i64 (szIS fs left)) ∧ Below w.heap.size w w' := by
  have Hh := Lib.hid h
  have Hlen := Lib.hid h.1
  have Hf := Lib.hid hf
  unfold maxLen at hn
  clear h hf
  by_cases hl : left - n < 0
  · have HE : Hid (szIS fs left = -1) := by unfold Hid szIS; rw [Hlen.out, if_pos hl]
    go_enter Tryz.func66, Tryz.ntmps66
    go_wp2
    go_ret
    exact ⟨ret_int HE.out.symm, Below.refl _ _⟩
  · have HE : Hid (szIS fs left = szIL fs (left - n)) := by unfold Hid szIS; rw [Hlen.out, if_neg hl]
    go_enter Tryz.func66, Tryz.ntmps66
    go_wp2_with fail
    go_loopw [1, 5] (fun l i wr => ∃ (k : Nat) (m : Int), k ≤ n ∧ 0 ≤ m ∧ m ≤ left ∧ i = .int .i64 k ∧ l = .int .i64 m ∧ Below w.heap.size w wr ∧ Hid (szIS fs left = szIL (fs.drop k) m)) (fun _ i _ => n - (intOf i).toNat)
    case atStart => exact ⟨0, left - n, Nat.zero_le _, by omega, by omega, rfl, rfl, Below.refl _ _, HE.out⟩
    case round =>
      obtain ⟨k, m, hk, hm0, hm1, rfl, rfl, hb, hS⟩ := hrel
      have HB := Lib.hid hb
      clear hb
      by_cases hlt : k < n
      · obtain ⟨b, o, rfl, hbB, hc⟩ := (Hh.out.later HB.out).2 (by omega)
        obtain ⟨c0, c1, c2, c3, k0, k1, k2, k3, hr⟩ := hc k hlt
        clear hc
        have hl' : k < fs.length := by rw [Hlen.out]; exact hlt
        have HS := Lib.hid (szIL_step fs k m hl')
        have HF := Lib.hid (Hf.out (fs.getD k default) (getD_mem fs k hl'))
        clear hl'
        have HR := Lib.hid hr
        clear hr
        have hge := szI_ge (fs.getD k default) m
        have hle := szI_le (fs.getD k default) m
        have HK := Lib.hid (szAsk_any c0 c1 c2 c3 (fs.getD k default) m wr HR.out HF.out hm0 (by omega))
        generalize szI (fs.getD k default) m = x at *
        go_wp2_with fail
        refine (HK.out).mono ?_
        rintro e w1 ⟨rfl, hb1⟩
        have HB1 := Lib.hid (HB.out.later hb1)
        clear hb1
        by_cases hx : x < 0
        · have HE2 : Hid (szIS fs left = -1) := by unfold Hid; rw [hS.out, HS.out, if_pos hx]
          go_wp2_with fail
          go_ret
          exact ⟨ret_int HE2.out.symm, HB1.out⟩
        · have HE2 : Hid (szIS fs left = szIL (fs.drop (k + 1)) x) := by unfold Hid; rw [hS.out, HS.out, if_neg hx]
          go_wp2_with fail
          go_roundw
          case rel => exact ⟨k + 1, x, by omega, by omega, by omega, by go_num, rfl, HB1.out, HE2.out⟩
          case measure => simp [intOf]; omega
      · go_wp2_with fail
        go_ret
        exact ⟨ret_int (by rw [hS.out, List.drop_of_length_le (by rw [Hlen.out]; omega)]; rfl), HB.out⟩

def szLk (held asks : List ItD) (left : Int) : Int := if szIS held left < 0 then -1 else szIS asks (szIS held left)
theorem szLk_ge (held asks : List ItD) (left : Int) : -1 ≤ szLk held asks left ∧ (0 ≤ left → szLk held asks left ≤ left) := by
  unfold szLk
  have h1 := szIS_ge held left
  have h2 := szIS_ge asks (szIS held left)
  split <;> omega
theorem szLk_small (held asks : List ItD) (left : Int) (h0 : 0 ≤ left) (h1 : left ≤ 1048576) (h : 0 ≤ szLk held asks left) : smalls held ∧ smalls asks := by
  unfold szLk at h
  have h2 := szIS_ge held left
  split at h
  · omega
  · exact ⟨szIS_small held left h1 (by omega), szIS_small asks (szIS held left) (by omega) h⟩
set_option maxHeartbeats 1000000 in
theorem szLocks_any (A A' : Option Addr) (n c n' c' : Nat) (held asks : List ItD) (left : Int) (w : World) (h : Its w w.heap.size A n held) (ha : Its w w.heap.size A' n' asks) (hf : ∀ d ∈ held, d.fine) (hfa : ∀ d ∈ asks, d.fine)
    (h0 : 0 ≤ left) (h1 : left ≤ 1048576) (hn : n ≤ maxLen) (hn' : n' ≤ maxLen) :
    Calls Tryz.prog 25 #[.agg #[.slice A n c, .slice A' n' c'], .int .i64 left] w fun e w' => e = .returned (.int .i64 (szLk held asks left)) ∧ Below w.heap.size w w' := by
  have g1 := szIS_ge held left
  have g2 := szIS_ge asks (szIS held left)
  have HK1 := Lib.hid (fun W (hW : Below w.heap.size w W) => szLockS_any A n c held left W (h.later hW) hf h0 h1 hn)
  have HK2 := Lib.hid (fun (hp : 0 ≤ szIS held left) W (hW : Below w.heap.size w W) => szAskS_any A' n' c' asks (szIS held left) W (ha.later hW) hfa hp (by have := szIS_ge held left; omega) hn')
  have HR : Hid (szLk held asks left = if szIS held left < 0 then -1 else szIS asks (szIS held left)) := rfl
  clear h ha hf hfa
  generalize szLk held asks left = R at *
  generalize szIS held left = x at *
  generalize szIS asks x = y at *
  go_enter Tryz.func25, Tryz.ntmps25
  go_wp2_with fail
  refine (HK1.out _ (by exact Below.new _ _)).mono ?_
  rintro e w1 ⟨rfl, hb1⟩
  have HB := Lib.hid ((Below.new _ _).later hb1)
  have p1 := box_at hb1 1
  have z1 := hb1.size
  clear hb1
  by_cases hx : x < 0
  · have HE : Hid (R = -1) := by unfold Hid; rw [HR.out, if_pos hx]
    go_wp2_with fail
    go_ret
    exact ⟨ret_int HE.out.symm, HB.out⟩
  · have HE : Hid (R = y) := by unfold Hid; rw [HR.out, if_neg hx]
    go_wp2_with fail
    refine (HK2.out (by omega) _ HB.out).mono ?_
    rintro e w2 ⟨rfl, hb2⟩
    have HB2 := Lib.hid (HB.out.later hb2)
    clear hb2
    by_cases hy : y < 0
    · have HE2 : Hid (R = -1) := by unfold Hid; rw [HE.out]; omega
      go_wp2_with fail
      go_ret
      exact ⟨ret_int HE2.out.symm, HB2.out⟩
    · go_wp2_with fail
      go_ret
      exact ⟨ret_int HE.out.symm, HB2.out⟩
end Go.Proofs.YtiebcdajoddkpaaGreatDoor
