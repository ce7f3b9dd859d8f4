/-
  Locks and asks in memory; what l24Ask, l24HeldUp, l24At and l24Room of the reference compute.
-/
import Derived.Test.YtiebcdajoddkpaaGreatDoorLk1
namespace Go.Proofs.YtiebcdajoddkpaaGreatDoor
open Go.RowKit

/-- A lock (job, count, thing) or an ask (job, until, thing). -/
structure ItD where
  a : Int
  b : Int
  name : ByteArray
  subs : List ByteArray
deriving Inhabited

def ItR (w : World) (B : Nat) (c0 c1 c2 c3 : Value) (d : ItD) : Prop :=
  c0 = .int .i64 d.a ∧ c1 = .int .i64 d.b ∧ c2 = .string d.name ∧ ∃ A n cap, c3 = .slice A n cap ∧ Strs w B A n d.subs ∧ n ≤ cap
def Its (w : World) (B : Nat) (A : Option Addr) (n : Nat) (fs : List ItD) : Prop :=
  fs.length = n ∧ (0 < n → ∃ b o, A = some ⟨b, o, none⟩ ∧ b < B ∧ ∀ j, j < n → ∃ c0 c1 c2 c3, w.cell? ⟨b, o + j * 4, none⟩ = some c0 ∧ w.cell? ⟨b, o + j * 4 + 1, none⟩ = some c1 ∧ w.cell? ⟨b, o + j * 4 + 2, none⟩ = some c2 ∧ w.cell? ⟨b, o + j * 4 + 3, none⟩ = some c3 ∧ ItR w B c0 c1 c2 c3 (fs.getD j default))

theorem ItR.keep {w w' : World} {B : Nat} {c0 c1 c2 c3 : Value} {d : ItD} (h : ItR w B c0 c1 c2 c3 d) (hk : ∀ p : Addr, p.block < B → w'.cell? p = w.cell? p) : ItR w' B c0 c1 c2 c3 d := by
  obtain ⟨e0, e1, e2, A, n, cap, e3, hs, hc⟩ := h
  exact ⟨e0, e1, e2, A, n, cap, e3, hs.keep hk, hc⟩
theorem ItR.more {w : World} {B B' : Nat} {c0 c1 c2 c3 : Value} {d : ItD} (h : ItR w B c0 c1 c2 c3 d) (hB : B ≤ B') : ItR w B' c0 c1 c2 c3 d := by
  obtain ⟨e0, e1, e2, A, n, cap, e3, hs, hc⟩ := h
  exact ⟨e0, e1, e2, A, n, cap, e3, hs.more hB, hc⟩
theorem ItR.later {w w' : World} {c0 c1 c2 c3 : Value} {d : ItD} (h : ItR w w.heap.size c0 c1 c2 c3 d) (hb : Below w.heap.size w w') : ItR w' w'.heap.size c0 c1 c2 c3 d :=
  (h.keep fun _ hp => hb.cell hp).more hb.size
section
variable {w w' : World} {B B' n : Nat} {A : Option Addr} {fs : List ItD}
theorem Its.keep (h : Its w B A n fs) (hk : ∀ p : Addr, p.block < B → w'.cell? p = w.cell? p) : Its w' B A n fs :=
  ⟨h.1, fun hn => by
    obtain ⟨b, o, e, hb, hc⟩ := h.2 hn
    refine ⟨b, o, e, hb, fun j hj => ?_⟩
    obtain ⟨c0, c1, c2, c3, h0, h1, h2, h3, hr⟩ := hc j hj
    exact ⟨c0, c1, c2, c3, (hk _ hb).trans h0, (hk _ hb).trans h1, (hk _ hb).trans h2, (hk _ hb).trans h3, hr.keep hk⟩⟩
theorem Its.more (h : Its w B A n fs) (hB : B ≤ B') : Its w B' A n fs :=
  ⟨h.1, fun hn => by
    obtain ⟨b, o, e, hb, hc⟩ := h.2 hn
    refine ⟨b, o, e, by omega, fun j hj => ?_⟩
    obtain ⟨c0, c1, c2, c3, h0, h1, h2, h3, hr⟩ := hc j hj
    exact ⟨c0, c1, c2, c3, h0, h1, h2, h3, hr.more hB⟩⟩
theorem Its.later (h : Its w w.heap.size A n fs) (hb : Below w.heap.size w w') : Its w' w'.heap.size A n fs := (h.keep fun _ hp => hb.cell hp).more hb.size
theorem Its.alloc (h : Its w w.heap.size A n fs) (o : Obj) : Its (w.alloc o) (w.alloc o).heap.size A n fs := h.later (Below.new _ _)
end

def ItD.small (d : ItD) : Prop := d.name.size ≤ 1048576 ∧ d.subs.length ≤ 1048576 ∧ ∀ s ∈ d.subs, s.size ≤ 1048576
def smalls (l : List ItD) : Prop := l.length ≤ 1048576 ∧ ∀ d ∈ l, d.small

theorem getD_mem {α : Type} [Inhabited α] (l : List α) (k : Nat) (h : k < l.length) : l.getD k default ∈ l := by
  rw [List.getD_eq_getElem?_getD, List.getElem?_eq_getElem h]; simp

/-- The place of the first one of which p holds, from k on; -1 where there is none. -/
def idxF {α : Type} (p : α → Bool) : List α → Nat → Int
  | [], _ => -1
  | d :: r, k => if p d = true then k else idxF p r (k + 1)
theorem idxF_step {α : Type} [Inhabited α] (p : α → Bool) (l : List α) (k : Nat) (h : k < l.length) : idxF p (l.drop k) k = if p (l.getD k default) = true then (k : Int) else idxF p (l.drop (k + 1)) (k + 1) := by
  rw [List.drop_eq_getElem_cons h]
  simp [idxF, List.getD_eq_getElem?_getD, List.getElem?_eq_getElem h]
theorem idxF_bd {α : Type} (p : α → Bool) : ∀ (l : List α) (k : Nat), -1 ≤ idxF p l k ∧ idxF p l k < k + l.length
  | [], k => by simp [idxF]; omega
  | d :: r, k => by
    have := idxF_bd p r (k + 1)
    unfold idxF
    simp only [List.length_cons]
    split <;> omega
theorem any_step {α : Type} [Inhabited α] (p : α → Bool) (l : List α) (k : Nat) (h : k < l.length) : (l.drop k).any p = (p (l.getD k default) || (l.drop (k + 1)).any p) := by
  rw [List.drop_eq_getElem_cons h, List.any_cons, List.getD_eq_getElem?_getD, List.getElem?_eq_getElem h]
  rfl

def jobP (job : Int) (d : ItD) : Bool := decide (d.a = job)
def askAt (asks : List ItD) (job : Int) : Int := idxF (jobP job) asks 0

set_option maxHeartbeats 400000 in
theorem l24Ask_any (A A' : Option Addr) (n c n' c' : Nat) (asks : List ItD) (job : Int) (w : World) (h : Its w w.heap.size A' n' asks) (hn : n' ≤ 1048576) :
    Calls Tryz.prog 56 #[.agg #[.slice A n c, .slice A' n' c'], .int .i64 job] w fun e w' => e = .returned (.int .i64 (askAt asks job)) ∧ Below w.heap.size w w' := by
  have Hh := Lib.hid (h.alloc (.cells #[.slice A n c, .slice A' n' c'] 27))
  have Hlen := Lib.hid h.1
  have HB : Hid (∀ o, Below w.heap.size w (w.alloc o)) := fun o => Below.new w o
  clear h
  go_enter Tryz.func56, Tryz.ntmps56
  go_wp2_with fail
  go_loop [5] (fun i => ∃ (k : Nat), k ≤ n' ∧ i = .int .i64 k ∧ Hid (askAt asks job = idxF (jobP job) (asks.drop k) k)) (fun i => n' - (intOf i).toNat)
  case atStart => exact ⟨0, Nat.zero_le _, rfl, rfl⟩
  case round =>
    obtain ⟨k, hk, rfl, hS⟩ := hrel
    by_cases hlt : k < n'
    · obtain ⟨b, o, rfl, hb, hcell⟩ := Hh.out.2 (by omega)
      obtain ⟨c0, c1, c2, c3, k0, k1, k2, k3, hr⟩ := hcell k hlt
      have HS := Lib.hid (idxF_step (jobP job) asks k (by rw [Hlen.out]; exact hlt))
      obtain ⟨rfl, _, _, _⟩ := hr
      clear hcell k1 k2 k3
      have HP : Hid (jobP job (asks.getD k default) = decide ((asks.getD k default).a = job)) := rfl
      generalize (asks.getD k default).a = x at *
      go_wp2_with fail
      · go_ret
        have hx : x = job := by simpa using (show (x == job) = true by assumption)
        exact ⟨ret_int (by rw [hS.out, HS.out, if_pos (by rw [HP.out]; simpa using hx)]), HB.out _⟩
      · go_round
        case rel =>
          have hx : x ≠ job := by simpa using (show (x == job) = false by assumption)
          exact ⟨k + 1, by omega, by go_num, by unfold Hid; rw [hS.out, HS.out, if_neg (by rw [HP.out]; simpa using hx)]⟩
        case measure => simp [intOf]; omega
    · have HE : Hid (askAt asks job = -1) := by unfold Hid; rw [hS.out, List.drop_of_length_le (by rw [Hlen.out]; omega)]; rfl
      go_wp2_with fail
      go_ret
      exact ⟨ret_int HE.out.symm, HB.out _⟩

def heldP (job : Int) (nm : ByteArray) (ss : List ByteArray) (d : ItD) : Bool := decide (d.a = job) && wayB d.name d.subs nm ss
def heldUp (held : List ItD) (job : Int) (nm : ByteArray) (ss : List ByteArray) : Bool := held.any (heldP job nm ss)

set_option maxHeartbeats 1000000 in
theorem l24HeldUp_any (A A' S : Option Addr) (n c n' c' m q : Nat) (held : List ItD) (job : Int) (nm : ByteArray) (ss : List ByteArray) (w : World) (h : Its w w.heap.size A n held) (hs : smalls held) (h' : Strs w w.heap.size S m ss) (hm : m ≤ 1048576) :
    Calls Tryz.prog 103 #[.agg #[.slice A n c, .slice A' n' c'], .int .i64 job, .string nm, .slice S m q] w fun e w' => e = .returned (.bool (heldUp held job nm ss)) ∧ Below w.heap.size w w' := by
  have Hh := Lib.hid h
  have Hh' := Lib.hid h'
  have Hlen := Lib.hid h.1
  have hn : n ≤ 1048576 := by rw [← h.1]; exact hs.1
  have Hs := Lib.hid hs.2
  clear h h' hs
  go_enter Tryz.func103, Tryz.ntmps103
  go_wp2_with fail
  go_loopw [9] (fun i wr => ∃ (k : Nat), k ≤ n ∧ i = .int .i64 k ∧ Below (w.heap.size + 1) (w.alloc (.cells #[.slice A n c, .slice A' n' c'] 27)) wr ∧ Hid (heldUp held job nm ss = (held.drop k).any (heldP job nm ss))) (fun i _ => n - (intOf i).toNat)
  case atStart => exact ⟨0, Nat.zero_le _, rfl, Below.refl _ _, rfl⟩
  case round =>
    obtain ⟨k, hk, rfl, hb, hS⟩ := hrel
    have p0 := (Blk.later (heap_alloc_new w _) hb (by omega)).cell
    have hz0 : w.heap.size < wr.heap.size := by have := hb.size; simp at this; omega
    have HB := Lib.hid hb
    have HBw := Lib.hid ((Below.new _ _).trans (hb.mono (by omega)))
    clear hb
    by_cases hlt : k < n
    · obtain ⟨bb, o, rfl, hbB, hc'⟩ := (Hh.out.later HBw.out).2 (by omega)
      obtain ⟨c0, c1, c2, c3, k0, k1, k2, k3, hr⟩ := hc' k hlt
      clear hc'
      have hl1 : k < held.length := by rw [Hlen.out]; exact hlt
      have HS := Lib.hid (any_step (heldP job nm ss) held k hl1)
      have hsm := Hs.out _ (getD_mem held k hl1)
      clear hl1
      generalize held.getD k default = d at *
      obtain ⟨e0, e1, e2, A1, n1, cap1, e3, hs1, _⟩ := hr
      subst e0 e1 e2 e3
      have hn1 : n1 ≤ 1048576 := by rw [← hs1.1]; exact hsm.2.1
      have HK := Lib.hid (fun W (hW : Below wr.heap.size wr W) => l24Way_any d.name nm A1 S n1 cap1 m q d.subs ss W (hs1.later hW) ((Hh'.out.later HBw.out).later hW) hn1 hm)
      have HP : Hid (heldP job nm ss d = (decide (d.a = job) && wayB d.name d.subs nm ss)) := rfl
      clear hs1 hsm
      generalize wayB d.name d.subs nm ss = x at *
      generalize d.a = da at *
      by_cases hj : da = job
      · subst hj
        have HP2 : Hid (heldP da nm ss d = x) := by unfold Hid; rw [HP.out]; simp
        go_wp2_with fail
        refine (HK.out _ (Below.new _ _)).mono ?_
        rintro e w1 ⟨rfl, q1, rfl⟩
        cases x
        · go_wp2_with fail
          go_roundw
          case rel => exact ⟨k + 1, by omega, by go_num, below_drewN (HB.out.alloc (by omega) _) _, by unfold Hid; rw [hS.out, HS.out, HP2.out]; rfl⟩
          case measure => simp [intOf]; omega
        · go_wp2_with fail
          go_ret
          exact ⟨ret_bool (by rw [hS.out, HS.out, HP2.out]; rfl), below_drewN (HBw.out.later (Below.new _ _)) _⟩
      · have HP2 : Hid (heldP job nm ss d = false) := by unfold Hid; rw [HP.out]; simp [hj]
        have hb2 : (da == job) = false := by rw [beq_eq_false_iff_ne]; exact hj
        clear hj
        go_wp2_with fail
        go_roundw
        case rel => exact ⟨k + 1, by omega, by go_num, HB.out.alloc (by omega) _, by unfold Hid; rw [hS.out, HS.out, HP2.out]; rfl⟩
        case measure => simp [intOf]; omega
    · have HE : Hid (heldUp held job nm ss = false) := by unfold Hid; rw [hS.out, List.drop_of_length_le (by rw [Hlen.out]; omega)]; rfl
      go_wp2_with fail
      go_ret
      exact ⟨ret_bool HE.out.symm, HBw.out⟩

def atP (job : Int) (nm : ByteArray) (ss : List ByteArray) (d : ItD) : Bool := decide (d.a = job) && decide (d.name = nm) && eqS d.subs ss
def lockAt (held : List ItD) (job : Int) (nm : ByteArray) (ss : List ByteArray) : Int := idxF (atP job nm ss) held 0

set_option maxHeartbeats 1000000 in
theorem l24At_any (A A' S : Option Addr) (n c n' c' m q : Nat) (held : List ItD) (job : Int) (nm : ByteArray) (ss : List ByteArray) (w : World) (h : Its w w.heap.size A n held) (hs : smalls held) (h' : Strs w w.heap.size S m ss) (hm : m ≤ 1048576) :
    Calls Tryz.prog 61 #[.agg #[.slice A n c, .slice A' n' c'], .int .i64 job, .string nm, .slice S m q] w fun e w' => e = .returned (.int .i64 (lockAt held job nm ss)) ∧ Below w.heap.size w w' := by
  have Hh := Lib.hid h
  have Hh' := Lib.hid h'
  have Hlen := Lib.hid h.1
  have hn : n ≤ 1048576 := by rw [← h.1]; exact hs.1
  have Hs := Lib.hid hs.2
  clear h h' hs
  go_enter Tryz.func61, Tryz.ntmps61
  go_wp2_with fail
  go_loopw [9] (fun i wr => ∃ (k : Nat), k ≤ n ∧ i = .int .i64 k ∧ Below (w.heap.size + 1) (w.alloc (.cells #[.slice A n c, .slice A' n' c'] 27)) wr ∧ Hid (lockAt held job nm ss = idxF (atP job nm ss) (held.drop k) k)) (fun i _ => n - (intOf i).toNat)
  case atStart => exact ⟨0, Nat.zero_le _, rfl, Below.refl _ _, rfl⟩
  case round =>
    obtain ⟨k, hk, rfl, hb, hS⟩ := hrel
    have p0 := (Blk.later (heap_alloc_new w _) hb (by omega)).cell
    have hz0 : w.heap.size < wr.heap.size := by have := hb.size; simp at this; omega
    have HB := Lib.hid hb
    have HBw := Lib.hid ((Below.new _ _).trans (hb.mono (by omega)))
    clear hb
    by_cases hlt : k < n
    · obtain ⟨bb, o, rfl, hbB, hc'⟩ := (Hh.out.later HBw.out).2 (by omega)
      obtain ⟨c0, c1, c2, c3, k0, k1, k2, k3, hr⟩ := hc' k hlt
      clear hc'
      have hl1 : k < held.length := by rw [Hlen.out]; exact hlt
      have HS := Lib.hid (idxF_step (atP job nm ss) held k hl1)
      have hsm := Hs.out _ (getD_mem held k hl1)
      clear hl1
      generalize held.getD k default = d at *
      obtain ⟨e0, e1, e2, A1, n1, cap1, e3, hs1, _⟩ := hr
      subst e0 e1 e2 e3
      have hn1 : n1 ≤ 1048576 := by rw [← hs1.1]; exact hsm.2.1
      have HK := Lib.hid (fun W (hW : Below wr.heap.size wr W) => l24Texts_any A1 S n1 cap1 m q d.subs ss W (hs1.later hW) ((Hh'.out.later HBw.out).later hW) hn1 hm)
      have HP : Hid (atP job nm ss d = (decide (d.a = job) && decide (d.name = nm) && eqS d.subs ss)) := rfl
      clear hs1 hsm
      generalize eqS d.subs ss = x at *
      generalize d.a = da at *
      generalize d.name = dn at *
      have HNo : Hid (atP job nm ss d = false → lockAt held job nm ss = idxF (atP job nm ss) (held.drop (k + 1)) (k + 1)) := fun hf => by rw [hS.out, HS.out, hf]; rfl
      by_cases hj : da = job
      · subst hj
        by_cases hnm : dn = nm
        · subst hnm
          have HP2 : Hid (atP da dn ss d = x) := by unfold Hid; rw [HP.out]; simp
          go_wp2_with fail
          refine (HK.out _ (Below.new _ _)).mono ?_
          rintro e w1 ⟨rfl, q1, rfl⟩
          cases x
          · go_wp2_with fail
            go_roundw
            case rel => exact ⟨k + 1, by omega, by go_num, below_drewN (HB.out.alloc (by omega) _) _, HNo.out HP2.out⟩
            case measure => simp [intOf]; omega
          · go_wp2_with fail
            go_ret
            exact ⟨ret_int (by rw [hS.out, HS.out, HP2.out]; rfl), below_drewN (HBw.out.later (Below.new _ _)) _⟩
        · have HP2 : Hid (atP da nm ss d = false) := by unfold Hid; rw [HP.out]; simp [hnm]
          have hb2 := str_beq hnm
          clear hnm
          go_wp2_with fail
          go_roundw
          case rel => exact ⟨k + 1, by omega, by go_num, HB.out.alloc (by omega) _, HNo.out HP2.out⟩
          case measure => simp [intOf]; omega
      · have HP2 : Hid (atP job nm ss d = false) := by unfold Hid; rw [HP.out]; simp [hj]
        have hb2 : (da == job) = false := by rw [beq_eq_false_iff_ne]; exact hj
        clear hj
        go_wp2_with fail
        go_roundw
        case rel => exact ⟨k + 1, by omega, by go_num, HB.out.alloc (by omega) _, HNo.out HP2.out⟩
        case measure => simp [intOf]; omega
    · have HE : Hid (lockAt held job nm ss = -1) := by unfold Hid; rw [hS.out, List.drop_of_length_le (by rw [Hlen.out]; omega)]; rfl
      go_wp2_with fail
      go_ret
      exact ⟨ret_int HE.out.symm, HBw.out⟩

def roomB (held : List ItD) (job : Int) (nm : ByteArray) (ss : List ByteArray) : Bool :=
  if 0 ≤ lockAt held job nm ss then decide ((held.getD (lockAt held job nm ss).toNat default).b < 9) else decide (held.length < 16)

set_option maxHeartbeats 1000000 in
theorem l24Room_any (A A' S : Option Addr) (n c n' c' m q : Nat) (held : List ItD) (job : Int) (nm : ByteArray) (ss : List ByteArray) (w : World) (h : Its w w.heap.size A n held) (hs : smalls held) (h' : Strs w w.heap.size S m ss) (hm : m ≤ 1048576) :
    Calls Tryz.prog 57 #[.agg #[.slice A n c, .slice A' n' c'], .int .i64 job, .string nm, .slice S m q] w fun e w' => e = .returned (.bool (roomB held job nm ss)) ∧ Below w.heap.size w w' := by
  have HK := Lib.hid (fun o => l24At_any A A' S n c n' c' m q held job nm ss (w.alloc o) (h.alloc o) hs (h'.later (Below.new _ o)) hm)
  have Hh := Lib.hid h
  have hn : n ≤ 1048576 := by rw [← h.1]; exact hs.1
  have Hlen := Lib.hid h.1
  have hbd := idxF_bd (atP job nm ss) held 0
  have HR : Hid (roomB held job nm ss = if 0 ≤ lockAt held job nm ss then decide ((held.getD (lockAt held job nm ss).toNat default).b < 9) else decide (held.length < 16)) := rfl
  generalize roomB held job nm ss = R at *
  change -1 ≤ lockAt held job nm ss ∧ lockAt held job nm ss < (0 : Nat) + held.length at hbd
  obtain ⟨hb1, hb2⟩ := hbd
  rw [h.1] at hb2
  clear h h' hs
  generalize lockAt held job nm ss = k at *
  go_enter Tryz.func57, Tryz.ntmps57
  go_wp2_with fail
  refine (HK.out _).mono ?_
  rintro e w1 ⟨rfl, hb⟩
  have p0 := (Blk.later (heap_alloc_new w _) hb (by simp)).cell
  have hz0 : w.heap.size < w1.heap.size := by have := hb.size; simp at this; omega
  have HBw := Lib.hid ((Below.new _ _).later hb)
  clear hb
  by_cases hk : 0 ≤ k
  · obtain ⟨j, rfl⟩ := Int.eq_ofNat_of_zero_le hk
    have hlt : j < n := by omega
    obtain ⟨bb, o, rfl, hbB, hc'⟩ := (Hh.out.later HBw.out).2 (by omega)
    obtain ⟨c0, c1, c2, c3, k0, k1, k2, k3, hr⟩ := hc' j hlt
    clear hc' k0 k2 k3
    obtain ⟨_, rfl, _, _⟩ := hr
    have HE : Hid (R = decide ((held.getD j default).b < 9)) := by unfold Hid; rw [HR.out, if_pos hk, Int.toNat_natCast]
    generalize (held.getD j default).b = x at *
    go_wp2_with fail
    go_ret
    exact ⟨ret_bool HE.out.symm, HBw.out⟩
  · have HE : Hid (R = decide (n < 16)) := by unfold Hid; rw [HR.out, if_neg hk, Hlen.out]
    go_wp2_with fail
    go_ret
    exact ⟨ret_bool (by rw [HE.out, Bool.eq_iff_iff, decide_eq_true_iff, decide_eq_true_iff]; omega), HBw.out⟩
end Go.Proofs.YtiebcdajoddkpaaGreatDoor
