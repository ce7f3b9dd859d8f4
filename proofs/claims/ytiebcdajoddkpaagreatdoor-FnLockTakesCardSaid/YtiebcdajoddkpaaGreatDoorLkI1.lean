/-
  Locks of the program: slices.IndexFunc and ContainsFunc over locks and asks; what heldOk computes.
-/
import Derived.Test.YtiebcdajoddkpaaGreatDoorOrdImpl3
import Derived.Test.YtiebcdajoddkpaaGreatDoorLk5
namespace Go.Proofs.YtiebcdajoddkpaaGreatDoor
open Go.RowKit

theorem idxF_any {α : Type} (p : α → Bool) : ∀ (l : List α) (k : Nat), decide (0 ≤ idxF p l k) = l.any p
  | [], k => by simp [idxF]
  | d :: r, k => by
    unfold idxF
    rw [List.any_cons, ← idxF_any p r (k + 1)]
    by_cases h : p d = true
    · simp [h]
    · simp [h]

/-- What is asked of a function value that is handed one lock or ask. -/
def PredIt (g : Nat) (lb : Array Value) (p : ItD → Bool) (fs : List ItD) (w : World) : Prop :=
  ∀ d ∈ fs, ∀ c0 c1 c2 c3 W, Below w.heap.size w W → ItR W W.heap.size c0 c1 c2 c3 d → Calls Tryz.prog g (#[.agg #[c0, c1, c2, c3]] ++ lb) W fun e w' => e = .returned (.bool (p d)) ∧ Below W.heap.size W w'

set_option maxHeartbeats 400000 in
theorem IndexFuncL_any (g : Nat) (lb : Array Value) (p : ItD → Bool) (A : Option Addr) (n c : Nat) (fs : List ItD) (w : World) (h : Its w w.heap.size A n fs) (hn : n ≤ 1048576)
    (eg : ∀ args w, (callFunc g args).run Tryz.prog w = .ok (.enter g args) w) (hg : PredIt g lb p fs w) :
    Calls Tryz.prog 122 #[.slice A n c, .func (.func g) #[] lb] w fun e w' => e = .returned (.int .i64 (idxF p fs 0)) ∧ Below w.heap.size w w' := by
  have Hh := Lib.hid h
  have Hlen := Lib.hid h.1
  have Hg := Lib.hid hg
  clear h hg
  go_enter Tryz.func122, Tryz.ntmps122
  go_wp2_with fail
  go_loopw [8] (fun i wr => ∃ k : Nat, k ≤ n ∧ i = .int .i64 k ∧ Below w.heap.size w wr ∧ Hid (idxF p fs 0 = idxF p (fs.drop k) k)) (fun i _ => n - (intOf i).toNat)
  case atStart => exact ⟨0, Nat.zero_le _, rfl, Below.refl _ _, rfl⟩
  case round =>
    obtain ⟨k, hk, rfl, hb, hS⟩ := hrel
    have HB := Lib.hid hb
    clear hb
    by_cases hlt : k < n
    · obtain ⟨b, o, rfl, hbB, hcell⟩ := (Hh.out.later HB.out).2 (by omega)
      obtain ⟨c0, c1, c2, c3, k0, k1, k2, k3, hr⟩ := hcell k hlt
      clear hcell
      have hl : k < fs.length := by rw [Hlen.out]; exact hlt
      have HS := Lib.hid (idxF_step p fs k hl)
      have HK := Lib.hid (Hg.out (fs.getD k default) (getD_mem fs k hl) c0 c1 c2 c3 wr HB.out hr)
      clear hl hr
      generalize fs.getD k default = s at *
      generalize hx : p s = x at *
      have HX := Lib.hid hx
      clear hx
      go_wp2_with fail
      refine HK.out.mono ?_
      rintro e w' ⟨rfl, hb1⟩
      have HB1 := Lib.hid (HB.out.later hb1)
      clear hb1
      cases x
      · go_wp2_with fail
        go_roundw
        case rel => exact ⟨k + 1, by omega, by go_num, HB1.out, by unfold Hid; rw [hS.out, HS.out]; rfl⟩
        case measure => simp [intOf]; omega
      · go_wp2_with fail
        go_ret
        exact ⟨ret_int (by rw [hS.out, HS.out]; rfl), HB1.out⟩
    · have HE : Hid (idxF p fs 0 = -1) := by unfold Hid; rw [hS.out, List.drop_of_length_le (by rw [Hlen.out]; omega)]; rfl
      go_wp2_with fail
      go_ret
      exact ⟨ret_int HE.out.symm, HB.out⟩

set_option maxHeartbeats 400000 in
theorem IndexFuncA_any (g : Nat) (lb : Array Value) (p : ItD → Bool) (A : Option Addr) (n c : Nat) (fs : List ItD) (w : World) (h : Its w w.heap.size A n fs) (hn : n ≤ 1048576)
    (eg : ∀ args w, (callFunc g args).run Tryz.prog w = .ok (.enter g args) w) (hg : PredIt g lb p fs w) :
    Calls Tryz.prog 86 #[.slice A n c, .func (.func g) #[] lb] w fun e w' => e = .returned (.int .i64 (idxF p fs 0)) ∧ Below w.heap.size w w' := by
  have Hh := Lib.hid h
  have Hlen := Lib.hid h.1
  have Hg := Lib.hid hg
  clear h hg
  go_enter Tryz.func86, Tryz.ntmps86
  go_wp2_with fail
  go_loopw [8] (fun i wr => ∃ k : Nat, k ≤ n ∧ i = .int .i64 k ∧ Below w.heap.size w wr ∧ Hid (idxF p fs 0 = idxF p (fs.drop k) k)) (fun i _ => n - (intOf i).toNat)
  case atStart => exact ⟨0, Nat.zero_le _, rfl, Below.refl _ _, rfl⟩
  case round =>
    obtain ⟨k, hk, rfl, hb, hS⟩ := hrel
    have HB := Lib.hid hb
    clear hb
    by_cases hlt : k < n
    · obtain ⟨b, o, rfl, hbB, hcell⟩ := (Hh.out.later HB.out).2 (by omega)
      obtain ⟨c0, c1, c2, c3, k0, k1, k2, k3, hr⟩ := hcell k hlt
      clear hcell
      have hl : k < fs.length := by rw [Hlen.out]; exact hlt
      have HS := Lib.hid (idxF_step p fs k hl)
      have HK := Lib.hid (Hg.out (fs.getD k default) (getD_mem fs k hl) c0 c1 c2 c3 wr HB.out hr)
      clear hl hr
      generalize fs.getD k default = s at *
      generalize hx : p s = x at *
      have HX := Lib.hid hx
      clear hx
      go_wp2_with fail
      refine HK.out.mono ?_
      rintro e w' ⟨rfl, hb1⟩
      have HB1 := Lib.hid (HB.out.later hb1)
      clear hb1
      cases x
      · go_wp2_with fail
        go_roundw
        case rel => exact ⟨k + 1, by omega, by go_num, HB1.out, by unfold Hid; rw [hS.out, HS.out]; rfl⟩
        case measure => simp [intOf]; omega
      · go_wp2_with fail
        go_ret
        exact ⟨ret_int (by rw [hS.out, HS.out]; rfl), HB1.out⟩
    · have HE : Hid (idxF p fs 0 = -1) := by unfold Hid; rw [hS.out, List.drop_of_length_le (by rw [Hlen.out]; omega)]; rfl
      go_wp2_with fail
      go_ret
      exact ⟨ret_int HE.out.symm, HB.out⟩

set_option maxHeartbeats 400000 in
theorem ContainsFuncL_any (g : Nat) (lb : Array Value) (p : ItD → Bool) (A : Option Addr) (n c : Nat) (fs : List ItD) (w : World) (h : Its w w.heap.size A n fs) (hn : n ≤ 1048576)
    (eg : ∀ args w, (callFunc g args).run Tryz.prog w = .ok (.enter g args) w) (hg : PredIt g lb p fs w) :
    Calls Tryz.prog 119 #[.slice A n c, .func (.func g) #[] lb] w fun e w' => e = .returned (.bool (fs.any p)) ∧ Below w.heap.size w w' := by
  have HK := Lib.hid (IndexFuncL_any g lb p A n c fs w h hn eg hg)
  have hE := idxF_any p fs 0
  clear h hg eg
  generalize fs.any p = R at *
  generalize idxF p fs 0 = x at *
  have HE := Lib.hid hE
  clear hE
  go_enter Tryz.func119, Tryz.ntmps119
  go_wp2_with fail
  refine HK.out.mono ?_
  rintro e w' ⟨rfl, hb1⟩
  have HB1 := Lib.hid hb1
  clear hb1
  go_wp2_with fail
  go_ret
  exact ⟨ret_bool HE.out, HB1.out⟩

theorem wayB_comm (n n' : ByteArray) (s s' : List ByteArray) : wayB n s n' s' = wayB n' s' n s := by
  unfold wayB
  rw [Bool.or_comm]
  by_cases h : n = n'
  · subst h; rfl
  · have h' : ¬ n' = n := fun e => h e.symm
    simp [h, h']
theorem Its.take {w : World} {B n : Nat} {A : Option Addr} {fs : List ItD} (h : Its w B A n fs) (m : Nat) (hm : m ≤ n) : Its w B A m (fs.take m) :=
  ⟨by rw [List.length_take, h.1]; omega, fun hp => by
    obtain ⟨b, o, e, hb, hc⟩ := h.2 (by omega)
    refine ⟨b, o, e, hb, fun j hj => ?_⟩
    rw [take_getD fs m j hj]
    exact hc j (by omega)⟩

/-- A box that holds one lock or ask. -/
def BoxIt (w : World) (g : Nat) (d : ItD) : Prop := g < w.heap.size ∧ ∃ c0 c1 c2 c3, w.cell? ⟨g, 0, none⟩ = some c0 ∧ w.cell? ⟨g, 1, none⟩ = some c1 ∧ w.cell? ⟨g, 2, none⟩ = some c2 ∧ w.cell? ⟨g, 3, none⟩ = some c3 ∧ ItR w w.heap.size c0 c1 c2 c3 d
theorem BoxIt.later {w w' : World} {g : Nat} {d : ItD} (h : BoxIt w g d) (hb : Below w.heap.size w w') : BoxIt w' g d := by
  obtain ⟨hg, c0, c1, c2, c3, h0, h1, h2, h3, hr⟩ := h
  exact ⟨Nat.lt_of_lt_of_le hg hb.size, c0, c1, c2, c3, cell_later hb h0, cell_later hb h1, cell_later hb h2, cell_later hb h3, hr.later hb⟩
theorem BoxIt.new {w : World} {c0 c1 c2 c3 : Value} {d : ItD} (h : ItR w w.heap.size c0 c1 c2 c3 d) (t : TypeId) : BoxIt (w.alloc (.cells #[c0, c1, c2, c3] t)) w.heap.size d := by
  have r := (show Blk _ _ _ _ from heap_alloc_new w (.cells #[c0, c1, c2, c3] t)).cell
  exact ⟨by simp, c0, c1, c2, c3, r 0, r 1, r 2, r 3, h.later (Below.new _ _)⟩

set_option maxHeartbeats 1000000 in
theorem heldOk1_any (g : Nat) (c0 c1 c2 c3 : Value) (d f : ItD) (w : World) (h : ItR w w.heap.size c0 c1 c2 c3 f) (hs : f.small) (hB : BoxIt w g d) (hs' : d.small) :
    Calls Tryz.prog 120 #[.agg #[c0, c1, c2, c3], .pointer (some ⟨g, 0, none⟩)] w fun e w' => e = .returned (.bool (apP d f)) ∧ Below w.heap.size w w' := by
  obtain ⟨rfl, rfl, rfl, A, n, cap, rfl, h3, hcap⟩ := h
  obtain ⟨hg, b0, b1, b2, b3, k0, k1, k2, k3, rfl, rfl, rfl, A', n', cap', rfl, h3', hcap'⟩ := hB
  have hn : n ≤ 1048576 := by rw [← h3.1]; exact hs.2.1
  have hn' : n' ≤ 1048576 := by rw [← h3'.1]; exact hs'.2.1
  have HK := Lib.hid (fun W (hW : Below w.heap.size w W) => conflict_any d.name f.name A' A n' cap' n cap d.subs f.subs W (h3'.later hW) (h3.later hW) hn' hn hcap' hcap)
  have HP : Hid (apP d f = (decide (f.a ≠ d.a) && wayB d.name d.subs f.name f.subs)) := by unfold Hid apP; rw [wayB_comm]
  clear h3 h3' hs hs'
  generalize apP d f = R at *
  generalize wayB d.name d.subs f.name f.subs = x at *
  generalize f.a = fa at *
  generalize d.a = da at *
  by_cases hj : fa = da
  · subst hj
    have HE : Hid (R = false) := by unfold Hid; rw [HP.out]; simp
    go_enter Tryz.func120, Tryz.ntmps120
    go_wp2_with fail
    go_ret
    exact ⟨ret_bool HE.out.symm, Below.new _ _⟩
  · have hb : (fa != da) = true := by rw [bne_iff_ne]; exact hj
    have HE : Hid (R = x) := by unfold Hid; rw [HP.out]; simp [hj]
    clear hj
    go_enter Tryz.func120, Tryz.ntmps120
    go_wp2_with fail
    refine (HK.out _ (Below.new _ _)).mono ?_
    rintro e w1 ⟨rfl, q1, rfl⟩
    go_wp2_with fail
    go_ret
    exact ⟨ret_bool HE.out.symm, below_drewN (Below.new _ _) _⟩
end Go.Proofs.YtiebcdajoddkpaaGreatDoor
