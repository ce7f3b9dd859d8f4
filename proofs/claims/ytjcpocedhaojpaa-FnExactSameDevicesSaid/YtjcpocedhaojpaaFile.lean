/-
  Files in memory; what szFile, szFileS, toFile, toFileS, eqFile and eqFileS compute.
-/
import Derived.Test.YtjcpocedhaojpaaScr
import Derived.Deep.RegionHeld3
namespace Go.Proofs.Ytjcpocedhaojpaa
open Go.RowKit

structure FileD where
  name : ByteArray
  lines : List ByteArray
  part : ByteArray
  at_ : Int
deriving Inhabited

/-- The four cells of a file. -/
def FileR (w : World) (B : Nat) (c0 c1 c2 c3 : Value) (d : FileD) : Prop :=
  c0 = .string d.name ∧ (∃ A n cap, c1 = .slice A n cap ∧ Strs w B A n d.lines) ∧ c2 = .string d.part ∧ c3 = .int .i64 d.at_

/-- The slice value with address A and length n holds the files fs, below block B. -/
def Files (w : World) (B : Nat) (A : Option Addr) (n : Nat) (fs : List FileD) : Prop :=
  fs.length = n ∧ (0 < n → ∃ b o, A = some ⟨b, o, none⟩ ∧ b < B ∧ ∀ j, j < n → ∃ c0 c1 c2 c3, w.cell? ⟨b, o + j * 4, none⟩ = some c0 ∧ w.cell? ⟨b, o + j * 4 + 1, none⟩ = some c1 ∧ w.cell? ⟨b, o + j * 4 + 2, none⟩ = some c2 ∧ w.cell? ⟨b, o + j * 4 + 3, none⟩ = some c3 ∧ FileR w B c0 c1 c2 c3 (fs.getD j default))

theorem FileR.keep {w w' : World} {B : Nat} {c0 c1 c2 c3 : Value} {d : FileD} (h : FileR w B c0 c1 c2 c3 d) (hk : ∀ p : Addr, p.block < B → w'.cell? p = w.cell? p) : FileR w' B c0 c1 c2 c3 d := by
  obtain ⟨e0, ⟨A, n, cap, e1, hs⟩, e2, e3⟩ := h
  exact ⟨e0, ⟨A, n, cap, e1, hs.keep hk⟩, e2, e3⟩
theorem FileR.more {w : World} {B B' : Nat} {c0 c1 c2 c3 : Value} {d : FileD} (h : FileR w B c0 c1 c2 c3 d) (hB : B ≤ B') : FileR w B' c0 c1 c2 c3 d := by
  obtain ⟨e0, ⟨A, n, cap, e1, hs⟩, e2, e3⟩ := h
  exact ⟨e0, ⟨A, n, cap, e1, hs.more hB⟩, e2, e3⟩
theorem FileR.later {w w' : World} {c0 c1 c2 c3 : Value} {d : FileD} (h : FileR w w.heap.size c0 c1 c2 c3 d) (hb : Below w.heap.size w w') : FileR w' w'.heap.size c0 c1 c2 c3 d :=
  (h.keep fun _ hp => hb.cell hp).more hb.size
section
variable {w w' : World} {B B' n : Nat} {A : Option Addr} {fs : List FileD}
theorem Files.keep (h : Files w B A n fs) (hk : ∀ p : Addr, p.block < B → w'.cell? p = w.cell? p) : Files w' B A n fs :=
  ⟨h.1, fun hn => by
    obtain ⟨b, o, e, hb, hc⟩ := h.2 hn
    refine ⟨b, o, e, hb, fun j hj => ?_⟩
    obtain ⟨c0, c1, c2, c3, h0, h1, h2, h3, hr⟩ := hc j hj
    exact ⟨c0, c1, c2, c3, (hk _ hb).trans h0, (hk _ hb).trans h1, (hk _ hb).trans h2, (hk _ hb).trans h3, hr.keep hk⟩⟩
theorem Files.more (h : Files w B A n fs) (hB : B ≤ B') : Files w B' A n fs :=
  ⟨h.1, fun hn => by
    obtain ⟨b, o, e, hb, hc⟩ := h.2 hn
    refine ⟨b, o, e, by omega, fun j hj => ?_⟩
    obtain ⟨c0, c1, c2, c3, h0, h1, h2, h3, hr⟩ := hc j hj
    exact ⟨c0, c1, c2, c3, h0, h1, h2, h3, hr.more hB⟩⟩
theorem Files.later (h : Files w w.heap.size A n fs) (hb : Below w.heap.size w w') : Files w' w'.heap.size A n fs := (h.keep fun _ hp => hb.cell hp).more hb.size
theorem Files.alloc (h : Files w w.heap.size A n fs) (o : Obj) : Files (w.alloc o) (w.alloc o).heap.size A n fs := h.later (Below.new _ _)
end

def FileD.fine (d : FileD) : Prop := d.name.size ≤ maxLen ∧ (∀ s ∈ d.lines, s.size ≤ maxLen) ∧ d.lines.length ≤ maxLen ∧ d.part.size ≤ maxLen

def szF (d : FileD) (left : Int) : Int :=
  if left - d.name.size < 0 then -1 else
  if szS d.lines (left - d.name.size) < 0 then -1 else
  if szS d.lines (left - d.name.size) - d.part.size < 0 then -1 else szS d.lines (left - d.name.size) - d.part.size

theorem szF_ge (d : FileD) (left : Int) : -1 ≤ szF d left := by
  unfold szF
  repeat' split
  all_goals omega
theorem szF_le (d : FileD) (left : Int) : szF d left ≤ left ∨ szF d left = -1 := by
  unfold szF
  split
  · omega
  · have := szS_le d.lines (left - d.name.size) (by omega)
    repeat' split
    all_goals omega

set_option maxHeartbeats 1000000 in
theorem szFile_any (c0 c1 c2 c3 : Value) (d : FileD) (left : Int) (w : World) (h : FileR w w.heap.size c0 c1 c2 c3 d) (hf : d.fine)
    (h0 : 0 ≤ left) (h1 : left ≤ 1048576) :
    Calls Try.prog 51 #[.agg #[c0, c1, c2, c3], .int .i64 left] w fun e w' => e = .returned (.int .i64 (szF d left)) ∧ Below w.heap.size w w' := by
  obtain ⟨rfl, ⟨A, n, cap, rfl, hs⟩, rfl, rfl⟩ := h
  obtain ⟨f1, f2, f3, f4⟩ := hf
  rw [hs.1] at f3
  have K := fun (l : Int) (hl0 : 0 ≤ l) (hl1 : l ≤ 1048576) o => szStringS_any A n cap d.lines l _ (hs.alloc o) hl0 hl1 f2 f3
  have HK := Lib.hid K
  have hbb : ∀ o, Below w.heap.size w (w.alloc o) := fun o => Below.new w o
  have HB := Lib.hid hbb
  unfold maxLen at f1 f4
  have hR : szF d left = szF d left := rfl
  conv at hR => rhs; unfold szF
  have hle := szS_le d.lines (left - d.name.size)
  have hge := szS_ge d.lines (left - d.name.size)
  clear K hbb f2 f3 hs
  generalize szF d left = R at *
  generalize d.name = nm at *
  generalize d.part = pt at *
  generalize d.at_ = at0 at *
  by_cases a1 : left - nm.size < 0
  · have HE : Hid (R = -1) := by rw [hR, if_pos a1]; exact rfl
    clear hR
    go_enter Try.func51, Try.ntmps51
    go_wp2_with fail
    go_ret
    exact ⟨ret_int HE.out.symm, HB.out _⟩
  · rw [if_neg a1] at hR
    have hle := hle (by omega)
    have hge := hge (by omega)
    have HK' := Lib.hid (fun o => HK.out (left - nm.size) (by omega) (by omega) o)
    clear HK
    generalize szS d.lines (left - nm.size) = x at *
    have HR := Lib.hid hR
    clear hR
    go_enter Try.func51, Try.ntmps51
    go_wp2_with fail
    refine (HK'.out _).mono ?_
    rintro e w1 ⟨rfl, rfl⟩
    by_cases a2 : x < 0
    · have HE : Hid (R = -1) := by rw [HR.out, if_pos a2]; exact rfl
      go_wp2_with fail
      go_ret
      exact ⟨ret_int HE.out.symm, HB.out _⟩
    · by_cases a3 : x - pt.size < 0
      · have HE : Hid (R = -1) := by rw [HR.out, if_neg a2, if_pos a3]; exact rfl
        go_wp2_with fail
        go_ret
        exact ⟨ret_int HE.out.symm, HB.out _⟩
      · have HE : Hid (R = x - pt.size) := by rw [HR.out, if_neg a2, if_neg a3]; exact rfl
        go_wp2_with fail
        go_ret
        exact ⟨ret_int HE.out.symm, HB.out _⟩

/-- The room that is left behind some files. -/
def szFL : List FileD → Int → Int
  | [], left => left
  | d :: r, left => if szF d left < 0 then -1 else szFL r (szF d left)
def szFS (fs : List FileD) (left : Int) : Int := if left - fs.length < 0 then -1 else szFL fs (left - fs.length)

theorem szFL_step (fs : List FileD) (k : Nat) (left : Int) (hk : k < fs.length) :
    szFL (fs.drop k) left = if szF (fs.getD k default) left < 0 then -1 else szFL (fs.drop (k + 1)) (szF (fs.getD k default) left) := by
  rw [List.drop_eq_getElem_cons hk]
  simp [szFL, List.getD_eq_getElem?_getD, List.getElem?_eq_getElem hk]

set_option maxHeartbeats 1000000 in
theorem szFileS_any (A : Option Addr) (n c : Nat) (fs : List FileD) (left : Int) (w : World) (h : Files w w.heap.size A n fs) (hf : ∀ d ∈ fs, d.fine)
    (h0 : 0 ≤ left) (h1 : left ≤ 1048576) (hn : n ≤ maxLen) :
    Calls Try.prog 33 #[.slice A n c, .int .i64 left] w fun e w' => e = .returned (.int .i64 (szFS fs left)) ∧ Below w.heap.size w w' := by
  have Hh := Lib.hid h
  have Hlen := Lib.hid h.1
  have Hf := Lib.hid hf
  unfold maxLen at hn
  clear h hf
  by_cases hl : left - n < 0
  · have HE : Hid (szFS fs left = -1) := by unfold Hid szFS; rw [Hlen.out, if_pos hl]
    go_enter Try.func33, Try.ntmps33
    go_wp2
    go_ret
    exact ⟨ret_int HE.out.symm, Below.refl _ _⟩
  · have HE : Hid (szFS fs left = szFL fs (left - n)) := by unfold Hid szFS; rw [Hlen.out, if_neg hl]
    go_enter Try.func33, Try.ntmps33
    go_wp2_with fail
    go_loopw [1, 5] (fun l i wr => ∃ (k : Nat) (m : Int), k ≤ n ∧ 0 ≤ m ∧ m ≤ left ∧ i = .int .i64 k ∧ l = .int .i64 m ∧ Below w.heap.size w wr ∧ Hid (szFS fs left = szFL (fs.drop k) m)) (fun _ i _ => n - (intOf i).toNat)
    case atStart => exact ⟨0, left - n, Nat.zero_le _, by omega, by omega, rfl, rfl, Below.refl _ _, HE.out⟩
    case round =>
      obtain ⟨k, m, hk, hm0, hm1, rfl, rfl, hb, hS⟩ := hrel
      have HB := Lib.hid hb
      clear hb
      by_cases hlt : k < n
      · obtain ⟨b, o, rfl, hbB, hc⟩ := (Hh.out.later HB.out).2 (by omega)
        obtain ⟨c0, c1, c2, c3, k0, k1, k2, k3, hr⟩ := hc k hlt
        clear hc
        have hl' : k < fs.length := by rw [Hlen.out]; exact hlt
        have HS := Lib.hid (szFL_step fs k m hl')
        have HF := Lib.hid (Hf.out (fs.getD k default) (by rw [List.getD_eq_getElem?_getD, List.getElem?_eq_getElem hl']; simp))
        clear hl'
        have HR := Lib.hid hr
        clear hr
        have hge := szF_ge (fs.getD k default) m
        have hle := szF_le (fs.getD k default) m
        have HK := Lib.hid (szFile_any c0 c1 c2 c3 (fs.getD k default) m wr HR.out HF.out hm0 (by omega))
        generalize szF (fs.getD k default) m = x at *
        go_wp2_with fail
        refine (HK.out).mono ?_
        rintro e w1 ⟨rfl, hb1⟩
        have HB1 := Lib.hid (HB.out.later hb1)
        clear hb1
        by_cases hx : x < 0
        · have HE2 : Hid (szFS fs left = -1) := by unfold Hid; rw [hS.out, HS.out, if_pos hx]
          go_wp2_with fail
          go_ret
          exact ⟨ret_int HE2.out.symm, HB1.out⟩
        · have HE2 : Hid (szFS fs left = szFL (fs.drop (k + 1)) x) := by unfold Hid; rw [hS.out, HS.out, if_neg hx]
          go_wp2_with fail
          go_roundw
          case rel => exact ⟨k + 1, x, by omega, by omega, by omega, by go_num, rfl, HB1.out, HE2.out⟩
          case measure => simp [intOf]; omega
      · go_wp2_with fail
        go_ret
        exact ⟨ret_int (by rw [hS.out, List.drop_of_length_le (by rw [Hlen.out]; omega)]; rfl), HB.out⟩
end Go.Proofs.Ytjcpocedhaojpaa
