/-
  What markText, markStringS and heldStringS compute: a mark's text; marks written into a slice of strings; whether they stand there.
-/
import Derived.Test.YtiebcdajoddkpaaGreatDoorSz
import Derived.Test.YtiebcdajoddkpaaGreatDoorBlk
import Derived.Deep.RegionHeld3
namespace Go.Proofs.YtiebcdajoddkpaaGreatDoor
open Go.RowKit

/-- The decimal digits of n, ahead of out. -/
def digs : Nat → Nat → List UInt8 → List UInt8
  | 0, _, out => out
  | f + 1, n, out => if n = 0 then out else digs f (n / 10) (UInt8.ofNat (48 + n % 10) :: out)
def markL (k : Nat) : List UInt8 := if k = 0 then [109, 48] else 109 :: digs 63 k []
def markT (k : Nat) : ByteArray := ⟨(markL k).toArray⟩

theorem digs_len : ∀ (f n : Nat) (out : List UInt8), (digs f n out).length ≤ out.length + f
  | 0, _, out => by simp [digs]
  | f + 1, n, out => by
    unfold digs
    split
    · omega
    · have := digs_len f (n / 10) (UInt8.ofNat (48 + n % 10) :: out)
      simp only [List.length_cons] at this
      omega
theorem digs_step (f n : Nat) (out : List UInt8) (h : n ≠ 0) : digs (f + 1) n out = digs f (n / 10) (UInt8.ofNat (48 + n % 10) :: out) := by
  rw [digs, if_neg h]
theorem digs_zero (f : Nat) (out : List UInt8) : digs f 0 out = out := by cases f <;> simp [digs]

theorem ret_st {a b : ByteArray} (h : a = b) : Ending.returned (.string a) = .returned (.string b) := by rw [h]
/-- string([]byte{n}): one byte. -/
theorem conv_one {P : Program} (src dst e : TypeId) (hs : P.underlying src = some (.slice e)) (he : P.underlying e = some (.int .u8)) (hd : P.underlying dst = some .string) (w : World) (n : Nat) (hn : n < 256) :
    (convert src dst (.slice (some ⟨w.heap.size, 0, none⟩) 1 1)).run P (w.alloc (.cells #[.int .u8 (n : Int)] e)) = .ok (.string ⟨#[UInt8.ofNat n]⟩) (w.alloc (.cells #[.int .u8 (n : Int)] e)) := by
  have := run_convert_bytes_back (P := P) (w.alloc (.cells #[.int .u8 (n : Int)] e)) src dst e ⟨w.heap.size, 0, none⟩ 1 [UInt8.ofNat n] hs he hd (fun j hj => by
    obtain rfl : j = 0 := by simpa using hj
    have h := cell_of_row _ w.heap.size 0 #[.int .u8 (n : Int)] e (0, 0) (heap_alloc_new w (.cells #[.int .u8 (n : Int)] e))
    simp only [Addr.add, if_pos]
    rw [h]
    simp [Nat.mod_eq_of_lt hn])
  simpa using this

set_option maxHeartbeats 400000 in
theorem markText_any (k : Nat) (w : World) (hk : k ≤ 4611686018427387904) :
    Calls Tryz.prog 73 #[.int .i64 k] w fun e w' => e = .returned (.string (markT k)) ∧ Below w.heap.size w w' := by
  by_cases h0 : k = 0
  · subst h0
    have HE : Hid (markT 0 = ⟨#[109, 48]⟩) := rfl
    go_enter Tryz.func73, Tryz.ntmps73
    go_wp2_with fail
    go_ret
    exact ⟨ret_st HE.out.symm, Below.refl _ _⟩
  · have hpos : 0 < k := by omega
    have HE : Hid (markL k = 109 :: digs 63 k []) := if_neg h0
    clear h0
    go_enter Tryz.func73, Tryz.ntmps73
    go_wp2_with fail
    go_loopw [0, 3] (fun n s wr => ∃ (f m : Nat) (out : List UInt8), n = .int .i64 m ∧ s = .string ⟨out.toArray⟩ ∧ m < 2 ^ f ∧ f ≤ 63 ∧ out.length ≤ 63 - f ∧ m ≤ 4611686018427387904 ∧ Below w.heap.size w wr ∧ Hid (digs f m out = digs 63 k [])) (fun n _ _ => (intOf n).toNat)
    case atStart => exact ⟨63, k, [], rfl, rfl, by omega, by omega, by simp, hk, Below.refl _ _, rfl⟩
    case round =>
      obtain ⟨f, m, out, rfl, rfl, hf, hf2, hl, hm, hb, hS⟩ := hrel
      have HB := Lib.hid hb
      clear hb
      by_cases hm0 : 0 < m
      · obtain ⟨f', rfl⟩ : ∃ f', f = f' + 1 := ⟨f - 1, by cases f with | zero => simp at hf; omega | succ f => rfl⟩
        have HS := Lib.hid (digs_step f' m out (by omega))
        have HF : Hid (m / 10 < 2 ^ f') := by unfold Hid; rw [Nat.pow_succ] at hf; omega
        clear hf
        have hcv := conv_one (P := Tryz.prog) 22 9 5 Tryz.underlying22 Tryz.underlying5 Tryz.underlying9 wr (48 + m % 10) (by omega)
        rw [show ((48 + m % 10 : Nat) : Int) = 48 + (m : Int) % 10 from by omega] at hcv
        have hlen : out.length ≤ 63 := by omega
        have HN : Hid (∀ o, Below w.heap.size w (wr.alloc o)) := fun o => HB.out.later (Below.new _ o)
        have HC : Hid ((⟨#[UInt8.ofNat (48 + m % 10)]⟩ : ByteArray) ++ ⟨out.toArray⟩ = ⟨(UInt8.ofNat (48 + m % 10) :: out).toArray⟩) := by
          unfold Hid
          apply ByteArray.ext
          simp
        generalize UInt8.ofNat (48 + m % 10) = dg at *
        go_wp2_with fail
        go_roundw
        case rel => exact ⟨f', m / 10, dg :: out, by go_num, by rw [HC.out], HF.out, by omega, by simp only [List.length_cons]; omega, by omega, HN.out _, by unfold Hid; rw [← HS.out]; exact hS.out⟩
        case measure => simp [intOf]; omega
      · obtain rfl : m = 0 := by omega
        have HE2 : Hid ((⟨#[109]⟩ : ByteArray) ++ ⟨out.toArray⟩ = markT k) := by
          unfold Hid
          have h1 : out = digs 63 k [] := by rw [← hS.out, digs_zero]
          apply ByteArray.ext
          simp [markT, HE.out, h1]
        have hlen : out.length ≤ 63 := by omega
        clear hf
        go_wp2_with fail
        go_ret
        exact ⟨ret_st HE2.out, HB.out⟩

/-- n marks from k on. -/
def marks : Nat → Nat → List ByteArray
  | 0, _ => []
  | n + 1, k => markT k :: marks n (k + 1)
theorem marks_len : ∀ (n k : Nat), (marks n k).length = n
  | 0, _ => rfl
  | n + 1, k => by simp [marks, marks_len n (k + 1)]
theorem marks_at : ∀ (n k j : Nat), j < n → (marks n k).getD j ByteArray.empty = markT (k + j)
  | 0, _, _, h => absurd h (by omega)
  | n + 1, k, 0, _ => rfl
  | n + 1, k, j + 1, h => by
    have := marks_at n (k + 1) j (by omega)
    simp only [marks, List.getD_cons_succ]
    rw [this]; congr 1; omega

/-- The strings ss lie in block g from place o on, and the block is known whole. -/
def OwnS (w : World) (g o : Nat) (ss : List ByteArray) : Prop := ∃ cs, Blk w g 9 cs ∧ ∀ j, j < ss.length → cs[o + j]? = some (.string (ss.getD j ByteArray.empty))
/-- The slice value with address A and length n holds the strings ss in block g (which matters where n is not 0 alone). -/
def OwnA (w : World) (A : Option Addr) (n g : Nat) (ss : List ByteArray) : Prop := ss.length = n ∧ (0 < n → ∃ o, A = some ⟨g, o, none⟩ ∧ OwnS w g o ss)

theorem OwnA.strs {w : World} {A : Option Addr} {n g : Nat} {ss : List ByteArray} (h : OwnA w A n g ss) : Strs w w.heap.size A n ss :=
  ⟨h.1, fun hn => by
    obtain ⟨o, e, cs, hb, hc⟩ := h.2 hn
    exact ⟨g, o, e, hb.lt, fun j hj => by rw [hb.cell]; exact hc j (by rw [h.1]; exact hj)⟩⟩
theorem OwnA.grown {w w' : World} {A : Option Addr} {n g : Nat} {ss : List ByteArray} {row : Option Nat} (h : OwnA w A n g ss) (hg : w.grownBy w' row) (hne : some g ≠ row) : OwnA w' A n g ss :=
  ⟨h.1, fun hn => by
    obtain ⟨o, e, cs, hb, hc⟩ := h.2 hn
    exact ⟨o, e, cs, hb.grown hg hne, hc⟩⟩
theorem OwnA.later {w w' : World} {A : Option Addr} {n g : Nat} {ss : List ByteArray} (h : OwnA w A n g ss) (hb : Below w.heap.size w w') : OwnA w' A n g ss :=
  ⟨h.1, fun hn => by
    obtain ⟨o, e, cs, hk, hc⟩ := h.2 hn
    exact ⟨o, e, cs, hk.later hb hk.lt, hc⟩⟩

theorem grown_trans' {a b c : World} {row : Option Nat} (h : a.grownBy b row) (k : b.grownBy c row) : a.grownBy c row :=
  ⟨k.os.trans h.os, k.tape.trans h.tape, k.output.trans h.output, Nat.le_trans h.size k.size, fun i hi hne => (k.block i (Nat.lt_of_lt_of_le hi h.size) hne).trans (h.block i hi hne)⟩
theorem grown_of_below {a w : World} (h : Below a.heap.size a w) (row : Option Nat) : a.grownBy w row := ⟨h.os, h.tape, h.output, h.size, fun i hi _ => h.block i hi⟩
theorem grown_setCell {a w : World} {g : Nat} (h : a.grownBy w (some g)) (o : Nat) (u : Value) : a.grownBy (w.setCell ⟨g, o, none⟩ u) (some g) :=
  ⟨h.os, h.tape, h.output, by simpa [World.setCell] using h.size, fun i hi hne => (Below.heap_setCell w ⟨g, o, none⟩ u i (by
    rintro rfl
    exact hne rfl)).trans (h.block i hi hne)⟩

set_option maxHeartbeats 1000000 in
theorem markStringS_any (A : Option Addr) (n c g k : Nat) (ss : List ByteArray) (w : World) (h : OwnA w A n g ss) (hn : n ≤ 1048576) (hk : k ≤ 1099511627776) :
    Calls Tryz.prog 32 #[.slice A n c, .int .i64 k] w fun e w' => e = .returned (.int .i64 (k + n : Nat)) ∧ OwnA w' A n g (marks n k) ∧ w.grownBy w' (some g) := by
  have Hlen := Lib.hid h.1
  have Hh := Lib.hid h.2
  clear h
  go_enter Tryz.func32, Tryz.ntmps32
  go_wp2_with fail
  go_loopw [1, 5] (fun q i wr => ∃ (j : Nat), j ≤ n ∧ i = .int .i64 j ∧ q = .int .i64 (k + j : Nat) ∧ w.grownBy wr (some g) ∧ Hid (0 < n → ∃ o cs, A = some ⟨g, o, none⟩ ∧ Blk wr g 9 cs ∧ (∀ i, i < n → ∃ s, cs[o + i]? = some (.string s)) ∧ ∀ i, i < j → cs[o + i]? = some (.string (markT (k + i))))) (fun _ i _ => n - (intOf i).toNat)
  case atStart =>
    refine ⟨0, Nat.zero_le _, rfl, rfl, World.grownBy.refl w _, fun hp => ?_⟩
    obtain ⟨o, e, cs, hb, hc⟩ := Hh.out hp
    exact ⟨o, cs, e, hb, fun i hi => ⟨_, hc i (by rw [Hlen.out]; exact hi)⟩, fun i hi => absurd hi (by omega)⟩
  case round =>
    obtain ⟨j, hj, rfl, rfl, hg, hO⟩ := hrel
    have HG := Lib.hid hg
    clear hg
    by_cases hlt : j < n
    · obtain ⟨o, cs, rfl, hb, hall, hdone⟩ := hO.out (by omega)
      obtain ⟨s, hs⟩ := hall j hlt
      have HK := Lib.hid (markText_any (k + j))
      go_wp2_with fail
      refine (HK.out _ (by omega)).mono ?_
      rintro e w1 ⟨rfl, hb1⟩
      have hb' := hb.later hb1 hb.lt
      have x0 := (hb'.cell (o + j)).trans hs
      have y0 := hb'.frozen (o + j)
      have HB' := Lib.hid hb'
      have HG1 := Lib.hid (grown_trans' HG.out (grown_of_below hb1 (some g)))
      have HAll := Lib.hid hall
      have HDone := Lib.hid hdone
      have hsz : o + j < cs.size := (Array.getElem?_eq_some_iff.1 hs).1
      clear hb hb1 hb' hs hall hdone
      generalize hm : markT (k + j) = mt at *
      have HM := Lib.hid hm
      clear hm
      go_wp2_with fail
      go_roundw
      case rel =>
        refine ⟨j + 1, by omega, by go_num, by go_num, grown_setCell HG1.out _ _, fun _ => ⟨o, _, rfl, HB'.out.set_ _ _, fun i hi => ?_, fun i hi => ?_⟩⟩
        · by_cases e : i = j
          · subst e; exact ⟨_, by rw [Array.getElem?_setIfInBounds, if_pos rfl, if_pos hsz]⟩
          · obtain ⟨s', hs'⟩ := HAll.out i hi
            exact ⟨s', by rw [Array.getElem?_setIfInBounds, if_neg (by omega)]; exact hs'⟩
        · by_cases e : i = j
          · subst e; rw [Array.getElem?_setIfInBounds, if_pos rfl, if_pos hsz, HM.out]
          · rw [Array.getElem?_setIfInBounds, if_neg (by omega)]; exact HDone.out i (by omega)
      case measure => simp [intOf]; omega
    · obtain rfl : j = n := by omega
      go_wp2_with fail
      go_ret
      refine ⟨rfl, ⟨marks_len _ _, fun hp => ?_⟩, HG.out⟩
      obtain ⟨o, cs, e, hb, _, hdone⟩ := hO.out hp
      exact ⟨o, e, cs, hb, fun i hi => by rw [marks_len] at hi; rw [hdone i hi, marks_at _ _ _ hi]⟩

set_option maxHeartbeats 1000000 in
theorem heldStringS_any (A : Option Addr) (n c k : Nat) (w : World) (h : Strs w w.heap.size A n (marks n k)) (hn : n ≤ 1048576) (hk : k ≤ 1099511627776) :
    Calls Tryz.prog 114 #[.slice A n c, .int .i64 k] w fun e w' => e = .returned (.int .i64 (k + n : Nat)) ∧ Below w.heap.size w w' := by
  have Hh := Lib.hid h
  clear h
  go_enter Tryz.func114, Tryz.ntmps114
  go_wp2_with fail
  go_loopw [1, 5] (fun q i wr => ∃ (j : Nat), j ≤ n ∧ i = .int .i64 j ∧ q = .int .i64 (k + j : Nat) ∧ Below w.heap.size w wr) (fun _ i _ => n - (intOf i).toNat)
  case atStart => exact ⟨0, Nat.zero_le _, rfl, rfl, Below.refl _ _⟩
  case round =>
    obtain ⟨j, hj, rfl, rfl, hb⟩ := hrel
    have HB := Lib.hid hb
    clear hb
    by_cases hlt : j < n
    · obtain ⟨b, o, rfl, hbB, hc⟩ := (Hh.out.later HB.out).2 (by omega)
      have hck := hc j hlt
      rw [marks_at _ _ _ hlt] at hck
      have HK := Lib.hid (fun W => markText_any (k + j) W (by omega))
      clear hc
      generalize markT (k + j) = mt at *
      go_wp2_with fail
      go_region_held3 (fun w' => w'.cell? ⟨b, o + j, none⟩ = some (.string mt)) (first | exact hck | exact cell_later hb1 hck)
        (first | (go_at_call 73; refine (HK.out _).mono ?_; rintro e w1 ⟨rfl, hb1'⟩; have hb1 := undrew hb1'; clear hb1'))
      have HB1 := Lib.hid (HB.out.later hb1)
      clear hb1
      go_wp2_with fail
      go_roundw
      case rel => exact ⟨j + 1, by omega, by go_num, by go_num, HB1.out⟩
      case measure => simp [intOf]; omega
    · obtain rfl : j = n := by omega
      go_wp2_with fail
      go_ret
      exact ⟨rfl, HB.out⟩
end Go.Proofs.YtiebcdajoddkpaaGreatDoor
