/-
  Row nodes of the reference: what l29At finds.
-/
import Derived.Test.YtalpafaflgddpaaGreatDoorNd1
import Derived.Test.YtalpafaflgddpaaGreatDoorTb1
namespace Go.Proofs.YtalpafaflgddpaaGreatDoor
open Go.RowKit

/-- The place of the node with a key; -1 where there is none. -/
def keyP (x : ByteArray) (d : NodeD) : Bool := decide (d.subs.getD 1 ByteArray.empty = x)
def atI (l : List NodeD) (x : ByteArray) : Int := idxF (keyP x) l 0

set_option maxHeartbeats 2000000 in
theorem l29At_any (A : Option Addr) (n c : Nat) (fs : List NodeD) (x : ByteArray) (w : World) (h : Nodes w w.heap.size A n fs) (hn : n ≤ 1048576) (h2 : ∀ d ∈ fs, d.subs.length = 2) :
    Calls Tryz.prog 34 #[.slice A n c, .string x] w fun e w' => e = .returned (.int .i64 (atI fs x)) ∧ Below w.heap.size w w' := by
  have Hh := Lib.hid h
  have Hlen := Lib.hid h.1
  have H2 := Lib.hid h2
  clear h h2
  go_enter Tryz.func34, Tryz.ntmps34
  go_wp2_with fail
  go_loopw [5] (fun i wr => ∃ (k : Nat), k ≤ n ∧ i = .int .i64 k ∧ Below w.heap.size w wr ∧ Hid (atI fs x = idxF (keyP x) (fs.drop k) k)) (fun i _ => n - (intOf i).toNat)
  case atStart => exact ⟨0, Nat.zero_le _, rfl, Below.refl _ _, rfl⟩
  case round =>
    obtain ⟨k, hk, rfl, hb, hS⟩ := hrel
    have HB := Lib.hid hb
    clear hb
    by_cases hlt : k < n
    · obtain ⟨bb, o, rfl, hbB, hc⟩ := (Hh.out.later HB.out).2 (by omega)
      obtain ⟨c0, c1, c2, k0, k1, k2, hr⟩ := hc k hlt
      clear hc
      have hl : k < fs.length := by rw [Hlen.out]; exact hlt
      have HS := Lib.hid (idxF_step (keyP x) fs k hl)
      have hsz := H2.out _ (getD_memD fs k hl)
      have HP : Hid (keyP x (fs.getD k default) = decide ((fs.getD k default).subs.getD 1 ByteArray.empty = x)) := rfl
      clear hl
      generalize fs.getD k default = d at *
      obtain ⟨e0, ⟨A1, n1, cap1, e1, hs1, hcap1⟩, e2⟩ := hr
      subst e0 e1 e2
      obtain rfl : n1 = 2 := by rw [← hs1.1]; exact hsz
      obtain ⟨sb, so, rfl, hsb, hsc⟩ := hs1.2 (by omega)
      have hck := hsc 1 (by omega)
      have i1 : (k : Int) < (n : Int) := by omega
      clear hsc hs1 hsz
      generalize keyP x d = kp at *
      generalize d.subs.getD 1 ByteArray.empty = s at *
      by_cases he : s = x
      · have HE : Hid (atI fs x = k) := by unfold Hid; rw [hS.out, HS.out, if_pos (by rw [HP.out]; simp [he])]
        subst he
        first
          | (go_wp2_with fail; go_quiet (fail); go_wp2_with fail; go_ret; exact ⟨ret_int HE.out.symm, below_drewN HB.out _⟩)
          | (go_wp2_with fail; go_ret; exact ⟨ret_int HE.out.symm, HB.out⟩)
      · have HE : Hid (atI fs x = idxF (keyP x) (fs.drop (k + 1)) (k + 1)) := by unfold Hid; rw [hS.out, HS.out, if_neg (by rw [HP.out]; simp [he])]
        have hbq := str_beq he
        clear he
        first
          | (go_wp2_with fail
             go_quiet (fail)
             go_wp2_with fail
             go_roundw
             case rel => exact ⟨k + 1, by omega, by go_num, below_drewN HB.out _, HE.out⟩
             case measure => simp [intOf]; omega)
          | (go_wp2_with fail
             go_roundw
             case rel => exact ⟨k + 1, by omega, by go_num, HB.out, HE.out⟩
             case measure => simp [intOf]; omega)
    · have HE : Hid (atI fs x = -1) := by unfold Hid; rw [hS.out, List.drop_of_length_le (by rw [Hlen.out]; omega)]; rfl
      go_wp2_with fail
      go_ret
      exact ⟨ret_int HE.out.symm, HB.out⟩
end Go.Proofs.YtalpafaflgddpaaGreatDoor
