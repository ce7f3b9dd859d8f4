/-
  What l31Blanks of the reference computes: so many blanks.
-/
import Derived.Test.YtjcpocedhaojpaaWords
import Derived.Test.YtjcpocedhaojpaaProg
namespace Go.Proofs.Ytjcpocedhaojpaa
open Go.RowKit

/-- The cells of some bytes. -/
def bcs (l : List UInt8) : List Value := l.map fun b => .int .u8 b.toNat

theorem conv_own {P : Program} {w : World} {base : Nat} {src dst e : TypeId} {v : Value} {l : List UInt8} (hs : P.underlying src = some (.slice e)) (he : P.underlying e = some (.int .u8)) (hd : P.underlying dst = some .string)
    (h : w.ownsRow base e 1 v l.length (bcs l)) : (convert src dst v).run P w = .ok (.string ⟨l.toArray⟩) w := by
  rcases h.2 with ⟨rfl, hx⟩ | ⟨g, cap, cur, rfl, _⟩
  · have hl : l = [] := by simpa [bcs] using hx
    subst hl
    rw [run_convert_bytes_nil w src e hs he _ _ dst hd]; rfl
  · refine run_convert_bytes_back w src dst e ⟨g, 0, none⟩ cap l hs he hd fun j hj => ?_
    exact h.cells (g := g) rfl j _ (by simp [bcs, List.getElem?_eq_getElem hj])

theorem infoU8 : (Try.prog.info? 5).map (fun i => (i.zero, i.size, i.bytes)) = some (some (.int .u8 0), 1, 1) := by kernel_rfl

theorem bcs_snoc (l : List UInt8) (b : UInt8) : bcs (l ++ [b]) = bcs l ++ [.int .u8 b.toNat] := by simp [bcs]

def blanks (n : Nat) : List UInt8 := List.replicate n 32
theorem blanks_len (n : Nat) : (blanks n).length = n := by simp [blanks]
theorem blanks_succ (n : Nat) : blanks (n + 1) = blanks n ++ [32] := by simp [blanks, List.replicate_succ']

set_option maxHeartbeats 400000 in
theorem l31Blanks_any (n : Nat) (w : World) (hn : n ≤ 1048576) :
    Calls Try.prog 31 #[.int .i64 n] w fun e w' => e = .returned (.string ⟨(blanks n).toArray⟩) ∧ Below w.heap.size w w' := by
  obtain ⟨i0, hi, hz0, hz1, hz2⟩ := info_parts infoU8
  go_enter Try.func31, Try.ntmps31
  go_wp2
  go_loopw [3, 4] (fun v i wr => ∃ (k : Nat), k ≤ n ∧ i = .int .i64 k ∧ wr.ownsRow w.heap.size 5 1 v k (bcs (blanks k)) ∧ Below w.heap.size w wr) (fun _ i _ => n - (intOf i).toNat)
  case atStart => exact ⟨0, by omega, rfl, World.ownsRow_lit _ _ 0 (Nat.le_refl _) (by omega) rfl, Below.new _ _⟩
  case round =>
    obtain ⟨k, hk, rfl, hown, hb⟩ := hrel
    have HB := Lib.hid hb
    have HO := Lib.hid hown
    clear hb hown
    by_cases hlt : k < n
    · have hsz := HB.out.size
      have HN : Hid (∀ (o : Obj) (v' : Value) (w1 : World), (wr.alloc o).grownBy w1 u3.ownBlock → Below w.heap.size w w1) := fun o v' w1 hg =>
        (HB.out.later (Below.new _ o)).grown hg (by simp; omega) (fun g hg' => (HO.out.lt g hg').1)
      go_wp2_with (at_builtin; refine wpList_append_own _ rfl (.tmp 11) (.tmp 12) 64 rfl w.heap.size 5 i0 (.int .u8 0) 1 1 Try.underlying64 hi hz0 hz1 hz2 rfl (by decide) _ k _ rfl (HO.out.alloc _) ⟨_, 0, none⟩ 1 1 [.int .u8 32] rfl rfl ?c1 ?c2 ?c3 ?c4 ?c5 ?_)
      case c1 => exact cell_one_new _ _ _
      case c2 => simp [Value.oneCell']
      case c3 => unfold maxLen; omega
      case c4 => omega
      case c5 => simp; omega
      intro v' w1 hown1 hg1 _
      have HO1 := Lib.hid hown1
      have HB1 := Lib.hid (HN.out _ v' w1 hg1)
      clear hown1 hg1
      go_wp2
      go_roundw
      case rel => exact ⟨k + 1, by omega, by go_num, by rw [blanks_succ, bcs_snoc]; exact HO1.out, HB1.out⟩
      case measure => simp [intOf]; omega
    · obtain rfl : k = n := by omega
      have hcv := conv_own (P := Try.prog) (w := wr) (dst := 9) (l := blanks k) Try.underlying64 Try.underlying5 Try.underlying9 (by rw [blanks_len]; exact HO.out)
      go_wp2
      go_ret
      exact ⟨rfl, HB.out⟩
end Go.Proofs.Ytjcpocedhaojpaa
