/-
  What NewScreen of the program, markScreen and heldScreen compute; FnExactNewScreen returns true. No condition.
-/
import Derived.Test.YtjcpocedhaojpaaNewScr
import Derived.Test.YtjcpocedhaojpaaPadded
import Derived.Test.YtjcpocedhaojpaaScr
namespace Go.Proofs.Ytjcpocedhaojpaa
open Go.RowKit

theorem blank20_repeat : (⟨(Lib.repeatL (⟨#[32]⟩ : ByteArray).data.toList 20).toArray⟩ : ByteArray) = blank20 := by
  rw [show Lib.repeatL (⟨#[32]⟩ : ByteArray).data.toList 20 = blanks 20 from repeat_blank 20]; rfl

set_option maxHeartbeats 1000000 in
theorem implNewScreen_any (w : World) :
    Calls Try.prog 20 #[] w fun e w' => ∃ g, e = .returned (.agg #[.int .i64 0, .int .i64 0, .slice (some ⟨g, 0, none⟩) 6 6]) ∧ OwnA w' (some ⟨g, 0, none⟩) 6 g (List.replicate 6 blank20) ∧ w.heap.size ≤ g ∧ Below w.heap.size w w' := by
  have HK : Hid (∀ W, Calls Try.prog 32 #[.string ⟨#[32]⟩, .int .i64 20] W fun e w' => e = .returned (.string blank20) ∧ Below W.heap.size W w') := fun W => by
    rw [← blank20_repeat]
    exact Try.strings_Repeat ⟨#[32]⟩ 20 W (by omega) (by show 1 * 20 ≤ _; omega)
  generalize blank20 = bl at *
  go_enter Try.func20, Try.ntmps20
  go_wp2_with fail
  refine (HK.out _).mono ?_
  rintro e w1 ⟨rfl, hb1⟩
  have b1 : Blk w1 w.heap.size _ _ := Blk.later (heap_last rfl) hb1 (by simp)
  have HB1 := Lib.hid b1
  have HBw := Lib.hid ((Below.new _ _).later hb1)
  have z1 := b1.lt
  clear hb1 b1
  go_wp2_with fail
  refine (slicesRepeat6_any bl w1.heap.size _ (World.cell?_alloc_at _ _ _ _ rfl)).mono ?_
  rintro e w2 ⟨g, rfl, hbk, hge, hb2⟩
  have b2 := (HB1.out.alloc (.cells #[.string bl] 9)).later hb2 (by simp; omega)
  have p2 := b2.cell
  have f2 := b2.frozen
  have HBK := Lib.hid hbk
  have HB2 := Lib.hid ((HBw.out.later (Below.new _ _)).later hb2)
  have hg : w.heap.size < g := by simp at hge; omega
  clear hb2 hbk hge b2
  go_wp2_with fail
  refine bodyPost_ret (v := .agg #[.int .i64 0, .int .i64 0, .slice (some ⟨g, 0, none⟩) 6 6]) (by simp [results, Try.results20, go_sem, p2]) rfl ⟨g, rfl, ⟨by simp, fun _ => ⟨0, rfl, strArr (List.replicate 6 bl), ?_, fun j hj => ?_⟩⟩, by omega, ?_⟩
  · iterate 3 (refine Blk.far ?_ (by simp <;> omega) _)
    exact HBK.out
  · rw [Nat.zero_add]; exact strArr_at _ j hj
  · exact ((HB2.out.setCell (by simp) _).setCell (by simp) _).setCell (by simp) _

set_option maxHeartbeats 400000 in
theorem markScreen_any (r c : Int) (A : Option Addr) (n cap g k : Nat) (ss : List ByteArray) (w : World) (h : OwnA w A n g ss) (hn : n ≤ 1048576) (hk : k ≤ 1099511627776) :
    Calls Try.prog 21 #[.agg #[.int .i64 r, .int .i64 c, .slice A n cap], .int .i64 k] w fun e w' => e = .returned (.int .i64 (k + n : Nat)) ∧ OwnA w' A n g (marks n k) ∧ w.grownBy w' (some g) := by
  have HK := Lib.hid (fun W hW => markStringS_any A n cap g k ss W (h.later hW) hn hk)
  clear h
  go_enter Try.func21, Try.ntmps21
  go_wp2_with fail
  refine (HK.out _ (Below.new _ _)).mono ?_
  rintro e w1 ⟨rfl, hO, hgr⟩
  have HO := Lib.hid hO
  have HG := Lib.hid (grown_trans' (grown_of_below (Below.new _ _) _) hgr)
  clear hO hgr
  go_wp2_with fail
  go_ret
  exact ⟨rfl, HO.out, HG.out⟩

set_option maxHeartbeats 400000 in
theorem heldScreen_any (r c : Int) (A : Option Addr) (n cap k : Nat) (w : World) (h : Strs w w.heap.size A n (marks n k)) (hn : n ≤ 1048576) (hk : k ≤ 1099511627776) :
    Calls Try.prog 22 #[.agg #[.int .i64 r, .int .i64 c, .slice A n cap], .int .i64 k] w fun e w' => e = .returned (.int .i64 (k + n : Nat)) ∧ Below w.heap.size w w' := by
  have HK := Lib.hid (fun W hW => heldStringS_any A n cap k W (h.later hW) hn hk)
  clear h
  go_enter Try.func22, Try.ntmps22
  go_wp2_with fail
  refine (HK.out _ (Below.new _ _)).mono ?_
  rintro e w1 ⟨rfl, hb1⟩
  have HB1 := Lib.hid ((Below.new _ _).later hb1)
  clear hb1
  go_wp2_with fail
  go_ret
  exact ⟨rfl, HB1.out⟩
end Go.Proofs.Ytjcpocedhaojpaa
