/-
  Frames by sets of blocks; marks in strings of the call's own.
-/
import Derived.Test.YtalpafaflgddpaaGreatDoorOwnG
import Derived.Deep.RegionHeld3
namespace Go.Proofs.YtalpafaflgddpaaGreatDoor.Own
open Go.RowKit Go.Proofs.YtalpafaflgddpaaGreatDoor

/-- Of the blocks that were there, those with P alone may have changed. -/
structure Chg (P : Nat → Prop) (w w' : World) : Prop where
  os : w'.os = w.os
  tape : w'.tape = w.tape
  output : w'.output = w.output
  size : w.heap.size ≤ w'.heap.size
  block : ∀ i, i < w.heap.size → ¬ P i → w'.heap[i]? = w.heap[i]?
theorem Chg.refl (P : Nat → Prop) (w : World) : Chg P w w := ⟨rfl, rfl, rfl, Nat.le_refl _, fun _ _ _ => rfl⟩
theorem Chg.trans {P : Nat → Prop} {a b c : World} (h : Chg P a b) (k : Chg P b c) : Chg P a c :=
  ⟨k.os.trans h.os, k.tape.trans h.tape, k.output.trans h.output, Nat.le_trans h.size k.size, fun i hi' hr => (k.block i (Nat.lt_of_lt_of_le hi' h.size) hr).trans (h.block i hi' hr)⟩
theorem Chg.of_below {P : Nat → Prop} {a b : World} (h : Below a.heap.size a b) : Chg P a b := ⟨h.os, h.tape, h.output, h.size, fun i hi' _ => h.block i hi'⟩
theorem Chg.of_grown {P : Nat → Prop} {a b : World} {row : Option Nat} (h : a.grownBy b row) (hr : ∀ g, row = some g → P g) : Chg P a b :=
  ⟨h.os, h.tape, h.output, h.size, fun i hi' ho => h.block i hi' (fun e => ho (hr i e.symm))⟩
theorem Chg.set {P : Nat → Prop} {a b : World} {g : Nat} (h : Chg P a b) (h1 : P g) (i : Nat) (u : Value) : Chg P a (b.setCell ⟨g, i, none⟩ u) :=
  h.trans (Chg.of_grown (grown_set b g i u) (fun g' e => by obtain rfl : g = g' := by simpa using e
                                                            exact h1))
theorem Chg.mono {P Q : Nat → Prop} {a b : World} (h : Chg P a b) (h1 : ∀ g, P g → Q g) : Chg Q a b :=
  ⟨h.os, h.tape, h.output, h.size, fun i hx ho => h.block i hx (fun hp => ho (h1 i hp))⟩
theorem Chg.below {P : Nat → Prop} {B : Nat} {a b c : World} (h : Below B a b) (k : Chg P b c) (hB : ∀ g, P g → B ≤ g) (hs : B ≤ a.heap.size) : Below B a c :=
  ⟨k.os.trans h.os, k.tape.trans h.tape, k.output.trans h.output, Nat.le_trans h.size k.size, fun i hi' => (k.block i (Nat.lt_of_lt_of_le (Nat.lt_of_lt_of_le hi' hs) h.size) (fun hp => by have := hB i hp; omega)).trans (h.block i hi')⟩
theorem Blk.chg {P : Nat → Prop} {w w' : World} {g : Nat} {t : TypeId} {cs : Array Value} (h : Blk w g t cs) (k : Chg P w w') (hg : ¬ P g) : Blk w' g t cs := (k.block g h.lt hg).trans h
/-- All of its blocks have P. -/
def inP (P : Nat → Prop) (v : Value) : Prop := ∀ g, v.ownBlock = some g → P g
theorem own_chg {P : Nat → Prop} {w w' : World} {base e size n : Nat} {v : Value} {xs : List Value} (h : w.ownsRow base e size v n xs) (k : Chg P w w') (hg : inP (fun g => ¬ P g) v) : w'.ownsRow base e size v n xs := by
  refine ⟨h.1, ?_⟩
  rcases h.2 with hn | ⟨g, cap, cur, rfl, hb, hgg, rest⟩
  · exact .inl hn
  · exact .inr ⟨g, cap, cur, rfl, hb, (k.block g (Blk.lt (t := e) hgg) (hg g rfl)).trans hgg, rest⟩
theorem inP_of {w : World} {base e size n : Nat} {v : Value} {xs : List Value} (h : w.ownsRow base e size v n xs) {P : Nat → Prop} (hP : ∀ g, base ≤ g → g < w.heap.size → P g) : inP P v := fun g hg => by
  have := h.lt g hg
  exact hP g this.1 this.2
theorem OwnL.inP {α : Type} [Inhabited α] {K : Kind α} {w : World} {base t : Nat} {v : Value} {fs : List α} {vs : List Value} (h : OwnL K w base t v fs vs) {P : Nat → Prop} (hP : ∀ g, base ≤ g → g < w.heap.size → P g) : inP P v ∧ ∀ u ∈ vs, Own.inP P u :=
  ⟨inP_of h.row hP, fun u hu => by
    obtain ⟨j, hj, rfl⟩ := mem_getD hu
    exact inP_of (h.subs j (by rw [← h.len]; exact hj)) hP⟩
theorem OwnL.chg {α : Type} [Inhabited α] {K : Kind α} {P : Nat → Prop} {w w' : World} {base t : Nat} {v : Value} {fs : List α} {vs : List Value} (h : OwnL K w base t v fs vs) (k : Chg P w w') (hu : Own.inP (fun g => ¬ P g) v) (hus : ∀ u ∈ vs, Own.inP (fun g => ¬ P g) u) : OwnL K w' base t v fs vs :=
  ⟨h.len, own_chg h.row k hu, fun j hj => own_chg (h.subs j hj) k (hus _ (mem_of_getD _ _ _ (by rw [h.len]; exact hj))), h.aprt⟩
theorem inP_mono {P Q : Nat → Prop} {v : Value} (h : inP P v) (hq : ∀ g, P g → Q g) : inP Q v := fun g hg => hq g (h g hg)
def MarkPost (base k n : Nat) (v : Value) (w : World) (e : Ending) (w' : World) : Prop := e = .returned (.int .i64 (k + n : Nat)) ∧ SubO w' base v (marks n k) ∧ w.grownBy w' v.ownBlock
set_option maxHeartbeats 1000000 in
theorem markStringS_own (base k : Nat) (v : Value) (ss : List ByteArray) (w : World) (h : SubO w base v ss) (hn : ss.length ≤ 1048576) (hk : k ≤ 4398046511104) :
    Calls Tryz.prog 59 #[v, .int .i64 k] w (MarkPost base k ss.length v w) := by
  obtain ⟨A, cap, rfl, _, _, hA⟩ := own_slice h
  have HO := Lib.hid h
  clear h
  generalize hN : ss.length = n at *
  have HN := Lib.hid hN
  clear hN
  go_enter Tryz.func59, Tryz.ntmps59
  go_wp2_with fail
  go_loopw [1, 5] (fun q i wr => ∃ (j : Nat) (ms : List ByteArray), j ≤ n ∧ i = .int .i64 j ∧ q = .int .i64 (k + j : Nat) ∧ w.grownBy wr (Value.slice A n cap).ownBlock ∧ Hid (ms.length = n) ∧ wr.ownsRow base 9 1 (.slice A n cap) n (ms.map Value.string) ∧ Hid (∀ i, i < j → ms.getD i ByteArray.empty = markT (k + i))) (fun _ i _ => n - (intOf i).toNat)
  case atStart =>
    refine ⟨0, ss, Nat.zero_le _, rfl, rfl, World.grownBy.refl w _, HN.out, ?_, fun i hi => absurd hi (by omega)⟩
    have hx := HO.out
    unfold SubO at hx
    rw [HN.out] at hx
    exact hx
  case round =>
    obtain ⟨j, ms, hj, rfl, rfl, hg, hml, hO, hM⟩ := hrel
    have HG := Lib.hid hg
    have HO1 := Lib.hid hO
    clear hg hO
    by_cases hlt : j < n
    · obtain ⟨g, rfl, hgl, hgb⟩ := hA (by omega)
      obtain ⟨cur, hblk⟩ := own_blk HO1.out
      have hs : (ms.map Value.string)[j]? = some (.string (ms.getD j ByteArray.empty)) := by
        have hl : j < ms.length := by rw [hml.out]; exact hlt
        rw [List.getElem?_map, List.getElem?_eq_getElem hl, List.getD_eq_getElem?_getD, List.getElem?_eq_getElem hl]; rfl
      have HK := Lib.hid (markText_any (k + j))
      go_wp2_with fail
      refine (HK.out _ (by omega)).mono ?_
      rintro e w1 ⟨rfl, hb1⟩
      have hO2 := own_later HO1.out hb1
      have x0 := own_cell hO2 j _ (by omega) hs
      have y0 := (hblk.later hb1 hblk.lt).frozen j
      have z0 := (hblk.later hb1 hblk.lt).lt
      have HG1 := Lib.hid (grown_trans' HG.out (grown_of_below hb1 (some g)))
      have HO2 := Lib.hid (hO2.stored j (.string (markT (k + j))))
      clear hb1 hblk hs hO2
      generalize ms.getD j ByteArray.empty = old at *
      generalize hm : markT (k + j) = mt at *
      have HM := Lib.hid hm
      clear hm
      go_wp2_with fail
      go_roundw
      case rel =>
        refine ⟨j + 1, ms.set j mt, by omega, by go_num, by go_num, grown_trans' HG1.out HO2.out.2, ?_, ?_, fun i hi => ?_⟩
        · unfold Hid; simp [hml.out]
        · rw [List.map_set]; exact HO2.out.1
        · rw [getD_set_ _ _ _ _ _ (by rw [hml.out]; exact hlt)]
          by_cases e : j = i
          · subst e; rw [if_pos rfl, HM.out]
          · rw [if_neg e]; exact hM.out i (by omega)
      case measure => simp [intOf]; omega
    · obtain rfl : j = n := by omega
      go_wp2_with fail
      go_ret
      refine ⟨rfl, ?_, HG.out⟩
      have he : ms = marks j k := by
        apply List.ext_getElem (by rw [hml.out, marks_len])
        intro i h1 h2
        have e1 := hM.out i (by rw [hml.out] at h1; exact h1)
        have e2 := marks_at j k i (by rw [hml.out] at h1; exact h1)
        rw [List.getD_eq_getElem?_getD, List.getElem?_eq_getElem h1] at e1
        rw [List.getD_eq_getElem?_getD, List.getElem?_eq_getElem h2] at e2
        simp only [Option.getD_some] at e1 e2
        rw [e1, e2]
      have hx := HO1.out
      rw [he] at hx
      unfold SubO
      rw [marks_len]
      exact hx
set_option maxHeartbeats 1000000 in
theorem heldStringS_big (A : Option Addr) (n c k : Nat) (w : World) (h : Strs w w.heap.size A n (marks n k)) (hn : n ≤ 1048576) (hk : k ≤ 4398046511104) :
    Calls Tryz.prog 61 #[.slice A n c, .int .i64 k] w fun e w' => e = .returned (.int .i64 (k + n : Nat)) ∧ Below w.heap.size w w' := by
  have Hh := Lib.hid h
  clear h
  go_enter Tryz.func61, Tryz.ntmps61
  go_wp2_with fail
  go_loopw [1, 5] (fun q i wr => ∃ (j : Nat), j ≤ n ∧ i = .int .i64 j ∧ q = .int .i64 (k + j : Nat) ∧ Below w.heap.size w wr) (fun _ i _ => n - (intOf i).toNat)
  case atStart => exact ⟨0, Nat.zero_le _, rfl, rfl, Below.refl _ _⟩
  case round =>
    obtain ⟨j, hj, rfl, rfl, hb⟩ := hrel
    have HB := Lib.hid hb
    clear hb
    by_cases hlt : j < n
    · obtain ⟨b, o, rfl, hbB, hc⟩ := (Hh.out.later HB.out).2 (by omega)
      have hck := hc j hlt
      rw [marks_at _ _ _ hlt] at hck
      have HK := Lib.hid (fun W => markText_any (k + j) W (by omega))
      clear hc
      generalize markT (k + j) = mt at *
      go_wp2_with fail
      go_region_held3 (fun w' => w'.cell? ⟨b, o + j, none⟩ = some (.string mt)) (first | exact hck | exact cell_later hb1 hck)
        (first | (go_at_call 105; refine (HK.out _).mono ?_; rintro e w1 ⟨rfl, hb1'⟩; have hb1 := undrew hb1'; clear hb1'))
      have HB1 := Lib.hid (HB.out.later hb1)
      clear hb1
      go_wp2_with fail
      go_roundw
      case rel => exact ⟨j + 1, by omega, by go_num, by go_num, HB1.out⟩
      case measure => simp [intOf]; omega
    · obtain rfl : j = n := by omega
      go_wp2_with fail
      go_ret
      exact ⟨rfl, HB.out⟩
theorem toStringS_own (A : Option Addr) (n c : Nat) (ss : List ByteArray) (w : World) (h : Strs w w.heap.size A n ss) (hn : n ≤ 1048576) :
    Calls Tryz.prog 38 #[.slice A n c] w fun e w' => ∃ v, e = .returned v ∧ SubO w' w.heap.size v ss ∧ Below w.heap.size w w' :=
  (toStringS_any A n c ss w h hn).mono fun e w' ⟨he, hw⟩ => by
    subst hw
    obtain rfl : ss.length = n := h.1
    exact ⟨_, he, sub_of_blk (heap_last rfl) (Nat.le_refl _) (by unfold maxLen; omega), Below.new _ _⟩
theorem eqS_same (ss : List ByteArray) : eqS ss ss = true := by simp [eqS]
theorem eqStringS_own (W : World) (b b' : Nat) (v v' : Value) (ss : List ByteArray) (h : SubO W b v ss) (h' : SubO W b' v' ss) (hn : ss.length ≤ 1048576) :
    Calls Tryz.prog 49 #[v, v'] W fun e w' => e = .returned (.bool true) ∧ Below W.heap.size W w' := by
  obtain ⟨S, q, rfl, _, hSS⟩ := h.strs
  obtain ⟨S', q', rfl, _, hSS'⟩ := h'.strs
  refine (eqStringS_any S S' _ q _ q' ss ss W hSS hSS' hn hn).mono fun e w' ⟨he, k, hw⟩ => ?_
  subst hw
  rw [eqS_same] at he
  exact ⟨he, below_drewN (Below.refl _ _) k⟩
end Go.Proofs.YtalpafaflgddpaaGreatDoor.Own
