/-
  Locks: what l24Subs and l00Put of the reference compute.
-/
import Derived.Test.YtiebcdajoddkpaaGreatDoorLk2
import Derived.Test.YtiebcdajoddkpaaGreatDoorApp
namespace Go.Proofs.YtiebcdajoddkpaaGreatDoor
open Go.RowKit

theorem oneCells_str (ss : List ByteArray) : ∀ u ∈ ss.map Value.string, u.oneCell' = true := by
  intro u hu
  obtain ⟨s, _, rfl⟩ := List.mem_map.1 hu
  rfl
theorem oneCells_int (zs : List Int) : ∀ u ∈ zs.map (Value.int .i64), u.oneCell' = true := by
  intro u hu
  obtain ⟨s, _, rfl⟩ := List.mem_map.1 hu
  rfl

set_option maxHeartbeats 400000 in
theorem l24Subs_any (A : Option Addr) (n c : Nat) (ss : List ByteArray) (w : World) (h : Strs w w.heap.size A n ss) (hn : n ≤ 1048576) :
    Calls Tryz.prog 60 #[.slice A n c] w fun e w' => ∃ A' c', e = .returned (.slice A' n c') ∧ n ≤ c' ∧ Strs w' w'.heap.size A' n ss ∧ Below w.heap.size w w' := by
  obtain ⟨i0, hi, hz0, hz1, hz2⟩ := info_parts infoS
  have Hh := Lib.hid (strs_reads h)
  clear h
  go_enter Tryz.func60, Tryz.ntmps60
  go_wp2_with (at_builtin; refine wpList_append_any _ rfl (.tmp 3) (.tmp 4) 35 rfl w.heap.size 9 i0 _ 1 16 Tryz.underlying35 hi hz0 hz1 hz2 rfl (by decide) _ 0 [] rfl (World.ownsRow_lit _ _ 0 (Nat.le_refl _) (by omega) rfl) w.heap.size A n c (ss.map Value.string) rfl (Hh.out.alloc (Nat.le_refl _) _) (oneCells_str ss) ?c1 ?c2 ?c3 ?_)
  case c1 => unfold maxLen; omega
  case c2 => omega
  case c3 => simp
  intro v w1 ho hg _
  have HB := Lib.hid (below_own (w0 := w) (size := 1) (n := 0) (xs := []) (Below.new _ _) (World.ownsRow_lit _ _ 0 (Nat.le_refl _) (by omega) rfl) (Nat.le_refl _) hg)
  obtain ⟨A', c', rfl, hc, hs⟩ := own_strs ho
  have HS := Lib.hid hs
  clear ho hg hs
  go_wp2_with fail
  go_ret
  exact ⟨A', c', rfl, hc, HS.out, HB.out⟩

theorem infoI64 : (Tryz.prog.info? 2).map (fun i => (i.zero, i.size, i.bytes)) = some (some (.int .i64 0), 1, 8) := by kernel_rfl

/-- The slice value with address A and length n holds the numbers zs, below block B. -/
def Ints (w : World) (B : Nat) (A : Option Addr) (n : Nat) (zs : List Int) : Prop :=
  zs.length = n ∧ (0 < n → ∃ b o, A = some ⟨b, o, none⟩ ∧ b < B ∧ ∀ j, j < n → w.cell? ⟨b, o + j, none⟩ = some (.int .i64 (zs.getD j 0)))
section
variable {w w' : World} {B B' n : Nat} {A : Option Addr} {zs : List Int}
theorem Ints.keep (h : Ints w B A n zs) (hk : ∀ p : Addr, p.block < B → w'.cell? p = w.cell? p) : Ints w' B A n zs :=
  ⟨h.1, fun hn => by
    obtain ⟨b, o, e, hb, hc⟩ := h.2 hn
    exact ⟨b, o, e, hb, fun j hj => (hk _ hb).trans (hc j hj)⟩⟩
theorem Ints.more (h : Ints w B A n zs) (hB : B ≤ B') : Ints w B' A n zs :=
  ⟨h.1, fun hn => by
    obtain ⟨b, o, e, hb, hc⟩ := h.2 hn
    exact ⟨b, o, e, by omega, hc⟩⟩
theorem Ints.later (h : Ints w w.heap.size A n zs) (hb : Below w.heap.size w w') : Ints w' w'.heap.size A n zs := (h.keep fun _ hp => hb.cell hp).more hb.size
theorem Ints.zero : Ints w B A 0 [] := ⟨rfl, fun h => absurd h (by omega)⟩
end
theorem own_ints {w : World} {base n : Nat} {e : TypeId} {v : Value} {zs : List Int} (h : w.ownsRow base e 1 v n (zs.map (Value.int .i64))) : ∃ A cap, v = .slice A n cap ∧ n ≤ cap ∧ Ints w w.heap.size A n zs := by
  have hl : zs.length = n := by have := h.1; simpa using this
  rcases h.2 with ⟨rfl, rfl⟩ | ⟨g, cap, cur, rfl, _, hh, hc, _⟩
  · have : zs = [] := List.eq_nil_of_length_eq_zero hl
    subst this
    exact ⟨none, 0, rfl, Nat.le_refl _, Ints.zero⟩
  · refine ⟨_, cap, rfl, hc, hl, fun _ => ⟨g, 0, rfl, (Blk.lt (t := e) hh), fun j hj => ?_⟩⟩
    have hj' : j < zs.length := by rw [hl]; exact hj
    have := h.cells (g := g) rfl j (.int .i64 zs[j]) (by simp [List.getElem?_eq_getElem hj'])
    rw [List.getD_eq_getElem?_getD, List.getElem?_eq_getElem hj']
    unfold Addr.add at this
    split at this
    · rename_i h0; subst h0; simpa using this
    · simpa using this

def PutPost (n : Nat) (w : World) (e : Ending) (w' : World) : Prop := ∃ A' m c' ys, e = .returned (.slice A' m c') ∧ 0 < m ∧ m ≤ n + 1 ∧ Ints w' w'.heap.size A' m ys ∧ Below w.heap.size w w'
set_option maxHeartbeats 2000000 in
theorem l00Put_any (A : Option Addr) (n c : Nat) (zs : List Int) (x : Int) (w : World) (h : Ints w w.heap.size A n zs) (hn : n ≤ 4194304) :
    Calls Tryz.prog 102 #[.slice A n c, .int .i64 x] w (PutPost n w) := by
  obtain ⟨i0, hi, hz0, hz1, hz2⟩ := info_parts infoI64
  have Hh := Lib.hid h
  clear h
  go_enter Tryz.func102, Tryz.ntmps102
  go_wp2_with fail
  go_loopw [5, 6, 7] (fun v d i wr => ∃ (k : Nat) (b : Bool) (ys : List Int), k ≤ n ∧ i = .int .i64 k ∧ d = .bool b ∧ wr.ownsRow w.heap.size 2 1 v ys.length (ys.map (Value.int .i64)) ∧ ys.length ≤ k + (if b = true then 1 else 0) ∧ (b = true → 0 < ys.length) ∧ Below w.heap.size w wr) (fun _ _ i _ => n - (intOf i).toNat)
  case atStart => exact ⟨0, false, [], by omega, rfl, rfl, World.ownsRow_lit _ _ 0 (Nat.le_refl _) (by omega) rfl, by simp, by simp, Below.new _ _⟩
  case round =>
    obtain ⟨k, b, ys, hk, rfl, rfl, hown, hl, hpos, hb⟩ := hrel
    have HB := Lib.hid hb
    have HO := Lib.hid hown
    have HP := Lib.hid hpos
    have HL := Lib.hid hl
    have hsz := HB.out.size
    have hl2 : ys.length ≤ k + 1 := by have := HL.out; split at this <;> omega
    clear hb hown hpos hl
    have HN : Hid (∀ (o : Obj) (w1 : World), (wr.alloc o).grownBy w1 u5.ownBlock → Below w.heap.size w w1) := fun o w1 hg =>
      (HB.out.later (Below.new _ o)).grown hg (by simp; omega) (fun g hg' => (HO.out.lt g hg').1)
    generalize hm : ys.length = m at *
    have HM := Lib.hid hm
    clear hm
    by_cases hlt : k < n
    · obtain ⟨bb, o, rfl, hbB, hc⟩ := (Hh.out.later HB.out).2 (by omega)
      have hck := hc k hlt
      clear hc
      generalize zs.getD k 0 = y at *
      cases b
      · have hlf : m ≤ k := by have := HL.out; simpa using this
        by_cases hge : x ≤ y
        · by_cases hgt : x < y
          ·
            go_wp2_with (at_builtin; refine wpList_append_own _ rfl (.tmp 31) (.tmp 33) 30 rfl w.heap.size 2 i0 (.int .i64 0) 1 8 Tryz.underlying30 hi hz0 hz1 hz2 rfl (by decide) _ m _ rfl (HO.out.alloc _) ⟨_, 0, none⟩ 1 1 [.int .i64 x] rfl rfl ?c1a ?c2a ?c3a ?c4a ?c5a ?_)
            try case c1a => exact cell_one_new _ _ _
            case c2a => simp [Value.oneCell']
            case c3a => unfold maxLen; omega
            case c4a => omega
            case c5a => first | omega | (simp; omega)
            intro v1 w1 hown1 hg1 _
            have HB1 := Lib.hid (HN.out _ w1 hg1)
            have hck1 : w1.cell? ⟨bb, o + k, none⟩ = some (.int .i64 y) := by
              have h1 := (Hh.out.later HB1.out).2 (by omega)
              obtain ⟨bb', o', e, _, hc'⟩ := h1
              have h2 := (Hh.out.later HB.out).2 (by omega)
              obtain ⟨bb'', o'', e', _, hc''⟩ := h2
              cases e
              cases e'
              rw [hc' k hlt, ← hc'' k hlt, hck]
            have HO1 := Lib.hid hown1
            have hsz1 := HB1.out.size
            have HN1 : Hid (∀ (o : Obj) (w2 : World), (w1.alloc o).grownBy w2 v1.ownBlock → Below w.heap.size w w2) := fun o w2 hg =>
              (HB1.out.later (Below.new _ o)).grown hg (by simp; omega) (fun g hg' => (HO1.out.lt g hg').1)
            clear hown1 hg1 hck
            go_wp2_with (at_builtin; refine wpList_append_own _ rfl (.tmp 35) (.tmp 40) 30 rfl w.heap.size 2 i0 (.int .i64 0) 1 8 Tryz.underlying30 hi hz0 hz1 hz2 rfl (by decide) _ (m + 1) _ rfl (HO1.out.alloc _) ⟨_, 0, none⟩ 1 1 [.int .i64 y] rfl rfl ?c1b ?c2b ?c3b ?c4b ?c5b ?_)
            try case c1b => exact cell_one_new _ _ _
            case c2b => simp [Value.oneCell']
            case c3b => unfold maxLen; omega
            case c4b => omega
            case c5b => first | omega | (simp; omega)
            intro v2 w2 hown2 hg2 _
            have HB2 := Lib.hid (HN1.out _ w2 hg2)
            have HO2 := Lib.hid hown2
            clear hown2 hg2
            go_wp2_with fail
            go_roundw
            case rel => exact ⟨k + 1, true, ys ++ [x] ++ [y], by omega, by go_num, rfl, by have h := HO2.out; simpa [HM.out] using h, by simp [HM.out]; omega, by simp, HB2.out⟩
            case measure => simp [intOf]; omega
          ·
            go_wp2_with (at_builtin; refine wpList_append_own _ rfl (.tmp 35) (.tmp 40) 30 rfl w.heap.size 2 i0 (.int .i64 0) 1 8 Tryz.underlying30 hi hz0 hz1 hz2 rfl (by decide) _ m _ rfl (HO.out.alloc _) ⟨_, 0, none⟩ 1 1 [.int .i64 y] rfl rfl ?c1c ?c2c ?c3c ?c4c ?c5c ?_)
            try case c1c => exact cell_one_new _ _ _
            case c2c => simp [Value.oneCell']
            case c3c => unfold maxLen; omega
            case c4c => omega
            case c5c => first | omega | (simp; omega)
            intro v1 w1 hown1 hg1 _
            have HB1 := Lib.hid (HN.out _ w1 hg1)
            have HO1 := Lib.hid hown1
            clear hown1 hg1
            go_wp2_with fail
            go_roundw
            case rel => exact ⟨k + 1, true, ys ++ [y], by omega, by go_num, rfl, by have h := HO1.out; simpa [HM.out] using h, by simp [HM.out]; omega, by simp, HB1.out⟩
            case measure => simp [intOf]; omega
        ·
          go_wp2_with (at_builtin; refine wpList_append_own _ rfl (.tmp 35) (.tmp 40) 30 rfl w.heap.size 2 i0 (.int .i64 0) 1 8 Tryz.underlying30 hi hz0 hz1 hz2 rfl (by decide) _ m _ rfl (HO.out.alloc _) ⟨_, 0, none⟩ 1 1 [.int .i64 y] rfl rfl ?c1d ?c2d ?c3d ?c4d ?c5d ?_)
          try case c1d => exact cell_one_new _ _ _
          case c2d => simp [Value.oneCell']
          case c3d => unfold maxLen; omega
          case c4d => omega
          case c5d => first | omega | (simp; omega)
          intro v1 w1 hown1 hg1 _
          have HB1 := Lib.hid (HN.out _ w1 hg1)
          have HO1 := Lib.hid hown1
          clear hown1 hg1
          go_wp2_with fail
          go_roundw
          case rel => exact ⟨k + 1, false, ys ++ [y], by omega, by go_num, rfl, by have h := HO1.out; simpa [HM.out] using h, by simp [HM.out]; omega, by simp, HB1.out⟩
          case measure => simp [intOf]; omega
      ·
        go_wp2_with (at_builtin; refine wpList_append_own _ rfl (.tmp 35) (.tmp 40) 30 rfl w.heap.size 2 i0 (.int .i64 0) 1 8 Tryz.underlying30 hi hz0 hz1 hz2 rfl (by decide) _ m _ rfl (HO.out.alloc _) ⟨_, 0, none⟩ 1 1 [.int .i64 y] rfl rfl ?c1e ?c2e ?c3e ?c4e ?c5e ?_)
        try case c1e => exact cell_one_new _ _ _
        case c2e => simp [Value.oneCell']
        case c3e => unfold maxLen; omega
        case c4e => omega
        case c5e => first | omega | (simp; omega)
        intro v1 w1 hown1 hg1 _
        have HB1 := Lib.hid (HN.out _ w1 hg1)
        have HO1 := Lib.hid hown1
        clear hown1 hg1
        go_wp2_with fail
        go_roundw
        case rel => exact ⟨k + 1, true, ys ++ [y], by omega, by go_num, rfl, by have h := HO1.out; simpa [HM.out] using h, by simp [HM.out]; omega, by simp, HB1.out⟩
        case measure => simp [intOf]; omega
    · obtain rfl : k = n := by omega
      cases b
      · have hlf : m ≤ k := by have := HL.out; simpa using this
        go_wp2_with (at_builtin; refine wpList_append_own _ rfl (.tmp 44) (.tmp 46) 30 rfl w.heap.size 2 i0 (.int .i64 0) 1 8 Tryz.underlying30 hi hz0 hz1 hz2 rfl (by decide) _ m _ rfl (HO.out.alloc _) ⟨_, 0, none⟩ 1 1 [.int .i64 x] rfl rfl ?c1f ?c2f ?c3f ?c4f ?c5f ?_)
        try case c1f => exact cell_one_new _ _ _
        case c2f => simp [Value.oneCell']
        case c3f => unfold maxLen; omega
        case c4f => omega
        case c5f => first | omega | (simp; omega)
        intro v1 w1 hown1 hg1 _
        have HB1 := Lib.hid (HN.out _ w1 hg1)
        have hown1' : w1.ownsRow w.heap.size 2 1 v1 (m + 1) ((ys ++ [x]).map (Value.int .i64)) := by simpa using hown1
        obtain ⟨A', c', rfl, hc, hI⟩ := own_ints hown1'
        have HI := Lib.hid hI
        clear hown1 hown1' hg1 hI
        go_wp2_with fail
        go_ret
        exact ⟨A', m + 1, c', _, rfl, by omega, by omega, HI.out, HB1.out⟩
      · obtain ⟨A', c', e, hc, hI⟩ := own_ints HO.out
        subst e
        have HI := Lib.hid hI
        have hm0 : 0 < m := HP.out rfl
        clear hI
        go_wp2_with fail
        go_ret
        exact ⟨A', m, c', _, rfl, hm0, by omega, HI.out, HB.out⟩
end Go.Proofs.YtiebcdajoddkpaaGreatDoor
