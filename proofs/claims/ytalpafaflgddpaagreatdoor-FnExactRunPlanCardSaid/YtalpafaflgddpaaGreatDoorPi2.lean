/-
  Tables and queries of the program: slices.IndexFunc, slices.ContainsFunc at structs; what condOk and TableOk compute. (Printed by gen_pi2.py.)
-/
import Derived.Test.YtalpafaflgddpaaGreatDoorPi1
import Derived.Test.YtalpafaflgddpaaGreatDoorDtTo
import Derived.Lib.IndexAny
namespace Go.Proofs.YtalpafaflgddpaaGreatDoor
open Go.RowKit

theorem idxF_any {α : Type} (p : α → Bool) : ∀ (l : List α) (k : Nat), decide (0 ≤ idxF p l k) = l.any p
  | [], k => by simp [idxF]
  | d :: r, k => by
    unfold idxF
    rw [List.any_cons, ← idxF_any p r (k + 1)]
    by_cases h : p d = true
    · simp [h]
    · simp [h]
theorem withinB_any (n a b : Int) (w : World) :
    Calls Tryz.prog 125 #[.int .i64 n, .int .i64 a, .int .i64 b] w fun e w' => e = .returned (.bool (inB n a b)) ∧ w = w' := within_any n a b w
def PredCond (g : Nat) (lb : Array Value) (p : CondD → Bool) (fs : List CondD) (w : World) : Prop :=
  ∀ d ∈ fs, ∀ c0 c1 c2 W, Below w.heap.size w W → CondR W W.heap.size c0 c1 c2 d → Calls Tryz.prog g (#[.agg #[c0, c1, c2]] ++ lb) W fun e w' => e = .returned (.bool (p d)) ∧ Below W.heap.size W w'
set_option maxHeartbeats 1000000 in
theorem IndexFuncCond_any (g : Nat) (lb : Array Value) (p : CondD → Bool) (A : Option Addr) (n c : Nat) (fs : List CondD) (w : World) (h : Conds w w.heap.size A n fs) (hn : n ≤ 1048576)
    (eg : ∀ args w, (callFunc g args).run Tryz.prog w = .ok (.enter g args) w) (hg : PredCond g lb p fs w) :
    Calls Tryz.prog 136 #[.slice A n c, .func (.func g) #[] lb] w fun e w' => e = .returned (.int .i64 (idxF p fs 0)) ∧ Below w.heap.size w w' := by
  have Hh := Lib.hid h
  have Hlen := Lib.hid h.1
  have Hg := Lib.hid hg
  clear h hg
  go_enter Tryz.func136, Tryz.ntmps136
  go_wp2_with fail
  go_loopw [8] (fun i wr => ∃ k : Nat, k ≤ n ∧ i = .int .i64 k ∧ Below w.heap.size w wr ∧ Hid (idxF p fs 0 = idxF p (fs.drop k) k)) (fun i _ => n - (intOf i).toNat)
  case atStart => exact ⟨0, Nat.zero_le _, rfl, Below.refl _ _, rfl⟩
  case round =>
    obtain ⟨k, hk, rfl, hb, hS⟩ := hrel
    have HB := Lib.hid hb
    clear hb
    by_cases hlt : k < n
    · obtain ⟨b, o, rfl, hbB, hcell⟩ := (Hh.out.later HB.out).2 (by omega)
      obtain ⟨c0, c1, c2, k0, k1, k2, hr⟩ := hcell k hlt
      clear hcell
      have hl : k < fs.length := by rw [Hlen.out]; exact hlt
      have HS := Lib.hid (idxF_step p fs k hl)
      have HK := Lib.hid (Hg.out (fs.getD k default) (getD_memD fs k hl) c0 c1 c2 wr HB.out hr)
      clear hl hr
      generalize fs.getD k default = s at *
      generalize hx : p s = x at *
      have HX := Lib.hid hx
      clear hx
      go_wp2_with fail
      refine HK.out.mono ?_
      rintro e w' ⟨rfl, hb1⟩
      have HB1 := Lib.hid (HB.out.later hb1)
      clear hb1
      cases x
      · go_wp2_with fail
        go_roundw
        case rel => exact ⟨k + 1, by omega, by go_num, HB1.out, by unfold Hid; rw [hS.out, HS.out]; rfl⟩
        case measure => simp [intOf]; omega
      · go_wp2_with fail
        go_ret
        exact ⟨ret_int (by rw [hS.out, HS.out]; rfl), HB1.out⟩
    · have HE : Hid (idxF p fs 0 = -1) := by unfold Hid; rw [hS.out, List.drop_of_length_le (by rw [Hlen.out]; omega)]; rfl
      go_wp2_with fail
      go_ret
      exact ⟨ret_int HE.out.symm, HB.out⟩
set_option maxHeartbeats 400000 in
theorem ContainsFuncCond_any (g : Nat) (lb : Array Value) (p : CondD → Bool) (A : Option Addr) (n c : Nat) (fs : List CondD) (w : World) (h : Conds w w.heap.size A n fs) (hn : n ≤ 1048576)
    (eg : ∀ args w, (callFunc g args).run Tryz.prog w = .ok (.enter g args) w) (hg : PredCond g lb p fs w) :
    Calls Tryz.prog 97 #[.slice A n c, .func (.func g) #[] lb] w fun e w' => e = .returned (.bool (fs.any p)) ∧ Below w.heap.size w w' := by
  have HK := Lib.hid (IndexFuncCond_any g lb p A n c fs w h hn eg hg)
  have hE := idxF_any p fs 0
  clear h hg eg
  generalize fs.any p = R at *
  generalize idxF p fs 0 = x at *
  have HE := Lib.hid hE
  clear hE
  go_enter Tryz.func97, Tryz.ntmps97
  go_wp2_with fail
  refine HK.out.mono ?_
  rintro e w' ⟨rfl, hb1⟩
  have HB1 := Lib.hid hb1
  clear hb1
  go_wp2_with fail
  go_ret
  exact ⟨ret_bool HE.out, HB1.out⟩
def PredNode (g : Nat) (lb : Array Value) (p : NodeD → Bool) (fs : List NodeD) (w : World) : Prop :=
  ∀ d ∈ fs, ∀ c0 c1 c2 W, Below w.heap.size w W → NodeR W W.heap.size c0 c1 c2 d → Calls Tryz.prog g (#[.agg #[c0, c1, c2]] ++ lb) W fun e w' => e = .returned (.bool (p d)) ∧ Below W.heap.size W w'
set_option maxHeartbeats 1000000 in
theorem IndexFuncNode_any (g : Nat) (lb : Array Value) (p : NodeD → Bool) (A : Option Addr) (n c : Nat) (fs : List NodeD) (w : World) (h : Nodes w w.heap.size A n fs) (hn : n ≤ 1048576)
    (eg : ∀ args w, (callFunc g args).run Tryz.prog w = .ok (.enter g args) w) (hg : PredNode g lb p fs w) :
    Calls Tryz.prog 78 #[.slice A n c, .func (.func g) #[] lb] w fun e w' => e = .returned (.int .i64 (idxF p fs 0)) ∧ Below w.heap.size w w' := by
  have Hh := Lib.hid h
  have Hlen := Lib.hid h.1
  have Hg := Lib.hid hg
  clear h hg
  go_enter Tryz.func78, Tryz.ntmps78
  go_wp2_with fail
  go_loopw [8] (fun i wr => ∃ k : Nat, k ≤ n ∧ i = .int .i64 k ∧ Below w.heap.size w wr ∧ Hid (idxF p fs 0 = idxF p (fs.drop k) k)) (fun i _ => n - (intOf i).toNat)
  case atStart => exact ⟨0, Nat.zero_le _, rfl, Below.refl _ _, rfl⟩
  case round =>
    obtain ⟨k, hk, rfl, hb, hS⟩ := hrel
    have HB := Lib.hid hb
    clear hb
    by_cases hlt : k < n
    · obtain ⟨b, o, rfl, hbB, hcell⟩ := (Hh.out.later HB.out).2 (by omega)
      obtain ⟨c0, c1, c2, k0, k1, k2, hr⟩ := hcell k hlt
      clear hcell
      have hl : k < fs.length := by rw [Hlen.out]; exact hlt
      have HS := Lib.hid (idxF_step p fs k hl)
      have HK := Lib.hid (Hg.out (fs.getD k default) (getD_memD fs k hl) c0 c1 c2 wr HB.out hr)
      clear hl hr
      generalize fs.getD k default = s at *
      generalize hx : p s = x at *
      have HX := Lib.hid hx
      clear hx
      go_wp2_with fail
      refine HK.out.mono ?_
      rintro e w' ⟨rfl, hb1⟩
      have HB1 := Lib.hid (HB.out.later hb1)
      clear hb1
      cases x
      · go_wp2_with fail
        go_roundw
        case rel => exact ⟨k + 1, by omega, by go_num, HB1.out, by unfold Hid; rw [hS.out, HS.out]; rfl⟩
        case measure => simp [intOf]; omega
      · go_wp2_with fail
        go_ret
        exact ⟨ret_int (by rw [hS.out, HS.out]; rfl), HB1.out⟩
    · have HE : Hid (idxF p fs 0 = -1) := by unfold Hid; rw [hS.out, List.drop_of_length_le (by rw [Hlen.out]; omega)]; rfl
      go_wp2_with fail
      go_ret
      exact ⟨ret_int HE.out.symm, HB.out⟩
theorem TableOk1_any (s : ByteArray) (w : World) (hs : s.size ≤ 1048576) :
    Calls Tryz.prog 127 #[.string s] w fun e w' => e = .returned (.bool (!nameB s)) ∧ w = w' := by
  have HK := Lib.hid (NameOk_any s w hs)
  generalize nameB s = x at *
  go_enter Tryz.func127, Tryz.ntmps127
  go_wp2_with fail
  refine HK.out.mono ?_
  rintro e w1 ⟨rfl, rfl⟩
  go_wp2_with fail
  go_ret
  exact ⟨rfl, rfl⟩
theorem QueryOk1_any (s : ByteArray) (w : World) (hs : s.size ≤ 1048576) :
    Calls Tryz.prog 128 #[.string s] w fun e w' => e = .returned (.bool (!nameB s)) ∧ w = w' := by
  have HK := Lib.hid (NameOk_any s w hs)
  generalize nameB s = x at *
  go_enter Tryz.func128, Tryz.ntmps128
  go_wp2_with fail
  refine HK.out.mono ?_
  rintro e w1 ⟨rfl, rfl⟩
  go_wp2_with fail
  go_ret
  exact ⟨rfl, rfl⟩
theorem countS_any (A : Option Addr) (n c : Nat) (w : World) (_hn : n ≤ 1048576) :
    Calls Tryz.prog 45 #[.slice A n c] w fun e w' => e = .returned (.int .i64 n) ∧ w = w' := by
  go_enter Tryz.func45, Tryz.ntmps45
  go_wp2
  go_ret
  exact ⟨rfl, rfl⟩
theorem countN_any (A : Option Addr) (n c : Nat) (w : World) (_hn : n ≤ 1048576) :
    Calls Tryz.prog 47 #[.slice A n c] w fun e w' => e = .returned (.int .i64 n) ∧ w = w' := by
  go_enter Tryz.func47, Tryz.ntmps47
  go_wp2
  go_ret
  exact ⟨rfl, rfl⟩
/-- strings.Contains(s, " "). -/
theorem index_space (s : ByteArray) : decide (0 ≤ Lib.indexByte s.data.toList 32) = !(s.data.toList.all fun c => decide (c.toNat ≠ 32)) := by
  rw [← Lib.contains_iff_indexByte, Bool.eq_iff_iff, List.contains_iff_mem]
  simp only [Bool.not_eq_true', List.all_eq_false, decide_eq_true_eq]
  constructor
  · intro h
    exact ⟨32, h, by decide⟩
  · rintro ⟨c, hc, h⟩
    have h2 : c.toNat = 32 := by simpa using h
    have : c = 32 := by
      apply UInt8.toNat_inj.1
      rw [h2]; rfl
    rw [← this]; exact hc
def condI (c : CondD) : Bool := nameB c.col && (inB c.op 1 4 && (cellB c.val && (c.val.data.toList.all fun x => decide (x.toNat ≠ 32))))
theorem condI_eq (c : CondD) : condI c = condB c := by
  unfold condI condB valueB
  rw [Bool.and_comm (cellB c.val)]
set_option maxHeartbeats 1000000 in
theorem condOk_any (c0 c1 c2 : Value) (d : CondD) (w : World) (h : CondR w w.heap.size c0 c1 c2 d) (hs : d.small) :
    Calls Tryz.prog 130 #[.agg #[c0, c1, c2]] w fun e w' => e = .returned (.bool (condB d)) ∧ Below w.heap.size w w' := by
  obtain ⟨rfl, rfl, rfl⟩ := h
  have HKa := Lib.hid (fun W => NameOk_any d.col W hs.1)
  have HKb := Lib.hid (fun W => withinB_any d.op 1 4 W)
  have HKc := Lib.hid (fun W => cellOk_any d.val W hs.2)
  have HKd := Lib.hid (fun W => Tryz.strings_Contains_one d.val 32 W)
  rw [index_space] at HKd
  have HR : Hid (condB d = (nameB d.col && (inB d.op 1 4 && (cellB d.val && (d.val.data.toList.all fun x => decide (x.toNat ≠ 32)))))) := (condI_eq d).symm
  clear hs
  generalize condB d = R at *
  generalize nameB d.col = y0 at *
  generalize inB d.op 1 4 = y1 at *
  generalize cellB d.val = y2 at *
  generalize (d.val.data.toList.all fun x => decide (x.toNat ≠ 32)) = y3 at *
  generalize d.col = cc at *
  generalize d.op = co at *
  generalize d.val = cv at *
  have HB0 := Lib.hid (fun o => Below.new w o)
  go_enter Tryz.func130, Tryz.ntmps130
  go_wp2_with fail
  refine (HKa.out _).mono ?_
  rintro e w1 ⟨rfl, rfl⟩
  cases y0
  · have HE : Hid (R = false) := by unfold Hid; rw [HR.out]; rfl
    go_wp2_with fail
    go_ret
    exact ⟨ret_bool HE.out.symm, HB0.out _⟩
  go_wp2_with fail
  refine (HKb.out _).mono ?_
  rintro e w1 ⟨rfl, rfl⟩
  cases y1
  · have HE : Hid (R = false) := by unfold Hid; rw [HR.out]; rfl
    go_wp2_with fail
    go_ret
    exact ⟨ret_bool HE.out.symm, HB0.out _⟩
  go_wp2_with fail
  refine (HKc.out _).mono ?_
  rintro e w1 ⟨rfl, hb1⟩
  have p2 := box_at hb1 2
  have HB1 := Lib.hid ((HB0.out _).later hb1)
  have hz := hb1.size
  simp at hz
  clear hb1
  cases y2
  · have HE : Hid (R = false) := by unfold Hid; rw [HR.out]; rfl
    go_wp2_with fail
    go_ret
    exact ⟨ret_bool HE.out.symm, HB1.out⟩
  go_wp2_with fail
  refine (HKd.out _).mono ?_
  rintro e w2 ⟨rfl, hw⟩
  subst hw
  have HE : Hid (R = y3) := by unfold Hid; rw [HR.out]; rfl
  go_wp2_with fail
  go_ret
  exact ⟨ret_bool (by rw [HE.out]; first | done | simp), HB1.out⟩
set_option maxHeartbeats 1000000 in
theorem QueryOk2_any (c0 c1 c2 : Value) (d : CondD) (w : World) (h : CondR w w.heap.size c0 c1 c2 d) (hs : d.small) :
    Calls Tryz.prog 129 #[.agg #[c0, c1, c2]] w fun e w' => e = .returned (.bool (!condB d)) ∧ Below w.heap.size w w' := by
  have HK := Lib.hid (fun o => condOk_any c0 c1 c2 d (w.alloc o) (h.later (Below.new _ _)) hs)
  obtain ⟨rfl, rfl, rfl⟩ := h
  clear hs
  generalize condB d = x at *
  go_enter Tryz.func129, Tryz.ntmps129
  go_wp2_with fail
  refine (HK.out _).mono ?_
  rintro e w1 ⟨rfl, hb1⟩
  have HB := Lib.hid ((Below.new w _).later hb1)
  clear hb1
  go_wp2_with fail
  go_ret
  exact ⟨rfl, HB.out⟩
end Go.Proofs.YtalpafaflgddpaaGreatDoor
