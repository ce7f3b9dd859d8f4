/-
  What szX and szXS compute for the struct types: the room that is left. (Printed by gen_dtsz.py.)
-/
import Derived.Test.YtalpafaflgddpaaGreatDoorDt
namespace Go.Proofs.YtalpafaflgddpaaGreatDoor
open Go.RowKit
set_option linter.unusedVariables false

/-- One step more, where room is left. -/
def st (f : Int → Int) (x : Int) : Int := if x < 0 then -1 else f x
def szB (s : ByteArray) (l : Int) : Int := if l - s.size < 0 then -1 else l - s.size
def Good (f : Int → Int) : Prop := ∀ l, 0 ≤ l → -1 ≤ f l ∧ f l ≤ l
theorem Good.b (s : ByteArray) : Good (szB s) := fun l h => by unfold szB; split <;> omega
theorem Good.s (ss : List ByteArray) : Good (szS ss) := fun l h => ⟨szS_ge ss l h, szS_le ss l h⟩
theorem Good.st {f g : Int → Int} (hf : Good f) (hg : Good g) : Good (fun l => st f (g l)) := fun l h => by
  have h1 := hg l h
  show -1 ≤ Go.Proofs.YtalpafaflgddpaaGreatDoor.st f (g l) ∧ Go.Proofs.YtalpafaflgddpaaGreatDoor.st f (g l) ≤ l
  unfold Go.Proofs.YtalpafaflgddpaaGreatDoor.st
  split
  · omega
  · have h2 := hf (g l) (by omega)
    omega
theorem st_pos {f : Int → Int} {x : Int} (h : 0 ≤ st f x) : 0 ≤ x ∧ 0 ≤ f x := by
  unfold st at h
  split at h <;> omega
theorem szB_pos {s : ByteArray} {l : Int} (h : 0 ≤ szB s l) : (s.size : Int) ≤ l ∧ szB s l ≤ l := by
  unfold szB at h ⊢
  split at h <;> split <;> omega
theorem st_neg {f : Int → Int} {x : Int} (h : x < 0) : st f x = -1 := if_pos h
theorem st_m1 {f : Int → Int} : st f (-1) = -1 := rfl
theorem st_go {f : Int → Int} {x : Int} (h : ¬ x < 0) : st f x = f x := if_neg h
theorem szB_neg {s : ByteArray} {x : Int} (h : x - s.size < 0) : szB s x = -1 := if_pos h
theorem szB_go {s : ByteArray} {x : Int} (h : ¬ x - s.size < 0) : szB s x = x - s.size := if_neg h
theorem getD_memD {α : Type} [Inhabited α] (l : List α) (k : Nat) (h : k < l.length) : l.getD k default ∈ l := by
  rw [List.getD_eq_getElem?_getD, List.getElem?_eq_getElem h]; simp
/-- The room behind a list of items. -/
def szLs {α : Type} (f : α → Int → Int) : List α → Int → Int
  | [], left => left
  | d :: r, left => if f d left < 0 then -1 else szLs f r (f d left)
def szIs {α : Type} (f : α → Int → Int) (fs : List α) (left : Int) : Int := if left - fs.length < 0 then -1 else szLs f fs (left - fs.length)
theorem szLs_step {α : Type} [Inhabited α] (f : α → Int → Int) (fs : List α) (k : Nat) (left : Int) (hk : k < fs.length) :
    szLs f (fs.drop k) left = if f (fs.getD k default) left < 0 then -1 else szLs f (fs.drop (k + 1)) (f (fs.getD k default) left) := by
  rw [List.drop_eq_getElem_cons hk]
  simp [szLs, List.getD_eq_getElem?_getD, List.getElem?_eq_getElem hk]
theorem szLs_good {α : Type} (f : α → Int → Int) (hf : ∀ d, Good (f d)) : ∀ (fs : List α), Good (szLs f fs)
  | [] => fun l h => by simp [szLs]; omega
  | d :: r => fun l h => by
    unfold szLs
    have h1 := hf d l h
    split
    · omega
    · have := szLs_good f hf r (f d l) (by omega)
      omega
theorem Good.is {α : Type} {f : α → Int → Int} (hf : ∀ d, Good (f d)) (fs : List α) : Good (szIs f fs) := fun l h => by
  unfold szIs
  split
  · omega
  · have := szLs_good f hf fs (l - fs.length) (by omega)
    omega
theorem szLs_all {α : Type} (f : α → Int → Int) (hf : ∀ d, Good (f d)) (P : α → Prop) (hP : ∀ d l, 0 ≤ l → l ≤ 1048576 → 0 ≤ f d l → P d) : ∀ (fs : List α) (l : Int), 0 ≤ l → l ≤ 1048576 → 0 ≤ szLs f fs l → ∀ d ∈ fs, P d
  | [], _, _, _, _ => fun d hd => by cases hd
  | d :: r, l, h0, h1, h => by
    unfold szLs at h
    split at h
    · omega
    · intro x hx
      have hg := hf d l h0
      rcases List.mem_cons.1 hx with e | e
      · subst e; exact hP x l h0 h1 (by omega)
      · exact szLs_all f hf P hP r (f d l) (by omega) (by omega) h x e
theorem szIs_all {α : Type} (f : α → Int → Int) (hf : ∀ d, Good (f d)) (P : α → Prop) (hP : ∀ d l, 0 ≤ l → l ≤ 1048576 → 0 ≤ f d l → P d) (fs : List α) (l : Int) (h0 : 0 ≤ l) (h1 : l ≤ 1048576) (h : 0 ≤ szIs f fs l) : fs.length ≤ 1048576 ∧ ∀ d ∈ fs, P d := by
  unfold szIs at h
  split at h
  · omega
  · exact ⟨by omega, szLs_all f hf P hP fs _ (by omega) (by omega) h⟩

def szNode (d : NodeD) (left : Int) : Int := st (szB d.val) (st (szS d.subs) ((szB d.name) left))
theorem szNode_good (d : NodeD) : Good (szNode d) := (Good.st (Good.b d.val) (Good.st (Good.s d.subs) (Good.b d.name)))
theorem szNode_small (d : NodeD) (left : Int) (h0 : 0 ≤ left) (h1 : left ≤ 1048576) (h : 0 ≤ szNode d left) : d.small := by
  unfold szNode at h
  have q2 := (st_pos h).2
  replace h := (st_pos h).1
  have q1 := (st_pos h).2
  replace h := (st_pos h).1
  have q0 := h
  have b0 : left ≤ 1048576 ∧ 0 ≤ left := ⟨h1, h0⟩
  have b1 : (szB d.name) left ≤ 1048576 ∧ 0 ≤ (szB d.name) left := by
    have := (Good.b d.name) left b0.2
    omega
  have b2 : st (szS d.subs) ((szB d.name) left) ≤ 1048576 ∧ 0 ≤ st (szS d.subs) ((szB d.name) left) := by
    rw [st_go (by omega)] at q2 ⊢
    have := (Good.s d.subs) ((szB d.name) left) b1.2
    omega
  exact ⟨by have := (szB_pos q0).1; omega, ⟨by have := (szS_room _ _ q1).1; omega, fun s hs => by have := (szS_room _ _ q1).2 s hs; omega⟩, by have := (szB_pos q2).1; omega⟩

set_option maxHeartbeats 2000000 in
theorem szNode_any (c0 c1 c2 : Value) (d : NodeD) (left : Int) (w : World) (h : NodeR w w.heap.size c0 c1 c2 d) (hf : d.fine) (h0 : 0 ≤ left) (h1 : left ≤ 1048576) :
    Calls Tryz.prog 64 #[.agg #[c0, c1, c2], .int .i64 left] w fun e w' => e = .returned (.int .i64 (szNode d left)) ∧ Below w.heap.size w w' := by
  obtain ⟨rfl, ⟨A1, n1, p1, rfl, s1, k1⟩, rfl⟩ := h
  obtain ⟨f0, f1, f2⟩ := hf
  unfold maxLen at f0
  have HK1 := Lib.hid (fun (l : Int) (hl0 : 0 ≤ l) (hl1 : l ≤ 1048576) W (hW : Below w.heap.size w W) => szStringS_any A1 n1 p1 d.subs l W (s1.later hW) hl0 hl1 f1.1 (by rw [← s1.1]; exact f1.2))
  have g1 := fun l h => Good.s d.subs l h
  have G1 := Lib.hid g1
  clear g1 f1 s1
  unfold maxLen at f2
  have HR : Hid (szNode d left = st (szB d.val) (st (szS d.subs) ((szB d.name) left))) := rfl
  generalize szNode d left = R at *
  generalize d.name = x0 at *
  generalize d.val = x2 at *
  have HE : Hid (R = st (szB x2) (st (szS d.subs) ((szB x0) (left)))) := HR.out
  clear HR
  by_cases a0 : left - (x0.size : Int) < 0
  · have HE2 : Hid (R = -1) := by unfold Hid; rw [HE.out, szB_neg a0, st_m1, st_m1]
    go_enter Tryz.func64, Tryz.ntmps64
    go_wp2_with fail
    go_ret
    exact ⟨ret_int HE2.out.symm, Below.new _ _⟩
  replace HE : Hid (R = st (szB x2) ((szS d.subs) (left - (x0.size : Int)))) := by unfold Hid; rw [HE.out, szB_go a0, st_go a0]
  go_enter Tryz.func64, Tryz.ntmps64
  have hl0 : 0 ≤ left - (x0.size : Int) := by omega
  have hl1 : left - (x0.size : Int) ≤ 1048576 := by omega
  have gg := G1.out (left - (x0.size : Int)) hl0
  have HKK := Lib.hid (HK1.out (left - (x0.size : Int)) hl0 hl1)
  go_wp2_with fail
  refine (HKK.out _ (by exact Below.new _ _)).mono ?_
  rintro e w1 ⟨rfl, hw⟩
  subst hw
  generalize szS d.subs (left - (x0.size : Int)) = y1 at *
  by_cases a1 : y1 < 0
  · have HE2 : Hid (R = -1) := by unfold Hid; rw [HE.out, st_neg a1]
    go_wp2_with fail
    go_ret
    exact ⟨ret_int HE2.out.symm, Below.new _ _⟩
  replace HE : Hid (R = (szB x2) (y1)) := by unfold Hid; rw [HE.out, st_go a1]
  by_cases a2 : y1 - (x2.size : Int) < 0
  · have HE2 : Hid (R = -1) := by unfold Hid; rw [HE.out, szB_neg a2]
    go_wp2_with fail
    go_ret
    exact ⟨ret_int HE2.out.symm, Below.new _ _⟩
  replace HE : Hid (R = y1 - (x2.size : Int)) := by unfold Hid; rw [HE.out, szB_go a2]
  go_wp2_with fail
  go_ret
  exact ⟨ret_int HE.out.symm, Below.new _ _⟩

set_option maxHeartbeats 1000000 in
theorem szNodeS_any (A : Option Addr) (n c : Nat) (fs : List NodeD) (left : Int) (w : World) (h : Nodes w w.heap.size A n fs) (hf : ∀ d ∈ fs, d.fine)
    (h0 : 0 ≤ left) (h1 : left ≤ 1048576) (hn : n ≤ maxLen) :
    Calls Tryz.prog 29 #[.slice A n c, .int .i64 left] w fun e w' => e = .returned (.int .i64 (szIs szNode fs left)) ∧ Below w.heap.size w w' := by
  have Hh := Lib.hid h
  have Hlen := Lib.hid h.1
  have Hf := Lib.hid hf
  unfold maxLen at hn
  clear h hf
  by_cases hl : left - n < 0
  · have HE : Hid (szIs szNode fs left = -1) := by unfold Hid szIs; rw [Hlen.out, if_pos hl]
    go_enter Tryz.func29, Tryz.ntmps29
    go_wp2
    go_ret
    exact ⟨ret_int HE.out.symm, Below.refl _ _⟩
  · have HE : Hid (szIs szNode fs left = szLs szNode fs (left - n)) := by unfold Hid szIs; rw [Hlen.out, if_neg hl]
    go_enter Tryz.func29, Tryz.ntmps29
    go_wp2_with fail
    go_loopw [1, 5] (fun l i wr => ∃ (k : Nat) (m : Int), k ≤ n ∧ 0 ≤ m ∧ m ≤ left ∧ i = .int .i64 k ∧ l = .int .i64 m ∧ Below w.heap.size w wr ∧ Hid (szIs szNode fs left = szLs szNode (fs.drop k) m)) (fun _ i _ => n - (intOf i).toNat)
    case atStart => exact ⟨0, left - n, Nat.zero_le _, by omega, by omega, rfl, rfl, Below.refl _ _, HE.out⟩
    case round =>
      obtain ⟨k, m, hk, hm0, hm1, rfl, rfl, hb, hS⟩ := hrel
      have HB := Lib.hid hb
      clear hb
      by_cases hlt : k < n
      · obtain ⟨b, o, rfl, hbB, hc⟩ := (Hh.out.later HB.out).2 (by omega)
        obtain ⟨c0, c1, c2, k0, k1, k2, hr⟩ := hc k hlt
        clear hc
        have hl' : k < fs.length := by rw [Hlen.out]; exact hlt
        have HS := Lib.hid (szLs_step szNode fs k m hl')
        have HF := Lib.hid (Hf.out (fs.getD k default) (getD_memD fs k hl'))
        clear hl'
        have HR := Lib.hid hr
        clear hr
        have hge := szNode_good (fs.getD k default) m hm0
        have HK := Lib.hid (szNode_any c0 c1 c2 (fs.getD k default) m wr HR.out HF.out hm0 (by omega))
        generalize szNode (fs.getD k default) m = x at *
        go_wp2_with fail
        refine (HK.out).mono ?_
        rintro e w1 ⟨rfl, hb1⟩
        have HB1 := Lib.hid (HB.out.later hb1)
        clear hb1
        by_cases hx : x < 0
        · have HE2 : Hid (szIs szNode fs left = -1) := by unfold Hid; rw [hS.out, HS.out, if_pos hx]
          go_wp2_with fail
          go_ret
          exact ⟨ret_int HE2.out.symm, HB1.out⟩
        · have HE2 : Hid (szIs szNode fs left = szLs szNode (fs.drop (k + 1)) x) := by unfold Hid; rw [hS.out, HS.out, if_neg hx]
          go_wp2_with fail
          go_roundw
          case rel => exact ⟨k + 1, x, by omega, by omega, by omega, by go_num, rfl, HB1.out, HE2.out⟩
          case measure => simp [intOf]; omega
      · go_wp2_with fail
        go_ret
        exact ⟨ret_int (by rw [hS.out, List.drop_of_length_le (by rw [Hlen.out]; omega)]; rfl), HB.out⟩

def szCond (d : CondD) (left : Int) : Int := st (szB d.val) ((szB d.col) left)
theorem szCond_good (d : CondD) : Good (szCond d) := (Good.st (Good.b d.val) (Good.b d.col))
theorem szCond_small (d : CondD) (left : Int) (h0 : 0 ≤ left) (h1 : left ≤ 1048576) (h : 0 ≤ szCond d left) : d.small := by
  unfold szCond at h
  have q1 := (st_pos h).2
  replace h := (st_pos h).1
  have q0 := h
  have b0 : left ≤ 1048576 ∧ 0 ≤ left := ⟨h1, h0⟩
  have b1 : (szB d.col) left ≤ 1048576 ∧ 0 ≤ (szB d.col) left := by
    have := (Good.b d.col) left b0.2
    omega
  exact ⟨by have := (szB_pos q0).1; omega, by have := (szB_pos q1).1; omega⟩

set_option maxHeartbeats 2000000 in
theorem szCond_any (c0 c1 c2 : Value) (d : CondD) (left : Int) (w : World) (h : CondR w w.heap.size c0 c1 c2 d) (hf : d.fine) (h0 : 0 ≤ left) (h1 : left ≤ 1048576) :
    Calls Tryz.prog 65 #[.agg #[c0, c1, c2], .int .i64 left] w fun e w' => e = .returned (.int .i64 (szCond d left)) ∧ Below w.heap.size w w' := by
  obtain ⟨rfl, rfl, rfl⟩ := h
  obtain ⟨f0, f2⟩ := hf
  unfold maxLen at f0
  unfold maxLen at f2
  have HR : Hid (szCond d left = st (szB d.val) ((szB d.col) left)) := rfl
  generalize szCond d left = R at *
  generalize d.col = x0 at *
  generalize d.val = x2 at *
  have HE : Hid (R = st (szB x2) ((szB x0) (left))) := HR.out
  clear HR
  by_cases a0 : left - (x0.size : Int) < 0
  · have HE2 : Hid (R = -1) := by unfold Hid; rw [HE.out, szB_neg a0, st_m1]
    go_enter Tryz.func65, Tryz.ntmps65
    go_wp2_with fail
    go_ret
    exact ⟨ret_int HE2.out.symm, Below.new _ _⟩
  replace HE : Hid (R = (szB x2) (left - (x0.size : Int))) := by unfold Hid; rw [HE.out, szB_go a0, st_go a0]
  by_cases a1 : left - (x0.size : Int) - (x2.size : Int) < 0
  · have HE2 : Hid (R = -1) := by unfold Hid; rw [HE.out, szB_neg a1]
    go_enter Tryz.func65, Tryz.ntmps65
    go_wp2_with fail
    go_ret
    exact ⟨ret_int HE2.out.symm, Below.new _ _⟩
  replace HE : Hid (R = left - (x0.size : Int) - (x2.size : Int)) := by unfold Hid; rw [HE.out, szB_go a1]
  go_enter Tryz.func65, Tryz.ntmps65
  go_wp2_with fail
  go_ret
  exact ⟨ret_int HE.out.symm, Below.new _ _⟩

set_option maxHeartbeats 1000000 in
theorem szCondS_any (A : Option Addr) (n c : Nat) (fs : List CondD) (left : Int) (w : World) (h : Conds w w.heap.size A n fs) (hf : ∀ d ∈ fs, d.fine)
    (h0 : 0 ≤ left) (h1 : left ≤ 1048576) (hn : n ≤ maxLen) :
    Calls Tryz.prog 31 #[.slice A n c, .int .i64 left] w fun e w' => e = .returned (.int .i64 (szIs szCond fs left)) ∧ Below w.heap.size w w' := by
  have Hh := Lib.hid h
  have Hlen := Lib.hid h.1
  have Hf := Lib.hid hf
  unfold maxLen at hn
  clear h hf
  by_cases hl : left - n < 0
  · have HE : Hid (szIs szCond fs left = -1) := by unfold Hid szIs; rw [Hlen.out, if_pos hl]
    go_enter Tryz.func31, Tryz.ntmps31
    go_wp2
    go_ret
    exact ⟨ret_int HE.out.symm, Below.refl _ _⟩
  · have HE : Hid (szIs szCond fs left = szLs szCond fs (left - n)) := by unfold Hid szIs; rw [Hlen.out, if_neg hl]
    go_enter Tryz.func31, Tryz.ntmps31
    go_wp2_with fail
    go_loopw [1, 5] (fun l i wr => ∃ (k : Nat) (m : Int), k ≤ n ∧ 0 ≤ m ∧ m ≤ left ∧ i = .int .i64 k ∧ l = .int .i64 m ∧ Below w.heap.size w wr ∧ Hid (szIs szCond fs left = szLs szCond (fs.drop k) m)) (fun _ i _ => n - (intOf i).toNat)
    case atStart => exact ⟨0, left - n, Nat.zero_le _, by omega, by omega, rfl, rfl, Below.refl _ _, HE.out⟩
    case round =>
      obtain ⟨k, m, hk, hm0, hm1, rfl, rfl, hb, hS⟩ := hrel
      have HB := Lib.hid hb
      clear hb
      by_cases hlt : k < n
      · obtain ⟨b, o, rfl, hbB, hc⟩ := (Hh.out.later HB.out).2 (by omega)
        obtain ⟨c0, c1, c2, k0, k1, k2, hr⟩ := hc k hlt
        clear hc
        have hl' : k < fs.length := by rw [Hlen.out]; exact hlt
        have HS := Lib.hid (szLs_step szCond fs k m hl')
        have HF := Lib.hid (Hf.out (fs.getD k default) (getD_memD fs k hl'))
        clear hl'
        have HR := Lib.hid hr
        clear hr
        have hge := szCond_good (fs.getD k default) m hm0
        have HK := Lib.hid (szCond_any c0 c1 c2 (fs.getD k default) m wr HR.out HF.out hm0 (by omega))
        generalize szCond (fs.getD k default) m = x at *
        go_wp2_with fail
        refine (HK.out).mono ?_
        rintro e w1 ⟨rfl, hb1⟩
        have HB1 := Lib.hid (HB.out.later hb1)
        clear hb1
        by_cases hx : x < 0
        · have HE2 : Hid (szIs szCond fs left = -1) := by unfold Hid; rw [hS.out, HS.out, if_pos hx]
          go_wp2_with fail
          go_ret
          exact ⟨ret_int HE2.out.symm, HB1.out⟩
        · have HE2 : Hid (szIs szCond fs left = szLs szCond (fs.drop (k + 1)) x) := by unfold Hid; rw [hS.out, HS.out, if_neg hx]
          go_wp2_with fail
          go_roundw
          case rel => exact ⟨k + 1, x, by omega, by omega, by omega, by go_num, rfl, HB1.out, HE2.out⟩
          case measure => simp [intOf]; omega
      · go_wp2_with fail
        go_ret
        exact ⟨ret_int (by rw [hS.out, List.drop_of_length_le (by rw [Hlen.out]; omega)]; rfl), HB.out⟩

def szTree (d : TreeD) (left : Int) : Int := (szIs szNode d.nodes) left
theorem szTree_good (d : TreeD) : Good (szTree d) := (Good.is szNode_good d.nodes)
theorem szTree_small (d : TreeD) (left : Int) (h0 : 0 ≤ left) (h1 : left ≤ 1048576) (h : 0 ≤ szTree d left) : d.small := by
  unfold szTree at h
  have q0 := h
  have b0 : left ≤ 1048576 ∧ 0 ≤ left := ⟨h1, h0⟩
  exact szIs_all szNode szNode_good _ (fun d l a b c => szNode_small d l a b c) _ _ b0.2 b0.1 q0

set_option maxHeartbeats 2000000 in
theorem szTree_any (c0 : Value) (d : TreeD) (left : Int) (w : World) (h : TreeR w w.heap.size c0 d) (hf : d.fine) (h0 : 0 ≤ left) (h1 : left ≤ 1048576) :
    Calls Tryz.prog 6 #[.agg #[c0], .int .i64 left] w fun e w' => e = .returned (.int .i64 (szTree d left)) ∧ Below w.heap.size w w' := by
  obtain ⟨A0, n0, p0, rfl, s0, k0⟩ := h
  have f0 := hf
  have HK0 := Lib.hid (fun (l : Int) (hl0 : 0 ≤ l) (hl1 : l ≤ 1048576) W (hW : Below w.heap.size w W) => szNodeS_any A0 n0 p0 d.nodes l W (s0.later hW) f0.1 hl0 hl1 (by rw [← s0.1]; exact f0.2))
  have g0 := fun l h => Good.is szNode_good d.nodes l h
  have G0 := Lib.hid g0
  clear g0 f0 s0
  have HR : Hid (szTree d left = (szIs szNode d.nodes) left) := rfl
  generalize szTree d left = R at *
  have HE : Hid (R = (szIs szNode d.nodes) (left)) := HR.out
  clear HR
  go_enter Tryz.func6, Tryz.ntmps6
  have hl0 : 0 ≤ left := by omega
  have hl1 : left ≤ 1048576 := by omega
  have gg := G0.out (left) hl0
  have HKK := Lib.hid (HK0.out (left) hl0 hl1)
  go_wp2_with fail
  refine (HKK.out _ (by exact Below.new _ _)).mono ?_
  rintro e w0 ⟨rfl, hb⟩
  have HB := Lib.hid ((Below.new _ _).later hb)
  have hz := hb.size
  simp at hz
  clear hb
  generalize szIs szNode d.nodes (left) = y0 at *
  by_cases a0 : y0 < 0
  · have HE2 : Hid (R = -1) := by unfold Hid; rw [HE.out]; omega
    go_wp2_with fail
    go_ret
    exact ⟨ret_int HE2.out.symm, HB.out⟩
  go_wp2_with fail
  go_ret
  exact ⟨ret_int HE.out.symm, HB.out⟩

def szTable (d : TableD) (left : Int) : Int := st (szS d.idx) (st (szS d.cols) (st (szB d.glob) ((szB d.name) left)))
theorem szTable_good (d : TableD) : Good (szTable d) := (Good.st (Good.s d.idx) (Good.st (Good.s d.cols) (Good.st (Good.b d.glob) (Good.b d.name))))
theorem szTable_small (d : TableD) (left : Int) (h0 : 0 ≤ left) (h1 : left ≤ 1048576) (h : 0 ≤ szTable d left) : d.small := by
  unfold szTable at h
  have q3 := (st_pos h).2
  replace h := (st_pos h).1
  have q2 := (st_pos h).2
  replace h := (st_pos h).1
  have q1 := (st_pos h).2
  replace h := (st_pos h).1
  have q0 := h
  have b0 : left ≤ 1048576 ∧ 0 ≤ left := ⟨h1, h0⟩
  have b1 : (szB d.name) left ≤ 1048576 ∧ 0 ≤ (szB d.name) left := by
    have := (Good.b d.name) left b0.2
    omega
  have b2 : st (szB d.glob) ((szB d.name) left) ≤ 1048576 ∧ 0 ≤ st (szB d.glob) ((szB d.name) left) := by
    rw [st_go (by omega)] at q2 ⊢
    have := (Good.b d.glob) ((szB d.name) left) b1.2
    omega
  have b3 : st (szS d.cols) (st (szB d.glob) ((szB d.name) left)) ≤ 1048576 ∧ 0 ≤ st (szS d.cols) (st (szB d.glob) ((szB d.name) left)) := by
    rw [st_go (by omega)] at q3 ⊢
    have := (Good.s d.cols) (st (szB d.glob) ((szB d.name) left)) b2.2
    omega
  exact ⟨by have := (szB_pos q0).1; omega, by have := (szB_pos q1).1; omega, ⟨by have := (szS_room _ _ q2).1; omega, fun s hs => by have := (szS_room _ _ q2).2 s hs; omega⟩, ⟨by have := (szS_room _ _ q3).1; omega, fun s hs => by have := (szS_room _ _ q3).2 s hs; omega⟩⟩

set_option maxHeartbeats 2000000 in
theorem szTable_any (c0 c1 c2 c3 : Value) (d : TableD) (left : Int) (w : World) (h : TableR w w.heap.size c0 c1 c2 c3 d) (hf : d.fine) (h0 : 0 ≤ left) (h1 : left ≤ 1048576) :
    Calls Tryz.prog 7 #[.agg #[c0, c1, c2, c3], .int .i64 left] w fun e w' => e = .returned (.int .i64 (szTable d left)) ∧ Below w.heap.size w w' := by
  obtain ⟨rfl, rfl, ⟨A2, n2, p2, rfl, s2, k2⟩, ⟨A3, n3, p3, rfl, s3, k3⟩⟩ := h
  obtain ⟨f0, f1, f2, f3⟩ := hf
  unfold maxLen at f0
  unfold maxLen at f1
  have HK2 := Lib.hid (fun (l : Int) (hl0 : 0 ≤ l) (hl1 : l ≤ 1048576) W (hW : Below w.heap.size w W) => szStringS_any A2 n2 p2 d.cols l W (s2.later hW) hl0 hl1 f2.1 (by rw [← s2.1]; exact f2.2))
  have g2 := fun l h => Good.s d.cols l h
  have G2 := Lib.hid g2
  clear g2 f2 s2
  have HK3 := Lib.hid (fun (l : Int) (hl0 : 0 ≤ l) (hl1 : l ≤ 1048576) W (hW : Below w.heap.size w W) => szStringS_any A3 n3 p3 d.idx l W (s3.later hW) hl0 hl1 f3.1 (by rw [← s3.1]; exact f3.2))
  have g3 := fun l h => Good.s d.idx l h
  have G3 := Lib.hid g3
  clear g3 f3 s3
  have HR : Hid (szTable d left = st (szS d.idx) (st (szS d.cols) (st (szB d.glob) ((szB d.name) left)))) := rfl
  generalize szTable d left = R at *
  generalize d.name = x0 at *
  generalize d.glob = x1 at *
  have HE : Hid (R = st (szS d.idx) (st (szS d.cols) (st (szB x1) ((szB x0) (left))))) := HR.out
  clear HR
  by_cases a0 : left - (x0.size : Int) < 0
  · have HE2 : Hid (R = -1) := by unfold Hid; rw [HE.out, szB_neg a0, st_m1, st_m1, st_m1]
    go_enter Tryz.func7, Tryz.ntmps7
    go_wp2_with fail
    go_ret
    exact ⟨ret_int HE2.out.symm, Below.new _ _⟩
  replace HE : Hid (R = st (szS d.idx) (st (szS d.cols) ((szB x1) (left - (x0.size : Int))))) := by unfold Hid; rw [HE.out, szB_go a0, st_go a0]
  by_cases a1 : left - (x0.size : Int) - (x1.size : Int) < 0
  · have HE2 : Hid (R = -1) := by unfold Hid; rw [HE.out, szB_neg a1, st_m1, st_m1]
    go_enter Tryz.func7, Tryz.ntmps7
    go_wp2_with fail
    go_ret
    exact ⟨ret_int HE2.out.symm, Below.new _ _⟩
  replace HE : Hid (R = st (szS d.idx) ((szS d.cols) (left - (x0.size : Int) - (x1.size : Int)))) := by unfold Hid; rw [HE.out, szB_go a1, st_go a1]
  go_enter Tryz.func7, Tryz.ntmps7
  have hl0 : 0 ≤ left - (x0.size : Int) - (x1.size : Int) := by omega
  have hl1 : left - (x0.size : Int) - (x1.size : Int) ≤ 1048576 := by omega
  have gg := G2.out (left - (x0.size : Int) - (x1.size : Int)) hl0
  have HKK := Lib.hid (HK2.out (left - (x0.size : Int) - (x1.size : Int)) hl0 hl1)
  go_wp2_with fail
  refine (HKK.out _ (by exact Below.new _ _)).mono ?_
  rintro e w2 ⟨rfl, hw⟩
  subst hw
  generalize szS d.cols (left - (x0.size : Int) - (x1.size : Int)) = y2 at *
  by_cases a2 : y2 < 0
  · have HE2 : Hid (R = -1) := by unfold Hid; rw [HE.out, st_neg a2]
    go_wp2_with fail
    go_ret
    exact ⟨ret_int HE2.out.symm, Below.new _ _⟩
  replace HE : Hid (R = (szS d.idx) (y2)) := by unfold Hid; rw [HE.out, st_go a2]
  have hl0 : 0 ≤ y2 := by omega
  have hl1 : y2 ≤ 1048576 := by omega
  have gg := G3.out (y2) hl0
  have HKK := Lib.hid (HK3.out (y2) hl0 hl1)
  go_wp2_with fail
  refine (HKK.out _ (by exact Below.new _ _)).mono ?_
  rintro e w3 ⟨rfl, hw⟩
  subst hw
  generalize szS d.idx (y2) = y3 at *
  by_cases a3 : y3 < 0
  · have HE2 : Hid (R = -1) := by unfold Hid; rw [HE.out]; omega
    go_wp2_with fail
    go_ret
    exact ⟨ret_int HE2.out.symm, Below.new _ _⟩
  go_wp2_with fail
  go_ret
  exact ⟨ret_int HE.out.symm, Below.new _ _⟩

def szQuery (d : QueryD) (left : Int) : Int := st (szB d.order) (st (szIs szCond d.wher) (st (szS d.cols) ((szB d.table) left)))
theorem szQuery_good (d : QueryD) : Good (szQuery d) := (Good.st (Good.b d.order) (Good.st (Good.is szCond_good d.wher) (Good.st (Good.s d.cols) (Good.b d.table))))
theorem szQuery_small (d : QueryD) (left : Int) (h0 : 0 ≤ left) (h1 : left ≤ 1048576) (h : 0 ≤ szQuery d left) : d.small := by
  unfold szQuery at h
  have q3 := (st_pos h).2
  replace h := (st_pos h).1
  have q2 := (st_pos h).2
  replace h := (st_pos h).1
  have q1 := (st_pos h).2
  replace h := (st_pos h).1
  have q0 := h
  have b0 : left ≤ 1048576 ∧ 0 ≤ left := ⟨h1, h0⟩
  have b1 : (szB d.table) left ≤ 1048576 ∧ 0 ≤ (szB d.table) left := by
    have := (Good.b d.table) left b0.2
    omega
  have b2 : st (szS d.cols) ((szB d.table) left) ≤ 1048576 ∧ 0 ≤ st (szS d.cols) ((szB d.table) left) := by
    rw [st_go (by omega)] at q2 ⊢
    have := (Good.s d.cols) ((szB d.table) left) b1.2
    omega
  have b3 : st (szIs szCond d.wher) (st (szS d.cols) ((szB d.table) left)) ≤ 1048576 ∧ 0 ≤ st (szIs szCond d.wher) (st (szS d.cols) ((szB d.table) left)) := by
    rw [st_go (by omega)] at q3 ⊢
    have := (Good.is szCond_good d.wher) (st (szS d.cols) ((szB d.table) left)) b2.2
    omega
  exact ⟨by have := (szB_pos q0).1; omega, ⟨by have := (szS_room _ _ q1).1; omega, fun s hs => by have := (szS_room _ _ q1).2 s hs; omega⟩, szIs_all szCond szCond_good _ (fun d l a b c => szCond_small d l a b c) _ _ b2.2 b2.1 q2, by have := (szB_pos q3).1; omega⟩

set_option maxHeartbeats 2000000 in
theorem szQuery_any (c0 c1 c2 c3 c4 c5 : Value) (d : QueryD) (left : Int) (w : World) (h : QueryR w w.heap.size c0 c1 c2 c3 c4 c5 d) (hf : d.fine) (h0 : 0 ≤ left) (h1 : left ≤ 1048576) :
    Calls Tryz.prog 8 #[.agg #[c0, c1, c2, c3, c4, c5], .int .i64 left] w fun e w' => e = .returned (.int .i64 (szQuery d left)) ∧ Below w.heap.size w w' := by
  obtain ⟨rfl, ⟨A1, n1, p1, rfl, s1, k1⟩, ⟨A2, n2, p2, rfl, s2, k2⟩, rfl, rfl, rfl⟩ := h
  obtain ⟨f0, f1, f2, f3⟩ := hf
  unfold maxLen at f0
  have HK1 := Lib.hid (fun (l : Int) (hl0 : 0 ≤ l) (hl1 : l ≤ 1048576) W (hW : Below w.heap.size w W) => szStringS_any A1 n1 p1 d.cols l W (s1.later hW) hl0 hl1 f1.1 (by rw [← s1.1]; exact f1.2))
  have g1 := fun l h => Good.s d.cols l h
  have G1 := Lib.hid g1
  clear g1 f1 s1
  have HK2 := Lib.hid (fun (l : Int) (hl0 : 0 ≤ l) (hl1 : l ≤ 1048576) W (hW : Below w.heap.size w W) => szCondS_any A2 n2 p2 d.wher l W (s2.later hW) f2.1 hl0 hl1 (by rw [← s2.1]; exact f2.2))
  have g2 := fun l h => Good.is szCond_good d.wher l h
  have G2 := Lib.hid g2
  clear g2 f2 s2
  unfold maxLen at f3
  have HR : Hid (szQuery d left = st (szB d.order) (st (szIs szCond d.wher) (st (szS d.cols) ((szB d.table) left)))) := rfl
  generalize szQuery d left = R at *
  generalize d.table = x0 at *
  generalize d.order = x3 at *
  have HE : Hid (R = st (szB x3) (st (szIs szCond d.wher) (st (szS d.cols) ((szB x0) (left))))) := HR.out
  clear HR
  by_cases a0 : left - (x0.size : Int) < 0
  · have HE2 : Hid (R = -1) := by unfold Hid; rw [HE.out, szB_neg a0, st_m1, st_m1, st_m1]
    go_enter Tryz.func8, Tryz.ntmps8
    go_wp2_with fail
    go_ret
    exact ⟨ret_int HE2.out.symm, Below.new _ _⟩
  replace HE : Hid (R = st (szB x3) (st (szIs szCond d.wher) ((szS d.cols) (left - (x0.size : Int))))) := by unfold Hid; rw [HE.out, szB_go a0, st_go a0]
  go_enter Tryz.func8, Tryz.ntmps8
  have hl0 : 0 ≤ left - (x0.size : Int) := by omega
  have hl1 : left - (x0.size : Int) ≤ 1048576 := by omega
  have gg := G1.out (left - (x0.size : Int)) hl0
  have HKK := Lib.hid (HK1.out (left - (x0.size : Int)) hl0 hl1)
  go_wp2_with fail
  refine (HKK.out _ (by exact Below.new _ _)).mono ?_
  rintro e w1 ⟨rfl, hw⟩
  subst hw
  generalize szS d.cols (left - (x0.size : Int)) = y1 at *
  by_cases a1 : y1 < 0
  · have HE2 : Hid (R = -1) := by unfold Hid; rw [HE.out, st_neg a1, st_m1]
    go_wp2_with fail
    go_ret
    exact ⟨ret_int HE2.out.symm, Below.new _ _⟩
  replace HE : Hid (R = st (szB x3) ((szIs szCond d.wher) (y1))) := by unfold Hid; rw [HE.out, st_go a1]
  have hl0 : 0 ≤ y1 := by omega
  have hl1 : y1 ≤ 1048576 := by omega
  have gg := G2.out (y1) hl0
  have HKK := Lib.hid (HK2.out (y1) hl0 hl1)
  go_wp2_with fail
  refine (HKK.out _ (by exact Below.new _ _)).mono ?_
  rintro e w2 ⟨rfl, hb⟩
  have c3 := box_at hb 3
  have c4 := box_at hb 4
  have c5 := box_at hb 5
  have HB := Lib.hid ((Below.new _ _).later hb)
  have hz := hb.size
  simp at hz
  clear hb
  generalize szIs szCond d.wher (y1) = y2 at *
  by_cases a2 : y2 < 0
  · have HE2 : Hid (R = -1) := by unfold Hid; rw [HE.out, st_neg a2]
    go_wp2_with fail
    go_ret
    exact ⟨ret_int HE2.out.symm, HB.out⟩
  replace HE : Hid (R = (szB x3) (y2)) := by unfold Hid; rw [HE.out, st_go a2]
  by_cases a3 : y2 - (x3.size : Int) < 0
  · have HE2 : Hid (R = -1) := by unfold Hid; rw [HE.out, szB_neg a3]
    go_wp2_with fail
    go_ret
    exact ⟨ret_int HE2.out.symm, HB.out⟩
  replace HE : Hid (R = y2 - (x3.size : Int)) := by unfold Hid; rw [HE.out, szB_go a3]
  go_wp2_with fail
  go_ret
  exact ⟨ret_int HE.out.symm, HB.out⟩

def szPlan (d : PlanD) (left : Int) : Int := st (szB d.val) ((szB d.col) left)
theorem szPlan_good (d : PlanD) : Good (szPlan d) := (Good.st (Good.b d.val) (Good.b d.col))
theorem szPlan_small (d : PlanD) (left : Int) (h0 : 0 ≤ left) (h1 : left ≤ 1048576) (h : 0 ≤ szPlan d left) : d.small := by
  unfold szPlan at h
  have q1 := (st_pos h).2
  replace h := (st_pos h).1
  have q0 := h
  have b0 : left ≤ 1048576 ∧ 0 ≤ left := ⟨h1, h0⟩
  have b1 : (szB d.col) left ≤ 1048576 ∧ 0 ≤ (szB d.col) left := by
    have := (Good.b d.col) left b0.2
    omega
  exact ⟨by have := (szB_pos q0).1; omega, by have := (szB_pos q1).1; omega⟩

set_option maxHeartbeats 2000000 in
theorem szPlan_any (c0 c1 c2 : Value) (d : PlanD) (left : Int) (w : World) (h : PlanR w w.heap.size c0 c1 c2 d) (hf : d.fine) (h0 : 0 ≤ left) (h1 : left ≤ 1048576) :
    Calls Tryz.prog 9 #[.agg #[c0, c1, c2], .int .i64 left] w fun e w' => e = .returned (.int .i64 (szPlan d left)) ∧ Below w.heap.size w w' := by
  obtain ⟨rfl, rfl, rfl⟩ := h
  obtain ⟨f1, f2⟩ := hf
  unfold maxLen at f1
  unfold maxLen at f2
  have HR : Hid (szPlan d left = st (szB d.val) ((szB d.col) left)) := rfl
  generalize szPlan d left = R at *
  generalize d.col = x1 at *
  generalize d.val = x2 at *
  have HE : Hid (R = st (szB x2) ((szB x1) (left))) := HR.out
  clear HR
  by_cases a0 : left - (x1.size : Int) < 0
  · have HE2 : Hid (R = -1) := by unfold Hid; rw [HE.out, szB_neg a0, st_m1]
    go_enter Tryz.func9, Tryz.ntmps9
    go_wp2_with fail
    go_ret
    exact ⟨ret_int HE2.out.symm, Below.new _ _⟩
  replace HE : Hid (R = (szB x2) (left - (x1.size : Int))) := by unfold Hid; rw [HE.out, szB_go a0, st_go a0]
  by_cases a1 : left - (x1.size : Int) - (x2.size : Int) < 0
  · have HE2 : Hid (R = -1) := by unfold Hid; rw [HE.out, szB_neg a1]
    go_enter Tryz.func9, Tryz.ntmps9
    go_wp2_with fail
    go_ret
    exact ⟨ret_int HE2.out.symm, Below.new _ _⟩
  replace HE : Hid (R = left - (x1.size : Int) - (x2.size : Int)) := by unfold Hid; rw [HE.out, szB_go a1]
  go_enter Tryz.func9, Tryz.ntmps9
  go_wp2_with fail
  go_ret
  exact ⟨ret_int HE.out.symm, Below.new _ _⟩
end Go.Proofs.YtalpafaflgddpaaGreatDoor
