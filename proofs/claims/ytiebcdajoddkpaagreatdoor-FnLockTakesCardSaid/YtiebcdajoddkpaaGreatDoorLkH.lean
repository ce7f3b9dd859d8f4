/-
  Locks of the reference: what l24Hold makes of locks of the call's own. (Printed by gen_lkh.py.)
-/
import Derived.Test.YtiebcdajoddkpaaGreatDoorLkAcq
import Derived.Test.YtiebcdajoddkpaaGreatDoorLk6
import Derived.Maps.AppendAt
namespace Go.Proofs.YtiebcdajoddkpaaGreatDoor
open Go.RowKit

def condH (nd d : ItD) : Bool := decide (nd.a < d.a) || (decide (d.a = nd.a) && lessB nd.name nd.subs d.name d.subs)
def bumpIf (aw : Int) (k : Nat) (d : ItD) : ItD := if (k : Int) = aw then { d with b := d.b + 1 } else d
def stepH (held : List ItD) (vs : List Value) (aw : Int) (nd : ItD) (nv : Value) (k : Nat) (s : Bool × List ItD × List Value) : Bool × List ItD × List Value :=
  if (!s.1 && condH nd (held.getD k default)) = true then (true, (s.2.1 ++ [nd]) ++ [bumpIf aw k (held.getD k default)], (s.2.2 ++ [nv]) ++ [vs.getD k (.slice none 0 0)])
  else (s.1, s.2.1 ++ [bumpIf aw k (held.getD k default)], s.2.2 ++ [vs.getD k (.slice none 0 0)])
def holdSt (held : List ItD) (vs : List Value) (aw : Int) (nd : ItD) (nv : Value) : Nat → Bool × List ItD × List Value
  | 0 => (decide (0 ≤ aw), [], [])
  | k + 1 => stepH held vs aw nd nv k (holdSt held vs aw nd nv k)
def holdEnd (nd : ItD) (nv : Value) (s : Bool × List ItD × List Value) : List ItD × List Value := if s.1 = true then (s.2.1, s.2.2) else (s.2.1 ++ [nd], s.2.2 ++ [nv])

structure HoldI (w : World) (N : Nat) (xv nc : Array Value) (nv : Value) (ss : List ByteArray) (v : Value) (L : List ItD) (U : List Value) (wr : World) : Prop where
  len : U.length = L.length
  row : wr.ownsRow w.heap.size 37 4 v L.length (flat L U)
  ne : v.ownBlock ≠ some N
  bx : Blk wr w.heap.size 27 xv
  br : Blk wr (w.heap.size + 1) 27 #[.slice none 0 0, .slice none 0 0]
  bn : Blk wr N 37 nc
  below : Below w.heap.size w wr
  sub : SubO wr w.heap.size nv ss
theorem HoldI.later {w wr wq : World} {N : Nat} {xv nc : Array Value} {nv : Value} {ss : List ByteArray} {v : Value} {L : List ItD} {U : List Value} (h : HoldI w N xv nc nv ss v L U wr) (hb : Below wr.heap.size wr wq) : HoldI w N xv nc nv ss v L U wq :=
  ⟨h.len, own_later h.row hb, h.ne, h.bx.later hb h.bx.lt, h.br.later hb h.br.lt, h.bn.later hb h.bn.lt, h.below.later hb, own_later h.sub hb⟩
theorem HoldI.snoc {w V wq : World} {N : Nat} {xv nc : Array Value} {nv : Value} {ss : List ByteArray} {v v2 u : Value} {L : List ItD} {U : List Value} {d : ItD} (h : HoldI w N xv nc nv ss v L U V)
    (hown : wq.ownsRow w.heap.size 37 4 v2 (L.length + 1) (flat L U ++ cellsIt d u)) (hg : V.grownBy wq v.ownBlock) (hat : v2.ownBlock = v.ownBlock ∨ v2.ownBlock = some V.heap.size) : HoldI w N xv nc nv ss v2 (L ++ [d]) (U ++ [u]) wq := by
  refine ⟨by simp [h.len], ?_, ?_, h.bx.grown hg (fun e => own_blk_ne h.row h.bx (by decide) e.symm), h.br.grown hg (fun e => own_blk_ne h.row h.br (by decide) e.symm), h.bn.grown hg (fun e => h.ne e.symm), ?_, kept_apart h.sub hg (apart_types h.sub h.row (by decide))⟩
  · rw [List.length_append, flat_append _ _ _ _ h.len]
    simpa [flat] using hown
  · intro e
    rcases hat with hat | hat
    · exact h.ne (hat.symm.trans e)
    · have := h.bn.lt
      rw [hat] at e
      simp at e
      omega
  · exact h.below.grown hg h.below.size (fun g hg' => (h.row.lt g hg').1)

def HoldPost (v1 : Value) (ss : List ByteArray) (R : Value → List ItD × List Value) (w : World) (e : Ending) (w' : World) : Prop :=
  ∃ v nv, e = .returned (.agg #[v, v1]) ∧ SubO w' w.heap.size nv ss ∧ (R nv).2.length = (R nv).1.length ∧ w'.ownsRow w.heap.size 37 4 v (R nv).1.length (flat (R nv).1 (R nv).2) ∧ Below w.heap.size w w'
theorem holdSt_len (held : List ItD) (vs : List Value) (aw : Int) (nd : ItD) (nv : Value) : ∀ k, (holdSt held vs aw nd nv k).2.1.length ≤ 2 * k
  | 0 => by simp [holdSt]
  | k + 1 => by
    have ih := holdSt_len held vs aw nd nv k
    unfold holdSt stepH
    split <;> simp <;> omega

set_option maxRecDepth 100000 in
set_option maxHeartbeats 4000000 in
theorem l24Hold_any (base : Nat) (A A' : Option Addr) (c n' c' : Nat) (held : List ItD) (vs : List Value) (job : Int) (nm : ByteArray) (S : Option Addr) (m q : Nat) (ss : List ByteArray) (w : World) (h : OwnIts w base 37 (.slice A held.length c) held vs) (hs : smalls held)
    (hS : Strs w w.heap.size S m ss) (hst : (tgt job nm ss).small) (hb9 : ∀ d ∈ held, 0 ≤ d.b ∧ d.b ≤ 9) :
    Calls Tryz.prog 59 #[.agg #[.slice A held.length c, .slice A' n' c'], .int .i64 job, .string nm, .slice S m q] w
      (HoldPost (.slice A' n' c') ss (fun nv => holdEnd ⟨job, 1, nm, ss⟩ nv (holdSt held vs (lockAt held job nm ss) ⟨job, 1, nm, ss⟩ nv held.length)) w) := by
  obtain ⟨i0, hi, hz0, hz1, hz2⟩ := info_parts infoLock
  have hm : m ≤ 1048576 := by rw [← hS.1]; exact hst.2.1
  have hn : held.length ≤ 1048576 := hs.1
  have HK1 := Lib.hid (fun W (hW : Below w.heap.size w W) => l24Subs_own S m q ss W (hS.later hW) hm)
  obtain ⟨Ax, capx, ex, hcx, _, hIts⟩ := h.its
  obtain ⟨rfl, rfl⟩ : A = Ax ∧ c = capx := by simpa using ex
  have HK2 := Lib.hid (fun W (hW : Below w.heap.size w W) => l24At_any A A' S held.length c n' c' m q held job nm ss W (hIts.later hW) hs (hS.later hW) hm)
  have HS := Lib.hid hS
  have HO := Lib.hid h
  have Hs := Lib.hid hs
  have HST := Lib.hid hst
  have H9 := Lib.hid hb9
  clear hS h hs hst hb9 hIts ex
  generalize lockAt held job nm ss = aw at *
  generalize hN : held.length = n at *
  have HN := Lib.hid hN
  clear hN
  go_enter Tryz.func59, Tryz.ntmps59
  go_wp2_with fail
  refine (HK1.out _ (by exact ((Below.new _ _).later (Below.new _ _)).later (Below.new _ _))).mono ?_
  rintro e w1 ⟨v', rfl, hsub, hb1⟩
  have hbx := Blk.later (heap_new0 w _ _ _) hb1 (by simp; omega)
  have hby := Blk.later (heap_new1 w _ _ _) hb1 (by simp)
  have hbz := Blk.later (heap_new2 w _ _ _) hb1 (by simp)
  have HB1 := Lib.hid ((((Below.new _ _).later (Below.new _ _)).later (Below.new _ _)).later hb1)
  have HBX := Lib.hid hbx
  have HBY := Lib.hid hby
  have HBZ := Lib.hid hbz
  have hsz1 : w.heap.size + 3 ≤ w1.heap.size := by have := hb1.size; simp at this; omega
  have HSUB := Lib.hid (own_base (base := w.heap.size) hsub (by simp; omega))
  obtain ⟨AV, capV, rfl, hcapV, _, _⟩ := own_slice hsub
  have p1 := hbx.cell
  have z1 := hbx.lt
  clear hb1 hbx hby hbz hsub
  go_wp2_with fail
  refine (HK2.out _ (by exact HB1.out.later (Below.new _ _))).mono ?_
  rintro e w2 ⟨rfl, hb2⟩
  have HBXb := Lib.hid ((HBX.out.alloc (.cells #[.int .i64 job, .int .i64 1, .string nm, .slice AV ss.length capV] 37)).later hb2 (by simp; omega))
  have HI0 : Hid (HoldI w w1.heap.size #[.slice A n c, .slice A' n' c'] #[.int .i64 job, .int .i64 1, .string nm, .slice AV ss.length capV] (.slice AV ss.length capV) ss (.slice (some ⟨w.heap.size + 1 + 1, 0, none⟩) 0 0) [] [] w2) := by
    refine ⟨rfl, ?_, ?_, (HBX.out.alloc _).later hb2 (by simp; omega), (HBY.out.alloc _).later hb2 (by simp; omega), Blk.later (heap_alloc_new w1 _) hb2 (by simp), (HB1.out.later (Below.new _ _)).later hb2, own_later (own_later HSUB.out (Below.new _ _)) hb2⟩
    · refine ⟨rfl, .inr ⟨_, 0, _, rfl, by omega, (HBZ.out.alloc _).later hb2 (by simp; omega), Nat.le_refl _, by simp [maxLen], rfl, rfl⟩⟩
    · simp [Value.ownBlock]; omega
  clear hb2 p1 z1
  have p1 := HI0.out.bx.cell
  have z1 := HI0.out.bx.lt
  go_wp2_with fail
  clear p1 z1
  have HEQ : Hid (∀ k, (holdSt held vs aw ⟨job, 1, nm, ss⟩ (.slice AV ss.length capV) (k + 1)) = stepH held vs aw ⟨job, 1, nm, ss⟩ (.slice AV ss.length capV) k (holdSt held vs aw ⟨job, 1, nm, ss⟩ (.slice AV ss.length capV) k)) := fun _ => rfl
  have HLE := Lib.hid (holdSt_len held vs aw ⟨job, 1, nm, ss⟩ (.slice AV ss.length capV))
  have HZ0 : Hid (holdSt held vs aw ⟨job, 1, nm, ss⟩ (.slice AV ss.length capV) 0 = (decide (0 ≤ aw), [], [])) := rfl
  generalize hST : holdSt held vs aw ⟨job, 1, nm, ss⟩ (.slice AV ss.length capV) = ST at *
  have HSTe := Lib.hid hST
  clear hST
  go_loopw [9, 12, 13] (fun v d i wr => ∃ (k : Nat) (b : Bool) (L : List ItD) (U : List Value), k ≤ n ∧ i = .int .i64 k ∧ d = .bool b ∧ Hid (ST k = (b, L, U)) ∧ HoldI w w1.heap.size #[.slice A n c, .slice A' n' c'] #[.int .i64 job, .int .i64 1, .string nm, .slice AV ss.length capV] (.slice AV ss.length capV) ss v L U wr) (fun _ _ i _ => n - (intOf i).toNat)
  case atStart => exact ⟨0, _, [], [], Nat.zero_le _, rfl, rfl, HZ0.out, HI0.out⟩
  case round =>
    obtain ⟨k, b, L, U, hk, rfl, rfl, hSt, hI⟩ := hrel
    have HI := Lib.hid hI
    have HSt := Lib.hid hSt
    have p1 := HI.out.bx.cell 0
    have z1 := HI.out.bx.lt
    simp at p1
    clear hI hSt
    by_cases hlt : k < n
    · have hl1 : k < held.length := by rw [HN.out]; exact hlt
      have hrow := own_later HO.out.row HI.out.below
      rw [HN.out] at hrow
      obtain ⟨g, hAg, hgl, _⟩ : ∃ g, A = some ⟨g, 0, none⟩ ∧ g < wr.heap.size ∧ base ≤ g := by
        obtain ⟨Ay, capy, ey, _, _, hy⟩ := own_slice hrow
        obtain ⟨g, e1, e2, e3⟩ := hy (by omega)
        have e4 : A = Ay := by simpa using (Value.slice.inj ey).1
        exact ⟨g, e4.trans e1, e2, e3⟩
      subst hAg
      have hlen := HO.out.len
      have k0 := own_cell hrow (k * 4) (.int .i64 (held.getD k default).a) (by omega) ((flat_at held vs k 0 hlen hl1 (by omega)).trans rfl)
      have k1 := own_cell hrow (k * 4 + 1) (.int .i64 (held.getD k default).b) (by omega) ((flat_at held vs k 1 hlen hl1 (by omega)).trans rfl)
      have k2 := own_cell hrow (k * 4 + 2) (.string (held.getD k default).name) (by omega) ((flat_at held vs k 2 hlen hl1 (by omega)).trans rfl)
      have k3 := own_cell hrow (k * 4 + 3) (vs.getD k (.slice none 0 0)) (by omega) ((flat_at held vs k 3 hlen hl1 (by omega)).trans rfl)
      have hsm := Hs.out.2 _ (getD_mem held k hl1)
      have h9 := H9.out _ (getD_mem held k hl1)
      obtain ⟨A3, cap3, e3, hc3, hS3⟩ := own_strs (own_later (HO.out.subs k hl1) HI.out.below)
      have HNx : Hid (ST (k + 1) = if (!b && condH ⟨job, 1, nm, ss⟩ (held.getD k default)) = true then (true, (L ++ [⟨job, 1, nm, ss⟩]) ++ [bumpIf aw k (held.getD k default)], (U ++ [.slice AV ss.length capV]) ++ [vs.getD k (.slice none 0 0)]) else (b, L ++ [bumpIf aw k (held.getD k default)], U ++ [vs.getD k (.slice none 0 0)])) := by
        unfold Hid
        rw [HEQ.out k, HSt.out]
        rfl
      have hLl : L.length ≤ 2 * k := by have hx := HLE.out k; rw [HSt.out] at hx; exact hx
      have HLl := Lib.hid hLl
      rw [e3] at HNx k3
      have HKL := Lib.hid (fun W (hW : Below wr.heap.size wr W) => l24Less_any nm (held.getD k default).name S A3 m q (held.getD k default).subs.length cap3 ss (held.getD k default).subs W ((HS.out.later HI.out.below).later hW) (hS3.later hW) hm hsm.2.1 HST.out.2.2 hsm.2.2)
      clear hl1 hrow hlen hsm e3 hS3 hLl
      have HCD : Hid (condH ⟨job, 1, nm, ss⟩ (held.getD k default) = (decide (job < (held.getD k default).a) || (decide ((held.getD k default).a = job) && lessB nm ss (held.getD k default).name (held.getD k default).subs))) := rfl
      have HBI : Hid (bumpIf aw k (held.getD k default) = if (k : Int) = aw then { held.getD k default with b := (held.getD k default).b + 1 } else held.getD k default) := rfl
      generalize hcd : condH ⟨job, 1, nm, ss⟩ (held.getD k default) = cd at *
      generalize lessB nm ss (held.getD k default).name (held.getD k default).subs = le at *
      generalize bumpIf aw k (held.getD k default) = dn at *
      generalize held.getD k default = d at *
      clear hcd
      have hw1 : IntKind.i64.wrap (d.b + 1) = d.b + 1 := by rw [IntKind.wrap_i64]; omega
      have HW1 := Lib.hid hw1
      clear h9 hw1
      by_cases hka : (k : Int) = aw
      · subst hka
        have hdn : dn = { d with b := d.b + 1 } := by rw [HBI.out, if_pos rfl]
        have hw1 := HW1.out
        have HBV : Hid (Below wr.heap.size wr (wr.alloc (.cells #[.int .i64 d.a, .int .i64 (d.b + 1), .string d.name, .slice A3 d.subs.length cap3] 37))) := Below.new wr _
        have HIV := Lib.hid (HI.out.later HBV.out)
        have HH : Hid (Blk (wr.alloc (.cells #[.int .i64 d.a, .int .i64 (d.b + 1), .string d.name, .slice A3 d.subs.length cap3] 37)) wr.heap.size 37 #[.int .i64 d.a, .int .i64 (d.b + 1), .string d.name, .slice A3 d.subs.length cap3]) := heap_alloc_new wr _
        cases b
        · by_cases hgt : job < d.a
          · have HE : Hid (ST (k + 1) = (true, (L ++ [⟨job, 1, nm, ss⟩]) ++ [{ d with b := d.b + 1 }], (U ++ [.slice AV ss.length capV]) ++ [(.slice A3 d.subs.length cap3)])) := by unfold Hid; rw [HNx.out, HCD.out, decide_eq_true hgt, hdn]; rfl
            have pn := HIV.out.bn.cell
            have zn := HIV.out.bn.lt
            have pm := HI.out.bn.cell
            have zm := HI.out.bn.lt
            have hnN := Lib.hid (HIV.out.later (Below.new _ (.cells #[.int .i64 job, .int .i64 1, .string nm, .slice AV ss.length capV] 37)))
            go_wp2_with (at_builtin; refine wpList_append_own_at _ rfl (.tmp 70) (.tmp 72) 24 rfl w.heap.size 37 i0 _ 4 56 Tryz.underlying24 hi hz0 hz1 hz2 rfl (by decide) _ _ _ rfl hnN.out.row ⟨_, 0, none⟩ 1 1 (#[.int .i64 job, .int .i64 1, .string nm, .slice AV ss.length capV] : Array Value).toList rfl rfl (by exact cells_at _ #[.int .i64 job, .int .i64 1, .string nm, .slice AV ss.length capV] _ _ (by simp)) (by simp [Value.oneCell']) (by have := HLl.out; unfold maxLen; simp; omega) (by have := HLl.out; simp; omega) (by exact hnN.out.below.size) ?_)
            intro hnv hnw hn1 hn2 _ hn3
            have hnI := Lib.hid (hnN.out.snoc (d := ⟨job, 1, nm, ss⟩) (u := (.slice AV ss.length capV)) (by first | exact hn1 | (rw [List.length_append]; exact hn1)) hn2 (by simpa using hn3))
            have hnG := Lib.hid hn2
            clear hn1 hn2 hn3
            have HH2 := Lib.hid ((HH.out.alloc (.cells #[.int .i64 job, .int .i64 1, .string nm, .slice AV ss.length capV] 37)).grown hnG.out (fun e => by have := (HI.out.row.lt wr.heap.size e.symm).2; omega))
            clear pn zn pm zm
            have ph := HH2.out.cell
            have zh := HH2.out.lt
            have hoN := Lib.hid (hnI.out.later (Below.new _ (.cells #[.int .i64 d.a, .int .i64 (d.b + 1), .string d.name, .slice A3 d.subs.length cap3] 37)))
            go_wp2_with (at_builtin; refine wpList_append_own_at _ rfl (.tmp 74) (.tmp 76) 24 rfl w.heap.size 37 i0 _ 4 56 Tryz.underlying24 hi hz0 hz1 hz2 rfl (by decide) _ _ _ rfl hoN.out.row ⟨_, 0, none⟩ 1 1 (#[.int .i64 d.a, .int .i64 (d.b + 1), .string d.name, .slice A3 d.subs.length cap3] : Array Value).toList rfl rfl (by exact cells_at _ #[.int .i64 d.a, .int .i64 (d.b + 1), .string d.name, .slice A3 d.subs.length cap3] _ _ (by simp)) (by simp [Value.oneCell']) (by have := HLl.out; unfold maxLen; simp; omega) (by have := HLl.out; simp; omega) (by exact hoN.out.below.size) ?_)
            intro hov how ho1 ho2 _ ho3
            have hoI := Lib.hid (hoN.out.snoc (d := { d with b := d.b + 1 }) (u := (.slice A3 d.subs.length cap3)) (by first | exact ho1 | (rw [List.length_append]; exact ho1)) ho2 (by simpa using ho3))
            have hoG := Lib.hid ho2
            clear ho1 ho2 ho3
            go_wp2_with fail
            first
              | (go_roundw
                 case rel => exact ⟨k + 1, true, _, _, by omega, by go_num, rfl, HE.out, hoI.out⟩
                 case measure => simp [intOf]; omega)
              | (refine ⟨?_, ?measure⟩
                 (repeat apply Exists.intro)
                 refine ⟨?rel, rfl⟩
                 case rel => exact ⟨k + 1, true, _, _, by omega, by go_num, rfl, HE.out, hoI.out⟩
                 case measure => simp [intOf]; omega)
          · by_cases heq : d.a = job
            · subst heq
              go_wp2_with fail
              refine (HKL.out _ HBV.out).mono ?_
              rintro e wl ⟨rfl, hbl⟩
              have HIl := Lib.hid (HIV.out.later hbl)
              have HHl := Lib.hid (HH.out.later hbl HH.out.lt)
              clear HH hbl
              have HH := HHl
              have phl := HHl.out.cell
              have zhl := HHl.out.lt
              cases le
              · have HE : Hid (ST (k + 1) = (false, L ++ [{ d with b := d.b + 1 }], U ++ [(.slice A3 d.subs.length cap3)])) := by unfold Hid; rw [HNx.out, HCD.out, decide_eq_false (show ¬ d.a < d.a by omega), hdn]; rfl
                have hoN := Lib.hid (HIl.out.later (Below.new _ (.cells #[.int .i64 d.a, .int .i64 (d.b + 1), .string d.name, .slice A3 d.subs.length cap3] 37)))
                go_wp2_with (at_builtin; refine wpList_append_own_at _ rfl (.tmp 74) (.tmp 76) 24 rfl w.heap.size 37 i0 _ 4 56 Tryz.underlying24 hi hz0 hz1 hz2 rfl (by decide) _ _ _ rfl hoN.out.row ⟨_, 0, none⟩ 1 1 (#[.int .i64 d.a, .int .i64 (d.b + 1), .string d.name, .slice A3 d.subs.length cap3] : Array Value).toList rfl rfl (by exact cells_at _ #[.int .i64 d.a, .int .i64 (d.b + 1), .string d.name, .slice A3 d.subs.length cap3] _ _ (by simp)) (by simp [Value.oneCell']) (by have := HLl.out; unfold maxLen; simp; omega) (by have := HLl.out; simp; omega) (by exact hoN.out.below.size) ?_)
                intro hov how ho1 ho2 _ ho3
                have hoI := Lib.hid (hoN.out.snoc (d := { d with b := d.b + 1 }) (u := (.slice A3 d.subs.length cap3)) (by first | exact ho1 | (rw [List.length_append]; exact ho1)) ho2 (by simpa using ho3))
                have hoG := Lib.hid ho2
                clear ho1 ho2 ho3
                go_wp2_with fail
                first
                  | (go_roundw
                     case rel => exact ⟨k + 1, false, _, _, by omega, by go_num, rfl, HE.out, hoI.out⟩
                     case measure => simp [intOf]; omega)
                  | (refine ⟨?_, ?measure⟩
                     (repeat apply Exists.intro)
                     refine ⟨?rel, rfl⟩
                     case rel => exact ⟨k + 1, false, _, _, by omega, by go_num, rfl, HE.out, hoI.out⟩
                     case measure => simp [intOf]; omega)
              · have HE : Hid (ST (k + 1) = (true, (L ++ [⟨d.a, 1, nm, ss⟩]) ++ [{ d with b := d.b + 1 }], (U ++ [.slice AV ss.length capV]) ++ [(.slice A3 d.subs.length cap3)])) := by unfold Hid; rw [HNx.out, HCD.out, decide_eq_false (show ¬ d.a < d.a by omega), hdn]; rfl
                have pn := HIl.out.bn.cell
                have zn := HIl.out.bn.lt
                have pm := HI.out.bn.cell
                have zm := HI.out.bn.lt
                have hnN := Lib.hid (HIl.out.later (Below.new _ (.cells #[.int .i64 d.a, .int .i64 1, .string nm, .slice AV ss.length capV] 37)))
                go_wp2_with (at_builtin; refine wpList_append_own_at _ rfl (.tmp 70) (.tmp 72) 24 rfl w.heap.size 37 i0 _ 4 56 Tryz.underlying24 hi hz0 hz1 hz2 rfl (by decide) _ _ _ rfl hnN.out.row ⟨_, 0, none⟩ 1 1 (#[.int .i64 d.a, .int .i64 1, .string nm, .slice AV ss.length capV] : Array Value).toList rfl rfl (by exact cells_at _ #[.int .i64 d.a, .int .i64 1, .string nm, .slice AV ss.length capV] _ _ (by simp)) (by simp [Value.oneCell']) (by have := HLl.out; unfold maxLen; simp; omega) (by have := HLl.out; simp; omega) (by exact hnN.out.below.size) ?_)
                intro hnv hnw hn1 hn2 _ hn3
                have hnI := Lib.hid (hnN.out.snoc (d := ⟨d.a, 1, nm, ss⟩) (u := (.slice AV ss.length capV)) (by first | exact hn1 | (rw [List.length_append]; exact hn1)) hn2 (by simpa using hn3))
                have hnG := Lib.hid hn2
                clear hn1 hn2 hn3
                have HH2 := Lib.hid ((HH.out.alloc (.cells #[.int .i64 d.a, .int .i64 1, .string nm, .slice AV ss.length capV] 37)).grown hnG.out (fun e => by have := (HI.out.row.lt wr.heap.size e.symm).2; omega))
                clear pn zn pm zm
                have ph := HH2.out.cell
                have zh := HH2.out.lt
                have hoN := Lib.hid (hnI.out.later (Below.new _ (.cells #[.int .i64 d.a, .int .i64 (d.b + 1), .string d.name, .slice A3 d.subs.length cap3] 37)))
                go_wp2_with (at_builtin; refine wpList_append_own_at _ rfl (.tmp 74) (.tmp 76) 24 rfl w.heap.size 37 i0 _ 4 56 Tryz.underlying24 hi hz0 hz1 hz2 rfl (by decide) _ _ _ rfl hoN.out.row ⟨_, 0, none⟩ 1 1 (#[.int .i64 d.a, .int .i64 (d.b + 1), .string d.name, .slice A3 d.subs.length cap3] : Array Value).toList rfl rfl (by exact cells_at _ #[.int .i64 d.a, .int .i64 (d.b + 1), .string d.name, .slice A3 d.subs.length cap3] _ _ (by simp)) (by simp [Value.oneCell']) (by have := HLl.out; unfold maxLen; simp; omega) (by have := HLl.out; simp; omega) (by exact hoN.out.below.size) ?_)
                intro hov how ho1 ho2 _ ho3
                have hoI := Lib.hid (hoN.out.snoc (d := { d with b := d.b + 1 }) (u := (.slice A3 d.subs.length cap3)) (by first | exact ho1 | (rw [List.length_append]; exact ho1)) ho2 (by simpa using ho3))
                have hoG := Lib.hid ho2
                clear ho1 ho2 ho3
                go_wp2_with fail
                first
                  | (go_roundw
                     case rel => exact ⟨k + 1, true, _, _, by omega, by go_num, rfl, HE.out, hoI.out⟩
                     case measure => simp [intOf]; omega)
                  | (refine ⟨?_, ?measure⟩
                     (repeat apply Exists.intro)
                     refine ⟨?rel, rfl⟩
                     case rel => exact ⟨k + 1, true, _, _, by omega, by go_num, rfl, HE.out, hoI.out⟩
                     case measure => simp [intOf]; omega)
            · have hneq : (d.a == job) = false := by rw [beq_eq_false_iff_ne]; exact heq
              have HE : Hid (ST (k + 1) = (false, L ++ [{ d with b := d.b + 1 }], U ++ [(.slice A3 d.subs.length cap3)])) := by unfold Hid; rw [HNx.out, HCD.out, decide_eq_false hgt, decide_eq_false heq, hdn]; rfl
              have hoN := Lib.hid (HIV.out.later (Below.new _ (.cells #[.int .i64 d.a, .int .i64 (d.b + 1), .string d.name, .slice A3 d.subs.length cap3] 37)))
              go_wp2_with (at_builtin; refine wpList_append_own_at _ rfl (.tmp 74) (.tmp 76) 24 rfl w.heap.size 37 i0 _ 4 56 Tryz.underlying24 hi hz0 hz1 hz2 rfl (by decide) _ _ _ rfl hoN.out.row ⟨_, 0, none⟩ 1 1 (#[.int .i64 d.a, .int .i64 (d.b + 1), .string d.name, .slice A3 d.subs.length cap3] : Array Value).toList rfl rfl (by exact cells_at _ #[.int .i64 d.a, .int .i64 (d.b + 1), .string d.name, .slice A3 d.subs.length cap3] _ _ (by simp)) (by simp [Value.oneCell']) (by have := HLl.out; unfold maxLen; simp; omega) (by have := HLl.out; simp; omega) (by exact hoN.out.below.size) ?_)
              intro hov how ho1 ho2 _ ho3
              have hoI := Lib.hid (hoN.out.snoc (d := { d with b := d.b + 1 }) (u := (.slice A3 d.subs.length cap3)) (by first | exact ho1 | (rw [List.length_append]; exact ho1)) ho2 (by simpa using ho3))
              have hoG := Lib.hid ho2
              clear ho1 ho2 ho3
              go_wp2_with fail
              first
                | (go_roundw
                   case rel => exact ⟨k + 1, false, _, _, by omega, by go_num, rfl, HE.out, hoI.out⟩
                   case measure => simp [intOf]; omega)
                | (refine ⟨?_, ?measure⟩
                   (repeat apply Exists.intro)
                   refine ⟨?rel, rfl⟩
                   case rel => exact ⟨k + 1, false, _, _, by omega, by go_num, rfl, HE.out, hoI.out⟩
                   case measure => simp [intOf]; omega)
        · have HE : Hid (ST (k + 1) = (true, L ++ [{ d with b := d.b + 1 }], U ++ [(.slice A3 d.subs.length cap3)])) := by unfold Hid; rw [HNx.out, hdn]; rfl
          have hoN := Lib.hid (HIV.out.later (Below.new _ (.cells #[.int .i64 d.a, .int .i64 (d.b + 1), .string d.name, .slice A3 d.subs.length cap3] 37)))
          go_wp2_with (at_builtin; refine wpList_append_own_at _ rfl (.tmp 74) (.tmp 76) 24 rfl w.heap.size 37 i0 _ 4 56 Tryz.underlying24 hi hz0 hz1 hz2 rfl (by decide) _ _ _ rfl hoN.out.row ⟨_, 0, none⟩ 1 1 (#[.int .i64 d.a, .int .i64 (d.b + 1), .string d.name, .slice A3 d.subs.length cap3] : Array Value).toList rfl rfl (by exact cells_at _ #[.int .i64 d.a, .int .i64 (d.b + 1), .string d.name, .slice A3 d.subs.length cap3] _ _ (by simp)) (by simp [Value.oneCell']) (by have := HLl.out; unfold maxLen; simp; omega) (by have := HLl.out; simp; omega) (by exact hoN.out.below.size) ?_)
          intro hov how ho1 ho2 _ ho3
          have hoI := Lib.hid (hoN.out.snoc (d := { d with b := d.b + 1 }) (u := (.slice A3 d.subs.length cap3)) (by first | exact ho1 | (rw [List.length_append]; exact ho1)) ho2 (by simpa using ho3))
          have hoG := Lib.hid ho2
          clear ho1 ho2 ho3
          go_wp2_with fail
          first
            | (go_roundw
               case rel => exact ⟨k + 1, true, _, _, by omega, by go_num, rfl, HE.out, hoI.out⟩
               case measure => simp [intOf]; omega)
            | (refine ⟨?_, ?measure⟩
               (repeat apply Exists.intro)
               refine ⟨?rel, rfl⟩
               case rel => exact ⟨k + 1, true, _, _, by omega, by go_num, rfl, HE.out, hoI.out⟩
               case measure => simp [intOf]; omega)
      · have hkab : ((k : Int) == aw) = false := by rw [beq_eq_false_iff_ne]; exact hka
        have hdn : dn = d := by rw [HBI.out, if_neg hka]
        have HBV : Hid (Below wr.heap.size wr (wr.alloc (.cells #[.int .i64 d.a, .int .i64 d.b, .string d.name, .slice A3 d.subs.length cap3] 37))) := Below.new wr _
        have HIV := Lib.hid (HI.out.later HBV.out)
        have HH : Hid (Blk (wr.alloc (.cells #[.int .i64 d.a, .int .i64 d.b, .string d.name, .slice A3 d.subs.length cap3] 37)) wr.heap.size 37 #[.int .i64 d.a, .int .i64 d.b, .string d.name, .slice A3 d.subs.length cap3]) := heap_alloc_new wr _
        cases b
        · by_cases hgt : job < d.a
          · have HE : Hid (ST (k + 1) = (true, (L ++ [⟨job, 1, nm, ss⟩]) ++ [d], (U ++ [.slice AV ss.length capV]) ++ [(.slice A3 d.subs.length cap3)])) := by unfold Hid; rw [HNx.out, HCD.out, decide_eq_true hgt, hdn]; rfl
            have pn := HIV.out.bn.cell
            have zn := HIV.out.bn.lt
            have pm := HI.out.bn.cell
            have zm := HI.out.bn.lt
            have hnN := Lib.hid (HIV.out.later (Below.new _ (.cells #[.int .i64 job, .int .i64 1, .string nm, .slice AV ss.length capV] 37)))
            go_wp2_with (at_builtin; refine wpList_append_own_at _ rfl (.tmp 70) (.tmp 72) 24 rfl w.heap.size 37 i0 _ 4 56 Tryz.underlying24 hi hz0 hz1 hz2 rfl (by decide) _ _ _ rfl hnN.out.row ⟨_, 0, none⟩ 1 1 (#[.int .i64 job, .int .i64 1, .string nm, .slice AV ss.length capV] : Array Value).toList rfl rfl (by exact cells_at _ #[.int .i64 job, .int .i64 1, .string nm, .slice AV ss.length capV] _ _ (by simp)) (by simp [Value.oneCell']) (by have := HLl.out; unfold maxLen; simp; omega) (by have := HLl.out; simp; omega) (by exact hnN.out.below.size) ?_)
            intro hnv hnw hn1 hn2 _ hn3
            have hnI := Lib.hid (hnN.out.snoc (d := ⟨job, 1, nm, ss⟩) (u := (.slice AV ss.length capV)) (by first | exact hn1 | (rw [List.length_append]; exact hn1)) hn2 (by simpa using hn3))
            have hnG := Lib.hid hn2
            clear hn1 hn2 hn3
            have HH2 := Lib.hid ((HH.out.alloc (.cells #[.int .i64 job, .int .i64 1, .string nm, .slice AV ss.length capV] 37)).grown hnG.out (fun e => by have := (HI.out.row.lt wr.heap.size e.symm).2; omega))
            clear pn zn pm zm
            have ph := HH2.out.cell
            have zh := HH2.out.lt
            have hoN := Lib.hid (hnI.out.later (Below.new _ (.cells #[.int .i64 d.a, .int .i64 d.b, .string d.name, .slice A3 d.subs.length cap3] 37)))
            go_wp2_with (at_builtin; refine wpList_append_own_at _ rfl (.tmp 74) (.tmp 76) 24 rfl w.heap.size 37 i0 _ 4 56 Tryz.underlying24 hi hz0 hz1 hz2 rfl (by decide) _ _ _ rfl hoN.out.row ⟨_, 0, none⟩ 1 1 (#[.int .i64 d.a, .int .i64 d.b, .string d.name, .slice A3 d.subs.length cap3] : Array Value).toList rfl rfl (by exact cells_at _ #[.int .i64 d.a, .int .i64 d.b, .string d.name, .slice A3 d.subs.length cap3] _ _ (by simp)) (by simp [Value.oneCell']) (by have := HLl.out; unfold maxLen; simp; omega) (by have := HLl.out; simp; omega) (by exact hoN.out.below.size) ?_)
            intro hov how ho1 ho2 _ ho3
            have hoI := Lib.hid (hoN.out.snoc (d := d) (u := (.slice A3 d.subs.length cap3)) (by first | exact ho1 | (rw [List.length_append]; exact ho1)) ho2 (by simpa using ho3))
            have hoG := Lib.hid ho2
            clear ho1 ho2 ho3
            go_wp2_with fail
            first
              | (go_roundw
                 case rel => exact ⟨k + 1, true, _, _, by omega, by go_num, rfl, HE.out, hoI.out⟩
                 case measure => simp [intOf]; omega)
              | (refine ⟨?_, ?measure⟩
                 (repeat apply Exists.intro)
                 refine ⟨?rel, rfl⟩
                 case rel => exact ⟨k + 1, true, _, _, by omega, by go_num, rfl, HE.out, hoI.out⟩
                 case measure => simp [intOf]; omega)
          · by_cases heq : d.a = job
            · subst heq
              go_wp2_with fail
              refine (HKL.out _ HBV.out).mono ?_
              rintro e wl ⟨rfl, hbl⟩
              have HIl := Lib.hid (HIV.out.later hbl)
              have HHl := Lib.hid (HH.out.later hbl HH.out.lt)
              clear HH hbl
              have HH := HHl
              have phl := HHl.out.cell
              have zhl := HHl.out.lt
              cases le
              · have HE : Hid (ST (k + 1) = (false, L ++ [d], U ++ [(.slice A3 d.subs.length cap3)])) := by unfold Hid; rw [HNx.out, HCD.out, decide_eq_false (show ¬ d.a < d.a by omega), hdn]; rfl
                have hoN := Lib.hid (HIl.out.later (Below.new _ (.cells #[.int .i64 d.a, .int .i64 d.b, .string d.name, .slice A3 d.subs.length cap3] 37)))
                go_wp2_with (at_builtin; refine wpList_append_own_at _ rfl (.tmp 74) (.tmp 76) 24 rfl w.heap.size 37 i0 _ 4 56 Tryz.underlying24 hi hz0 hz1 hz2 rfl (by decide) _ _ _ rfl hoN.out.row ⟨_, 0, none⟩ 1 1 (#[.int .i64 d.a, .int .i64 d.b, .string d.name, .slice A3 d.subs.length cap3] : Array Value).toList rfl rfl (by exact cells_at _ #[.int .i64 d.a, .int .i64 d.b, .string d.name, .slice A3 d.subs.length cap3] _ _ (by simp)) (by simp [Value.oneCell']) (by have := HLl.out; unfold maxLen; simp; omega) (by have := HLl.out; simp; omega) (by exact hoN.out.below.size) ?_)
                intro hov how ho1 ho2 _ ho3
                have hoI := Lib.hid (hoN.out.snoc (d := d) (u := (.slice A3 d.subs.length cap3)) (by first | exact ho1 | (rw [List.length_append]; exact ho1)) ho2 (by simpa using ho3))
                have hoG := Lib.hid ho2
                clear ho1 ho2 ho3
                go_wp2_with fail
                first
                  | (go_roundw
                     case rel => exact ⟨k + 1, false, _, _, by omega, by go_num, rfl, HE.out, hoI.out⟩
                     case measure => simp [intOf]; omega)
                  | (refine ⟨?_, ?measure⟩
                     (repeat apply Exists.intro)
                     refine ⟨?rel, rfl⟩
                     case rel => exact ⟨k + 1, false, _, _, by omega, by go_num, rfl, HE.out, hoI.out⟩
                     case measure => simp [intOf]; omega)
              · have HE : Hid (ST (k + 1) = (true, (L ++ [⟨d.a, 1, nm, ss⟩]) ++ [d], (U ++ [.slice AV ss.length capV]) ++ [(.slice A3 d.subs.length cap3)])) := by unfold Hid; rw [HNx.out, HCD.out, decide_eq_false (show ¬ d.a < d.a by omega), hdn]; rfl
                have pn := HIl.out.bn.cell
                have zn := HIl.out.bn.lt
                have pm := HI.out.bn.cell
                have zm := HI.out.bn.lt
                have hnN := Lib.hid (HIl.out.later (Below.new _ (.cells #[.int .i64 d.a, .int .i64 1, .string nm, .slice AV ss.length capV] 37)))
                go_wp2_with (at_builtin; refine wpList_append_own_at _ rfl (.tmp 70) (.tmp 72) 24 rfl w.heap.size 37 i0 _ 4 56 Tryz.underlying24 hi hz0 hz1 hz2 rfl (by decide) _ _ _ rfl hnN.out.row ⟨_, 0, none⟩ 1 1 (#[.int .i64 d.a, .int .i64 1, .string nm, .slice AV ss.length capV] : Array Value).toList rfl rfl (by exact cells_at _ #[.int .i64 d.a, .int .i64 1, .string nm, .slice AV ss.length capV] _ _ (by simp)) (by simp [Value.oneCell']) (by have := HLl.out; unfold maxLen; simp; omega) (by have := HLl.out; simp; omega) (by exact hnN.out.below.size) ?_)
                intro hnv hnw hn1 hn2 _ hn3
                have hnI := Lib.hid (hnN.out.snoc (d := ⟨d.a, 1, nm, ss⟩) (u := (.slice AV ss.length capV)) (by first | exact hn1 | (rw [List.length_append]; exact hn1)) hn2 (by simpa using hn3))
                have hnG := Lib.hid hn2
                clear hn1 hn2 hn3
                have HH2 := Lib.hid ((HH.out.alloc (.cells #[.int .i64 d.a, .int .i64 1, .string nm, .slice AV ss.length capV] 37)).grown hnG.out (fun e => by have := (HI.out.row.lt wr.heap.size e.symm).2; omega))
                clear pn zn pm zm
                have ph := HH2.out.cell
                have zh := HH2.out.lt
                have hoN := Lib.hid (hnI.out.later (Below.new _ (.cells #[.int .i64 d.a, .int .i64 d.b, .string d.name, .slice A3 d.subs.length cap3] 37)))
                go_wp2_with (at_builtin; refine wpList_append_own_at _ rfl (.tmp 74) (.tmp 76) 24 rfl w.heap.size 37 i0 _ 4 56 Tryz.underlying24 hi hz0 hz1 hz2 rfl (by decide) _ _ _ rfl hoN.out.row ⟨_, 0, none⟩ 1 1 (#[.int .i64 d.a, .int .i64 d.b, .string d.name, .slice A3 d.subs.length cap3] : Array Value).toList rfl rfl (by exact cells_at _ #[.int .i64 d.a, .int .i64 d.b, .string d.name, .slice A3 d.subs.length cap3] _ _ (by simp)) (by simp [Value.oneCell']) (by have := HLl.out; unfold maxLen; simp; omega) (by have := HLl.out; simp; omega) (by exact hoN.out.below.size) ?_)
                intro hov how ho1 ho2 _ ho3
                have hoI := Lib.hid (hoN.out.snoc (d := d) (u := (.slice A3 d.subs.length cap3)) (by first | exact ho1 | (rw [List.length_append]; exact ho1)) ho2 (by simpa using ho3))
                have hoG := Lib.hid ho2
                clear ho1 ho2 ho3
                go_wp2_with fail
                first
                  | (go_roundw
                     case rel => exact ⟨k + 1, true, _, _, by omega, by go_num, rfl, HE.out, hoI.out⟩
                     case measure => simp [intOf]; omega)
                  | (refine ⟨?_, ?measure⟩
                     (repeat apply Exists.intro)
                     refine ⟨?rel, rfl⟩
                     case rel => exact ⟨k + 1, true, _, _, by omega, by go_num, rfl, HE.out, hoI.out⟩
                     case measure => simp [intOf]; omega)
            · have hneq : (d.a == job) = false := by rw [beq_eq_false_iff_ne]; exact heq
              have HE : Hid (ST (k + 1) = (false, L ++ [d], U ++ [(.slice A3 d.subs.length cap3)])) := by unfold Hid; rw [HNx.out, HCD.out, decide_eq_false hgt, decide_eq_false heq, hdn]; rfl
              have hoN := Lib.hid (HIV.out.later (Below.new _ (.cells #[.int .i64 d.a, .int .i64 d.b, .string d.name, .slice A3 d.subs.length cap3] 37)))
              go_wp2_with (at_builtin; refine wpList_append_own_at _ rfl (.tmp 74) (.tmp 76) 24 rfl w.heap.size 37 i0 _ 4 56 Tryz.underlying24 hi hz0 hz1 hz2 rfl (by decide) _ _ _ rfl hoN.out.row ⟨_, 0, none⟩ 1 1 (#[.int .i64 d.a, .int .i64 d.b, .string d.name, .slice A3 d.subs.length cap3] : Array Value).toList rfl rfl (by exact cells_at _ #[.int .i64 d.a, .int .i64 d.b, .string d.name, .slice A3 d.subs.length cap3] _ _ (by simp)) (by simp [Value.oneCell']) (by have := HLl.out; unfold maxLen; simp; omega) (by have := HLl.out; simp; omega) (by exact hoN.out.below.size) ?_)
              intro hov how ho1 ho2 _ ho3
              have hoI := Lib.hid (hoN.out.snoc (d := d) (u := (.slice A3 d.subs.length cap3)) (by first | exact ho1 | (rw [List.length_append]; exact ho1)) ho2 (by simpa using ho3))
              have hoG := Lib.hid ho2
              clear ho1 ho2 ho3
              go_wp2_with fail
              first
                | (go_roundw
                   case rel => exact ⟨k + 1, false, _, _, by omega, by go_num, rfl, HE.out, hoI.out⟩
                   case measure => simp [intOf]; omega)
                | (refine ⟨?_, ?measure⟩
                   (repeat apply Exists.intro)
                   refine ⟨?rel, rfl⟩
                   case rel => exact ⟨k + 1, false, _, _, by omega, by go_num, rfl, HE.out, hoI.out⟩
                   case measure => simp [intOf]; omega)
        · have HE : Hid (ST (k + 1) = (true, L ++ [d], U ++ [(.slice A3 d.subs.length cap3)])) := by unfold Hid; rw [HNx.out, hdn]; rfl
          have hoN := Lib.hid (HIV.out.later (Below.new _ (.cells #[.int .i64 d.a, .int .i64 d.b, .string d.name, .slice A3 d.subs.length cap3] 37)))
          go_wp2_with (at_builtin; refine wpList_append_own_at _ rfl (.tmp 74) (.tmp 76) 24 rfl w.heap.size 37 i0 _ 4 56 Tryz.underlying24 hi hz0 hz1 hz2 rfl (by decide) _ _ _ rfl hoN.out.row ⟨_, 0, none⟩ 1 1 (#[.int .i64 d.a, .int .i64 d.b, .string d.name, .slice A3 d.subs.length cap3] : Array Value).toList rfl rfl (by exact cells_at _ #[.int .i64 d.a, .int .i64 d.b, .string d.name, .slice A3 d.subs.length cap3] _ _ (by simp)) (by simp [Value.oneCell']) (by have := HLl.out; unfold maxLen; simp; omega) (by have := HLl.out; simp; omega) (by exact hoN.out.below.size) ?_)
          intro hov how ho1 ho2 _ ho3
          have hoI := Lib.hid (hoN.out.snoc (d := d) (u := (.slice A3 d.subs.length cap3)) (by first | exact ho1 | (rw [List.length_append]; exact ho1)) ho2 (by simpa using ho3))
          have hoG := Lib.hid ho2
          clear ho1 ho2 ho3
          go_wp2_with fail
          first
            | (go_roundw
               case rel => exact ⟨k + 1, true, _, _, by omega, by go_num, rfl, HE.out, hoI.out⟩
               case measure => simp [intOf]; omega)
            | (refine ⟨?_, ?measure⟩
               (repeat apply Exists.intro)
               refine ⟨?rel, rfl⟩
               case rel => exact ⟨k + 1, true, _, _, by omega, by go_num, rfl, HE.out, hoI.out⟩
               case measure => simp [intOf]; omega)
    · obtain rfl : k = n := by omega
      have hLl : L.length ≤ 2 * k := by have hx := HLE.out k; rw [HSt.out] at hx; exact hx
      have HLl := Lib.hid hLl
      clear hLl
      cases b
      · have HE : Hid (holdEnd ⟨job, 1, nm, ss⟩ (.slice AV ss.length capV) (ST k) = (L ++ [⟨job, 1, nm, ss⟩], U ++ [.slice AV ss.length capV])) := by unfold Hid; rw [HSt.out]; rfl
        have pn := HI.out.bn.cell
        have zn := HI.out.bn.lt
        clear p1 z1
        have p1 := HI.out.bx.cell
        have z1 := HI.out.bx.lt
        have hnN := Lib.hid (HI.out.later (Below.new _ (.cells #[.int .i64 job, .int .i64 1, .string nm, .slice AV ss.length capV] 37)))
        go_wp2_with (at_builtin; refine wpList_append_own_at _ rfl (.tmp 80) (.tmp 82) 24 rfl w.heap.size 37 i0 _ 4 56 Tryz.underlying24 hi hz0 hz1 hz2 rfl (by decide) _ _ _ rfl hnN.out.row ⟨_, 0, none⟩ 1 1 (#[.int .i64 job, .int .i64 1, .string nm, .slice AV ss.length capV] : Array Value).toList rfl rfl (by exact cells_at _ #[.int .i64 job, .int .i64 1, .string nm, .slice AV ss.length capV] _ _ (by simp)) (by simp [Value.oneCell']) (by have := HLl.out; unfold maxLen; simp; omega) (by have := HLl.out; simp; omega) (by exact hnN.out.below.size) ?_)
        intro hnv hnw hn1 hn2 _ hn3
        have hnI := Lib.hid (hnN.out.snoc (d := ⟨job, 1, nm, ss⟩) (u := (.slice AV ss.length capV)) (by first | exact hn1 | (rw [List.length_append]; exact hn1)) hn2 (by simpa using hn3))
        have hnG := Lib.hid hn2
        clear hn1 hn2 hn3
        have hov := own_slice hnI.out.row
        obtain ⟨A7, cap7, e7, _⟩ := hov
        subst e7
        have px := hnI.out.bx.cell
        have fx := hnI.out.bx.frozen
        have zx := hnI.out.bx.lt
        have pr := hnI.out.br.cell
        have fr := hnI.out.br.frozen
        have zr := hnI.out.br.lt
        go_wp2_with fail
        have G1 := grown_set hnw w.heap.size 0 (.slice A7 (L.length + 1) cap7)
        have G2 := grown_set (hnw.setCell ⟨w.heap.size, 0, none⟩ (.slice A7 (L.length + 1) cap7)) (w.heap.size + 1) 0 (.slice A7 (L.length + 1) cap7)
        have G3 := grown_set ((hnw.setCell ⟨w.heap.size, 0, none⟩ (.slice A7 (L.length + 1) cap7)).setCell ⟨w.heap.size + 1, 0, none⟩ (.slice A7 (L.length + 1) cap7)) (w.heap.size + 1) 1 (.slice A' n' c')
        have B1 := hnI.out.br.far (p := ⟨w.heap.size, 0, none⟩) (by simp) (.slice A7 (L.length + 1) cap7)
        have B2 := B1.set_ 0 (.slice A7 (L.length + 1) cap7)
        have R1 := hnI.out.row.kept G1 (.inr (own_blk_ne hnI.out.row hnI.out.bx (by decide)))
        have R2 := R1.kept G2 (.inr (own_blk_ne R1 B1 (by decide)))
        have R3 := R2.kept G3 (.inr (own_blk_ne R2 B2 (by decide)))
        have S1 := World.ownsRow.kept hnI.out.sub G1 (.inr (own_blk_ne hnI.out.sub hnI.out.bx (by decide)))
        have S2 := World.ownsRow.kept S1 G2 (.inr (own_blk_ne S1 B1 (by decide)))
        have S3 := World.ownsRow.kept S2 G3 (.inr (own_blk_ne S2 B2 (by decide)))
        have HBr := (((hnI.out.below.setCell (p := ⟨w.heap.size, 0, none⟩) (by simp) (.slice A7 (L.length + 1) cap7)).setCell (p := ⟨w.heap.size + 1, 0, none⟩) (by simp) (.slice A7 (L.length + 1) cap7)).setCell (p := ⟨w.heap.size + 1, 1, none⟩) (by simp) (.slice A' n' c'))
        refine bodyPost_ret (v := .agg #[(.slice A7 (L.length + 1) cap7), .slice A' n' c']) (by simp [results, Tryz.results59, go_sem, pr]) rfl ?_
        refine ⟨_, .slice AV ss.length capV, rfl, S3, ?_, ?_, HBr⟩
        · dsimp only; rw [HSTe.out, HE.out]; exact hnI.out.len
        · dsimp only; rw [HSTe.out, HE.out]; dsimp only; have hR := R3; rw [show (L ++ [(⟨job, 1, nm, ss⟩ : ItD)]).length = L.length + 1 from by simp] at hR ⊢; exact hR
      · have HE : Hid (holdEnd ⟨job, 1, nm, ss⟩ (.slice AV ss.length capV) (ST k) = (L, U)) := by unfold Hid; rw [HSt.out]; rfl
        clear p1 z1
        have hov := own_slice HI.out.row
        obtain ⟨A7, cap7, e7, _⟩ := hov
        subst e7
        have px := HI.out.bx.cell
        have fx := HI.out.bx.frozen
        have zx := HI.out.bx.lt
        have pr := HI.out.br.cell
        have fr := HI.out.br.frozen
        have zr := HI.out.br.lt
        go_wp2_with fail
        have G1 := grown_set wr w.heap.size 0 (.slice A7 L.length cap7)
        have G2 := grown_set (wr.setCell ⟨w.heap.size, 0, none⟩ (.slice A7 L.length cap7)) (w.heap.size + 1) 0 (.slice A7 L.length cap7)
        have G3 := grown_set ((wr.setCell ⟨w.heap.size, 0, none⟩ (.slice A7 L.length cap7)).setCell ⟨w.heap.size + 1, 0, none⟩ (.slice A7 L.length cap7)) (w.heap.size + 1) 1 (.slice A' n' c')
        have B1 := HI.out.br.far (p := ⟨w.heap.size, 0, none⟩) (by simp) (.slice A7 L.length cap7)
        have B2 := B1.set_ 0 (.slice A7 L.length cap7)
        have R1 := HI.out.row.kept G1 (.inr (own_blk_ne HI.out.row HI.out.bx (by decide)))
        have R2 := R1.kept G2 (.inr (own_blk_ne R1 B1 (by decide)))
        have R3 := R2.kept G3 (.inr (own_blk_ne R2 B2 (by decide)))
        have S1 := World.ownsRow.kept HI.out.sub G1 (.inr (own_blk_ne HI.out.sub HI.out.bx (by decide)))
        have S2 := World.ownsRow.kept S1 G2 (.inr (own_blk_ne S1 B1 (by decide)))
        have S3 := World.ownsRow.kept S2 G3 (.inr (own_blk_ne S2 B2 (by decide)))
        have HBr := (((HI.out.below.setCell (p := ⟨w.heap.size, 0, none⟩) (by simp) (.slice A7 L.length cap7)).setCell (p := ⟨w.heap.size + 1, 0, none⟩) (by simp) (.slice A7 L.length cap7)).setCell (p := ⟨w.heap.size + 1, 1, none⟩) (by simp) (.slice A' n' c'))
        refine bodyPost_ret (v := .agg #[(.slice A7 L.length cap7), .slice A' n' c']) (by simp [results, Tryz.results59, go_sem, pr]) rfl ?_
        refine ⟨_, .slice AV ss.length capV, rfl, S3, ?_, ?_, HBr⟩
        · dsimp only; rw [HSTe.out, HE.out]; exact HI.out.len
        · dsimp only; rw [HSTe.out, HE.out]; exact R3
end Go.Proofs.YtiebcdajoddkpaaGreatDoor
