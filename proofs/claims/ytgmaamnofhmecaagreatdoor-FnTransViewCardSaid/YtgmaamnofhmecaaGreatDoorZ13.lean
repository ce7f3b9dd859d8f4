import Derived.Test.YtgmaamnofhmecaaGreatDoorZ12
import Derived.Test.YtgmaamnofhmecaaGreatDoorZ09
import Derived.Test.YtgmaamnofhmecaaGreatDoorZ00
import Derived.Test.YtgmaamnofhmecaaGreatDoorZ07
import Derived.Test.YtgmaamnofhmecaaGreatDoorZ08
import Derived.Deep.AppendLies
import Derived.Lib.Join
import Derived.Lib.SplitLaws
import Derived.Deep.RegionHeld3
import Derived.Deep.RegionLaw
set_option linter.unusedSimpArgs false
namespace Go.Proofs.YtgmaamnofhmecaaGreatDoor
open Go.RowKit
set_option linter.unusedVariables false
def EvR (w : World) (B : Nat) (c0 c1 c2 c3 c4 : Value) (d : EvD) : Prop :=
 c0 = .int .i64 d.kind ∧ c1 = .string d.name ∧ (∃ A n cap, c2 = .slice A n cap ∧ Strs w B A n d.subs ∧ n ≤ cap) ∧ c3 = .string d.val ∧ c4 = .int .i64 d.n
theorem EvR.keep {w w' : World} {B : Nat} {c0 c1 c2 c3 c4 : Value} {d : EvD} (h : EvR w B c0 c1 c2 c3 c4 d) (hk : ∀ p : Addr, p.block < B → w'.cell? p = w.cell? p) : EvR w' B c0 c1 c2 c3 c4 d := by
 obtain ⟨e0, e1, ⟨A1, n1, p1, e2, s1, k1⟩, e3, e4⟩ := h
 exact ⟨e0, e1, ⟨A1, n1, p1, e2, s1.keep hk, k1⟩, e3, e4⟩
theorem EvR.more {w : World} {B B' : Nat} {c0 c1 c2 c3 c4 : Value} {d : EvD} (h : EvR w B c0 c1 c2 c3 c4 d) (hB : B ≤ B') : EvR w B' c0 c1 c2 c3 c4 d := by
 obtain ⟨e0, e1, ⟨A1, n1, p1, e2, s1, k1⟩, e3, e4⟩ := h
 exact ⟨e0, e1, ⟨A1, n1, p1, e2, s1.more hB, k1⟩, e3, e4⟩
theorem EvR.later {w w' : World} {c0 c1 c2 c3 c4 : Value} {d : EvD} (h : EvR w w.heap.size c0 c1 c2 c3 c4 d) (hb : Below w.heap.size w w') : EvR w' w'.heap.size c0 c1 c2 c3 c4 d :=
 (h.keep fun _ hp => hb.cell hp).more hb.size
def Evs (w : World) (B : Nat) (A : Option Addr) (n : Nat) (fs : List EvD) : Prop :=
 fs.length = n ∧ (0 < n → ∃ b o, A = some ⟨b, o, none⟩ ∧ b < B ∧ ∀ j, j < n → ∃ c0 c1 c2 c3 c4, w.cell? ⟨b, o + j * 5, none⟩ = some c0 ∧ w.cell? ⟨b, o + j * 5 + 1, none⟩ = some c1 ∧ w.cell? ⟨b, o + j * 5 + 2, none⟩ = some c2 ∧ w.cell? ⟨b, o + j * 5 + 3, none⟩ = some c3 ∧ w.cell? ⟨b, o + j * 5 + 4, none⟩ = some c4 ∧ EvR w B c0 c1 c2 c3 c4 (fs.getD j default))
section
variable {w w' : World} {B B' n : Nat} {A : Option Addr} {fs : List EvD}
theorem Evs.keep (h : Evs w B A n fs) (hk : ∀ p : Addr, p.block < B → w'.cell? p = w.cell? p) : Evs w' B A n fs :=
 ⟨h.1, fun hn => by
   obtain ⟨b, o, e, hb, hc⟩ := h.2 hn
   refine ⟨b, o, e, hb, fun j hj => ?_⟩
   obtain ⟨c0, c1, c2, c3, c4, h0, h1, h2, h3, h4, hr⟩ := hc j hj
   exact ⟨c0, c1, c2, c3, c4, (hk _ hb).trans h0, (hk _ hb).trans h1, (hk _ hb).trans h2, (hk _ hb).trans h3, (hk _ hb).trans h4, hr.keep hk⟩⟩
theorem Evs.more (h : Evs w B A n fs) (hB : B ≤ B') : Evs w B' A n fs :=
 ⟨h.1, fun hn => by
   obtain ⟨b, o, e, hb, hc⟩ := h.2 hn
   refine ⟨b, o, e, by omega, fun j hj => ?_⟩
   obtain ⟨c0, c1, c2, c3, c4, h0, h1, h2, h3, h4, hr⟩ := hc j hj
   exact ⟨c0, c1, c2, c3, c4, h0, h1, h2, h3, h4, hr.more hB⟩⟩
theorem Evs.later (h : Evs w w.heap.size A n fs) (hb : Below w.heap.size w w') : Evs w' w'.heap.size A n fs := (h.keep fun _ hp => hb.cell hp).more hb.size
end
def EvD.small (d : EvD) : Prop := d.name.size ≤ 1048576 ∧ (d.subs.length ≤ 1048576 ∧ ∀ s ∈ d.subs, s.size ≤ 1048576) ∧ d.val.size ≤ 1048576
def smallEs (l : List EvD) : Prop := l.length ≤ 1048576 ∧ ∀ d ∈ l, d.small
def evK : Own.Kind EvD := ⟨5, fun d v => [.int .i64 d.kind, .string d.name, v, .string d.val, .int .i64 d.n], fun d => d.subs, fun _ _ => rfl, by decide⟩
def EvsO (w : World) (base : Nat) (v : Value) (fs : List EvD) : Prop := ∃ vs, Own.OwnL evK w base 55 v fs vs
theorem infoEvD : (Tryz.prog.info? 55).map (fun i => (i.zero, i.size, i.bytes)) = some (some (.agg #[.int .i64 0, .string .empty, .slice none 0 0, .string .empty, .int .i64 0]), 5, 72) := by kernel_rfl
theorem EvsO.later {w w' : World} {base : Nat} {v : Value} {fs : List EvD} (h : EvsO w base v fs) (hb : Below w.heap.size w w') : EvsO w' base v fs := by
 obtain ⟨vs, h1⟩ := h
 exact ⟨vs, h1.later hb⟩
theorem EvsO.base {w : World} {base base' : Nat} {v : Value} {fs : List EvD} (h : EvsO w base' v fs) (hb : base ≤ base') : EvsO w base v fs := by
 obtain ⟨vs, h1⟩ := h
 exact ⟨vs, h1.base hb⟩
theorem EvsO.reads {w : World} {base : Nat} {v : Value} {fs : List EvD} (h : EvsO w base v fs) : ∃ A cap, v = .slice A fs.length cap ∧ fs.length ≤ cap ∧ Evs w w.heap.size A fs.length fs := by
 obtain ⟨vs, h⟩ := h
 obtain ⟨A, cap, rfl, hc, _, hA⟩ := Own.own_slice h.row
 refine ⟨A, cap, rfl, hc, rfl, fun hn => ?_⟩
 obtain ⟨g, rfl, hg, _⟩ := hA hn
 refine ⟨g, 0, rfl, hg, fun j hj => ?_⟩
 have h0 := h.cellAt rfl j 0 hj (by decide)
 have h1 := h.cellAt rfl j 1 hj (by decide)
 have h2 := h.cellAt rfl j 2 hj (by decide)
 have h3 := h.cellAt rfl j 3 hj (by decide)
 have h4 := h.cellAt rfl j 4 hj (by decide)
 obtain ⟨A1, cap1, e1, hc1, hs1⟩ := (h.subs j hj).strs
 refine ⟨_, _, _, _, _, by rw [Nat.zero_add]; exact h0, by rw [Nat.zero_add]; exact h1, by rw [Nat.zero_add]; exact h2, by rw [Nat.zero_add]; exact h3, by rw [Nat.zero_add]; exact h4, rfl, rfl, ⟨A1, _, cap1, e1, hs1, hc1⟩, rfl, rfl⟩
theorem evsO_nil (w : World) (base : Nat) : EvsO w base (.slice none 0 0) [] := ⟨[], Own.OwnL.nil _ _ _⟩
def EvPost (d : EvD) (w : World) (e : Ending) (w' : World) : Prop := ∃ v, e = .returned (.agg #[.int .i64 d.kind, .string d.name, v, .string d.val, .int .i64 d.n]) ∧ Own.SubO w' w.heap.size v d.subs ∧ Below w.heap.size w w'
end Go.Proofs.YtgmaamnofhmecaaGreatDoor
namespace Go.Proofs.YtgmaamnofhmecaaGreatDoor
open Go.RowKit
theorem any_not_all {α : Type} (p : α → Bool) (l : List α) : (!(l.any fun c => !p c)) = l.all p := by
 induction l with
 | nil => rfl
 | cons a r ih => rw [List.any_cons, List.all_cons, ← ih]; cases p a <;> simp
end Go.Proofs.YtgmaamnofhmecaaGreatDoor
namespace Go.Proofs.YtgmaamnofhmecaaGreatDoor
open Go.RowKit
theorem CloneS_any (A : Option Addr) (n c : Nat) (ss : List ByteArray) (w : World) (h : Strs w w.heap.size A n ss) (hn : n ≤ 1048576) :
 Calls Tryz.prog 169 #[.slice A n c] w fun e w' => ∃ v, e = .returned v ∧ Own.SubO w' w.heap.size v ss ∧ Below w.heap.size w w' := by
 rcases Nat.eq_zero_or_pos n with h0 | h0
 · subst h0
   obtain rfl : ss = [] := List.eq_nil_of_length_eq_zero h.1
   cases A with
   | none => exact (Tryz.slices_Clone_string_nil 0 c w).mono fun e w' ⟨he, hw⟩ => ⟨_, he, by subst hw; exact Own.sub_nil _ _, by subst hw; exact Below.refl _ _⟩
   | some a => exact (Tryz.slices_Clone_string_zero a c w).mono fun e w' ⟨v, he, ho, _, hb⟩ => ⟨v, he, ho, hb⟩
 · obtain ⟨b, o, rfl, hb, hc⟩ := h.2 h0
   have hl := h.1
   refine (Tryz.slices_Clone_string b o n c ss w (by omega) (by omega) (fun j hj => hc j (by omega))).mono fun e w' ⟨v, he, ho, _, hb⟩ => ⟨v, he, ?_, hb⟩
   rw [List.take_of_length_le (by omega), ← hl] at ho
   exact ho
end Go.Proofs.YtgmaamnofhmecaaGreatDoor
namespace Go.Proofs.YtgmaamnofhmecaaGreatDoor
open Go.RowKit
theorem oneCells_strs (ss : List ByteArray) : ∀ u ∈ ss.map Value.string, u.oneCell' = true := by
 intro u hu
 obtain ⟨s, _, rfl⟩ := List.mem_map.1 hu
 rfl
end Go.Proofs.YtgmaamnofhmecaaGreatDoor
namespace Go.Proofs.YtgmaamnofhmecaaGreatDoor
open Go.RowKit Go.Proofs.YtgmaamnofhmecaaGreatDoor.Own
theorem Blk.at {w : World} {g : Nat} {t : TypeId} {cs : Array Value} (h : Blk w g t cs) (i : Nat) {v : Value} (hv : cs[i]? = some v) : w.cell? ⟨g, i, none⟩ = some v := (h.cell i).trans hv
end Go.Proofs.YtgmaamnofhmecaaGreatDoor
namespace Go.Proofs.YtgmaamnofhmecaaGreatDoor
open Go.RowKit
set_option linter.unusedVariables false
set_option maxHeartbeats 400000 in
theorem l02Same_any (A A' : Option Addr) (n c n' c' : Nat) (ss ts : List ByteArray) (w : World) (h : Strs w w.heap.size A n ss) (h' : Strs w w.heap.size A' n' ts) (hn : n ≤ 1048576) (hn' : n' ≤ 1048576) :
 Calls Tryz.prog 139 #[.slice A n c, .slice A' n' c'] w fun e w' => e = .returned (.bool (eqS ss ts)) ∧ ∃ q, w' = w.drewN q := by
 obtain ⟨hlen, hc⟩ := h
 obtain ⟨hlen', hc'⟩ := h'
 have hE := eqS_starts ss ts
 rw [hlen, hlen'] at hE
 have Hc := Lib.hid hc
 have Hlen := Lib.hid hlen
 have Hc' := Lib.hid hc'
 have Hlen' := Lib.hid hlen'
 clear hc hlen hc' hlen'
 by_cases hne : n = n'
 · subst hne
   have HE : Hid (eqS ss ts = startsB ss ts) := by unfold Hid; rw [← hE]; simp
   clear hE
   generalize eqS ss ts = R at *
   go_enter Tryz.func139, Tryz.ntmps139
   go_wp2_with fail
   go_loopw [5] (fun i wr => ∃ (k : Nat), k ≤ n ∧ i = .int .i64 k ∧ (∃ q, wr = w.drewN q) ∧ Hid (startsB ss ts = startsB (ss.drop k) (ts.drop k))) (fun i _ => n - (intOf i).toNat)
   case atStart => exact ⟨0, Nat.zero_le _, rfl, ⟨0, rfl⟩, rfl⟩
   case round =>
    obtain ⟨k, hk, rfl, ⟨q, rfl⟩, hS⟩ := hrel
    by_cases hlt : k < n
    · obtain ⟨b, o, rfl, hb, hcell⟩ := Hc.out (by omega)
      obtain ⟨b', o', rfl, hb', hcell'⟩ := Hc'.out (by omega)
      have hck := hcell k hlt
      have hck' := hcell' k (by omega)
      clear hcell hcell'
      have HS := Lib.hid (startsB_step ss ts k (by rw [Hlen.out]; exact hlt) (by rw [Hlen'.out]; omega))
      generalize ss.getD k ByteArray.empty = s at *
      generalize ts.getD k ByteArray.empty = t at *
      go_wp2_with fail
      go_quiet (fail)
      go_wp2_with fail
      · go_ret
        have hst : s ≠ t := str_ne (by assumption)
        exact ⟨ret_bool (by rw [HE.out, hS.out, HS.out, decide_eq_false hst]; rfl), _, World.drewN_drewN _ _ _⟩
      · go_roundw
        case rel =>
         have hst : s = t := str_eq (by assumption)
         exact ⟨k + 1, by omega, by go_num, ⟨_, rfl⟩, by unfold Hid; rw [hS.out, HS.out, decide_eq_true hst]; rfl⟩
        case measure => simp [intOf]; omega
    · go_wp2_with fail
      go_ret
      exact ⟨ret_bool (by rw [HE.out, hS.out, List.drop_of_length_le (by rw [Hlen.out]; omega), startsB_nil]), _, rfl⟩
 · have HE : Hid (false = eqS ss ts) := by unfold Hid; rw [← hE]; simp [hne]
   have hb : ((n : Int) == (n' : Int)) = false := by rw [beq_eq_false_iff_ne]; omega
   have hb2 : (n == n') = false := by rw [beq_eq_false_iff_ne]; omega
   clear hE hne
   go_enter Tryz.func139, Tryz.ntmps139
   go_wp2_with fail
   go_ret
   exact ⟨ret_bool HE.out, 0, rfl⟩
set_option maxHeartbeats 400000 in
theorem SameSubs_any (A A' : Option Addr) (n c n' c' : Nat) (ss ts : List ByteArray) (w : World) (h : Strs w w.heap.size A n ss) (h' : Strs w w.heap.size A' n' ts) (hn : n ≤ 1048576) (hn' : n' ≤ 1048576) :
 Calls Tryz.prog 62 #[.slice A n c, .slice A' n' c'] w fun e w' => e = .returned (.bool (eqS ss ts)) ∧ ∃ q, w' = w.drewN q := by
 have HK := Lib.hid (l02Same_any A A' n c n' c' ss ts w h h' hn hn')
 clear h h'
 generalize eqS ss ts = x at *
 go_enter Tryz.func62, Tryz.ntmps62
 go_wp2_with fail
 refine HK.out.mono ?_
 rintro e w1 ⟨rfl, q, rfl⟩
 go_wp2_with fail
 go_ret
 exact ⟨rfl, q, rfl⟩
set_option maxRecDepth 100000 in
set_option maxHeartbeats 1000000 in
theorem l03Subs_any (A : Option Addr) (n c : Nat) (ss : List ByteArray) (w : World) (h : Strs w w.heap.size A n ss) (hn : n ≤ 1048576) :
 Calls Tryz.prog 140 #[.slice A n c] w fun e w' => ∃ A' c', e = .returned (.slice A' n c') ∧ n ≤ c' ∧ Own.SubO w' w.heap.size (.slice A' n c') ss ∧ Below w.heap.size w w' := by
 have HN := Lib.hid h.1
 obtain ⟨i0, hi, hz0, hz1, hz2⟩ := info_parts infoS
 have Hh := Lib.hid (strs_reads h)
 clear h
 go_enter Tryz.func140, Tryz.ntmps140
 go_wp2_with (at_builtin; refine wpList_append_any _ rfl (.tmp 3) (.tmp 4) 27 rfl w.heap.size 9 i0 _ 1 16 Tryz.underlying27 hi hz0 hz1 hz2 rfl (by decide) _ 0 [] rfl (World.ownsRow_lit _ _ 0 (Nat.le_refl _) (by omega) rfl) w.heap.size A n c (ss.map Value.string) rfl (Hh.out.alloc (Nat.le_refl _) _) (oneCells_strs ss) ?c1 ?c2 ?c3 ?_)
 case c1 => unfold maxLen; omega
 case c2 => omega
 case c3 => simp
 intro v w1 ho hg _
 have HB := Lib.hid (below_own (w0 := w) (size := 1) (n := 0) (xs := []) (Below.new _ _) (World.ownsRow_lit _ _ 0 (Nat.le_refl _) (by omega) rfl) (Nat.le_refl _) hg)
 obtain ⟨A', c', rfl, hc, _, _⟩ := Own.own_slice ho
 have HS := Lib.hid ho
 clear ho hg
 go_wp2_with fail
 go_ret
 exact ⟨A', c', rfl, hc, by unfold Own.SubO; rw [HN.out]; exact HS.out, HB.out⟩
set_option maxHeartbeats 400000 in
theorem l03Begins_any (A A' : Option Addr) (n c n' c' : Nat) (ss ts : List ByteArray) (w : World) (h : Strs w w.heap.size A n ss) (h' : Strs w w.heap.size A' n' ts) (hn' : n' ≤ 1048576) (hc : n ≤ c) :
 Calls Tryz.prog 231 #[.slice A n c, .slice A' n' c'] w fun e w' => e = .returned (.bool (startsB ts ss)) ∧ ∃ q, w' = w.drewN q := by
 have hE := startsB_take ts ss
 rw [h.1, h'.1] at hE
 by_cases hle : n' ≤ n
 · have HK := Lib.hid (SameSubs_any A A' n' c n' c' (ss.take n') ts w (h.take n' hle) h' (by omega) hn')
   have HE : Hid (eqS (ss.take n') ts = startsB ts ss) := by unfold Hid; rw [← hE]; simp [hle]
   clear h h' hE
   generalize eqS (ss.take n') ts = x at *
   go_enter Tryz.func231, Tryz.ntmps231
   go_wp2_with fail
   refine HK.out.mono ?_
   rintro e w1 ⟨rfl, q, rfl⟩
   go_wp2_with fail
   go_ret
   exact ⟨ret_bool HE.out, q, rfl⟩
 · have HE : Hid (false = startsB ts ss) := by unfold Hid; rw [← hE]; simp [hle]
   clear h h' hE
   go_enter Tryz.func231, Tryz.ntmps231
   go_wp2_with fail
   go_ret
   exact ⟨ret_bool HE.out, 0, rfl⟩
set_option maxHeartbeats 400000 in
theorem l03In_any (c0 c1 c2 : Value) (A : Option Addr) (n c : Nat) (d : NodeD) (nm : ByteArray) (ss : List ByteArray) (w : World) (h : NodeR w w.heap.size c0 c1 c2 d) (h' : Strs w w.heap.size A n ss) (hn : n ≤ 1048576) :
 Calls Tryz.prog 180 #[.agg #[c0, c1, c2], .string nm, .slice A n c] w fun e w' => e = .returned (.bool (inN nm ss d)) ∧ Below w.heap.size w w' := by
 obtain ⟨rfl, ⟨A1, n1, p1, rfl, s1, k1⟩, rfl⟩ := h
 have HR : Hid (inN nm ss d = (decide (d.name = nm) && startsB ss d.subs)) := rfl
 have HK := Lib.hid (l03Begins_any A1 A n1 p1 n c d.subs ss (w.alloc (.cells #[.string d.name, .slice A1 n1 p1, .string d.val] 102)) (s1.later (Below.new _ _)) (h'.later (Below.new _ _)) hn k1)
 clear s1 h'
 generalize inN nm ss d = R at *
 generalize startsB ss d.subs = x at *
 generalize d.name = dn at *
 generalize d.val = dv at *
 by_cases he : dn = nm
 · subst he
   have HE : Hid (R = x) := by unfold Hid; rw [HR.out]; simp
   clear HR
   go_enter Tryz.func180, Tryz.ntmps180
   go_wp2_with fail
   refine HK.out.mono ?_
   rintro e w1 ⟨rfl, q, rfl⟩
   go_wp2_with fail
   go_ret
   exact ⟨ret_bool HE.out.symm, below_drewN (Below.new _ _) q⟩
 · have HE : Hid (R = false) := by unfold Hid; rw [HR.out]; simp [he]
   have hb := str_beq he
   clear HR HK he
   go_enter Tryz.func180, Tryz.ntmps180
   go_wp2_with fail
   go_ret
   exact ⟨ret_bool HE.out.symm, Below.new _ _⟩
end Go.Proofs.YtgmaamnofhmecaaGreatDoor
namespace Go.Proofs.YtgmaamnofhmecaaGreatDoor
open Go.RowKit
set_option linter.unusedVariables false
set_option maxRecDepth 100000 in
set_option maxHeartbeats 4000000 in
theorem l03Own_any (A : Option Addr) (n c : Nat) (fs : List NodeD) (w : World) (h : Nodes w w.heap.size A n fs) (hs : smallNs fs) :
 Calls Tryz.prog 65 #[.slice A n c] w (NodesOnly fs w) := by
 obtain ⟨i0, hi, hz0, hz1, hz2⟩ := info_parts infoNodeD
 have Hh := Lib.hid h
 have Hlen := Lib.hid h.1
 have Hsm := Lib.hid hs.2
 have hn : n ≤ 1048576 := by rw [← h.1]; exact hs.1
 clear h hs
 go_enter Tryz.func65, Tryz.ntmps65
 go_wp2_with fail
 go_loopw [3, 4] (fun v i wr => ∃ (k : Nat), k ≤ n ∧ i = .int .i64 k ∧ NodesO wr w.heap.size v (fs.take k) ∧ Below w.heap.size w wr) (fun _ i _ => n - (intOf i).toNat)
 case atStart => exact ⟨0, Nat.zero_le _, rfl, nodesO_lit w _ (Nat.le_refl _), Below.new _ _⟩
 case round =>
  obtain ⟨k, hk, rfl, ⟨vs, hown⟩, hb⟩ := hrel
  have HB := Lib.hid hb
  obtain ⟨g, cap, rfl, _, _, _⟩ := Own.own_slice hown.row
  have HO := Lib.hid hown
  clear hb hown
  by_cases hlt : k < n
  · have hl : k < fs.length := by rw [Hlen.out]; exact hlt
    obtain ⟨bb, o, rfl, hbB, hcn⟩ := (Hh.out.later HB.out).2 (by omega)
    obtain ⟨c0, c1, c2, k0, k1, k2, hr⟩ := hcn k hlt
    clear hcn
    have hsd := Hsm.out _ (getD_memD fs k hl)
    have HT : Hid (fs.take (k + 1) = fs.take k ++ [fs.getD k default]) := by
     unfold Hid
     rw [List.take_succ_eq_append_getElem hl, List.getD_eq_getElem?_getD, List.getElem?_eq_getElem hl, Option.getD_some]
    have htl : (fs.take k).length = k := by rw [List.length_take]; omega
    rw [htl]
    have hrw := HO.out.row
    rw [htl] at hrw
    have HRW := Lib.hid hrw
    have HTL := Lib.hid htl
    clear htl hrw
    generalize fs.getD k default = d at *
    obtain ⟨rfl, ⟨A1, n1, p1, rfl, s1, q1⟩, rfl⟩ := hr
    have hn1 : n1 ≤ 1048576 := by rw [← s1.1]; exact hsd.2.1.1
    have HKS := Lib.hid (fun W (hW : Below wr.heap.size wr W) => l03Subs_any A1 n1 p1 d.subs W (s1.later hW) hn1)
    generalize hdn : d.name = dn at *
    generalize hdv : d.val = dv at *
    have HDN := Lib.hid hdn
    have HDV := Lib.hid hdv
    clear s1 hsd hdn hdv
    go_wp2_with fail
    go_region_law (first
     | (refine step_append_lies _ (by rfl) _ _ _ (by rfl) w.heap.size 102 i0 _ 3 56 Tryz.underlying24 hi hz0 hz1 hz2 rfl (by omega) (.slice g k cap) k (Own.flat nodeK (fs.take k) vs) (by rfl) (by exact HRA.out)
         ⟨w4.heap.size, 0, none⟩ 1 1 [.string dn, .slice A2 n1 c2, .string dv] (by rfl) (by rfl) (by exact cells_newN w4 #[.string dn, .slice A2 n1 c2, .string dv] _) (by simp [Value.oneCell'])
         (by omega) (by unfold maxLen; omega) (by omega) (by simp; omega) (w4.heap.size + 1) (by simp) ?_
        intro gg cap' w5 hown5 hgrow5 hat hlt2
        have HOW := Lib.hid hown5
        have HGR := Lib.hid hgrow5
        clear hown5 hgrow5)
     | (go_simp
        go_at_call 140
        refine (HKS.out _ (by exact (Below.refl _ _).drew)).mono ?_
        rintro e w4 ⟨A2, c2, rfl, hq2, hs2, hb4'⟩
        have hb4 := undrew hb4'
        have HS2 := Lib.hid hs2
        have HB4 := Lib.hid hb4
        have j0 := cell_later hb4 k0
        have j2 := cell_later hb4 k2
        have hsz4 := hb4.size
        have hsz0 := HB.out.size
        have HRA := Lib.hid (Own.own_later (Own.own_later HRW.out hb4) (Below.new w4 (.cells #[.string dn, .slice A2 n1 c2, .string dv] 102)))
        clear hb4 hb4' hs2))
    all_goals
     have HN4 := Lib.hid (HB4.out.later (Below.new w4 (.cells #[.string dn, .slice A2 n1 c2, .string dv] 102)))
     have HN5 : Hid (Below w.heap.size w w5) := ((HB.out.later HN4.out)).grown HGR.out (by simp; omega) (fun g' hg' => (World.ownsRow.lt HRA.out g' hg').1)
     have HO5 : Hid (Own.OwnL nodeK w5 w.heap.size 102 (.slice (some ⟨gg, 0, none⟩) (k + 1) cap') (fs.take (k + 1)) (vs ++ [.slice A2 n1 c2])) := by
      unfold Hid
      rw [HT.out]
      refine Own.OwnL.snoc (HO.out.later HN4.out) (Own.own_later (Own.own_base HS2.out (show w.heap.size ≤ wr.heap.size by omega)) (Below.new _ _)) (HO.out.fresh HS2.out (by simp)) ?_ (by rw [HTL.out]; exact HGR.out) (by decide)
      rw [HTL.out]
      have hx := HOW.out
      rw [← HDN.out, ← HDV.out] at hx
      exact hx
     clear j0 j2 k0 k1 k2
     go_wp2_with fail
     go_roundw
     case rel => exact ⟨k + 1, by omega, by go_num, ⟨_, HO5.out⟩, HN5.out⟩
     case measure => simp [intOf]; omega
  · go_wp2_with fail
    go_ret
    have ht : fs.take k = fs := List.take_of_length_le (by rw [Hlen.out]; omega)
    have hx : Own.OwnL nodeK wr w.heap.size 102 (.slice g (fs.take k).length cap) fs vs := by
     have h2 := HO.out
     generalize (Value.slice g (fs.take k).length cap) = V at h2 ⊢
     rw [ht] at h2
     exact h2
    exact ⟨_, rfl, ⟨vs, hx⟩, HB.out⟩
end Go.Proofs.YtgmaamnofhmecaaGreatDoor
namespace Go.Proofs.YtgmaamnofhmecaaGreatDoor
open Go.RowKit
set_option linter.unusedVariables false
set_option maxRecDepth 100000 in
set_option maxHeartbeats 4000000 in
theorem l03At_any (A : Option Addr) (n c : Nat) (fs : List NodeD) (nm : ByteArray) (S : Option Addr) (m q : Nat) (ss : List ByteArray) (w : World) (h : Nodes w w.heap.size A n fs) (hs : smallNs fs) (h' : Strs w w.heap.size S m ss) (hm : m ≤ 1048576) (hz : ∀ s ∈ ss, s.size ≤ 1048576) :
 Calls Tryz.prog 112 #[.agg #[.slice A n c], .string nm, .slice S m q] w fun e w' => e = .returned (.tuple #[.int .i64 (atN fs nm ss : Nat), .bool (hasN fs nm ss)]) ∧ Below w.heap.size w w' := by
 have Hh := Lib.hid h
 have Hlen := Lib.hid h.1
 have hn : n ≤ 1048576 := by rw [← h.1]; exact hs.1
 have Hs := Lib.hid hs
 have Hst := Lib.hid h'
 have Hz := Lib.hid hz
 have HAT : Hid (∀ k, k ≤ n → (∀ j, j < k → aheadN nm ss (fs.getD j default) = true) → (k = n ∨ aheadN nm ss (fs.getD k default) = false) → atN fs nm ss = k) := fun k h1 h2 h3 => atN_eq (by rw [h.1]; exact h1) h2 (by rw [h.1]; exact h3)
 have HHS : Hid (hasN fs nm ss = (decide (atN fs nm ss < n) && hereN nm ss (fs.getD (atN fs nm ss) default))) := by unfold Hid hasN; rw [h.1]
 clear h hs h' hz
 generalize atN fs nm ss = AT at *
 generalize hasN fs nm ss = HS at *
 go_enter Tryz.func112, Tryz.ntmps112
 go_wp2_with fail
 go_loopw [8] (fun i wr => ∃ (k : Nat), k ≤ n ∧ i = .int .i64 k ∧ Below (w.heap.size + 1) (w.alloc (.cells #[.slice A n c] 26)) wr ∧ Hid (∀ j, j < k → aheadN nm ss (fs.getD j default) = true)) (fun i _ => n - (intOf i).toNat)
 case atStart => exact ⟨0, Nat.zero_le _, rfl, Below.refl _ _, fun j hj => absurd hj (by omega)⟩
 case round =>
  obtain ⟨k, hk, rfl, hb, hA⟩ := hrel
  have p0 := (Blk.later (heap_alloc_new w _) hb (by omega)).cell 0
  have hz0 : w.heap.size < wr.heap.size := by have := hb.size; simp at this; omega
  have HB := Lib.hid hb
  have HBw := Lib.hid ((Below.new _ _).trans (hb.mono (by omega)))
  clear hb
  by_cases hlt : k < n
  · obtain ⟨bb, o, rfl, hbB, hc⟩ := (Hh.out.later HBw.out).2 (by omega)
    obtain ⟨c0, c1, c2, k0, k1, k2, hr⟩ := hc k hlt
    clear hc k2
    have hsm := Hs.out.2 _ (getD_memD fs k (by rw [Hlen.out]; exact hlt))
    have HAK : Hid (aheadN nm ss (fs.getD k default) = aheadB (fs.getD k default).name (fs.getD k default).subs nm ss) := rfl
    have HHR : Hid (hereN nm ss (fs.getD k default) = (decide ((fs.getD k default).name = nm) && eqS (fs.getD k default).subs ss)) := rfl
    generalize hd : fs.getD k default = d at *
    have HD := Lib.hid hd
    obtain ⟨rfl, ⟨A1, n1, q1, rfl, s1, _⟩, rfl⟩ := hr
    have hn1 : n1 ≤ 1048576 := by rw [← s1.1]; exact hsm.2.1.1
    have HKL := Lib.hid (fun W (hW : Below wr.heap.size wr W) => l03Less_any d.name nm A1 S n1 q1 m q d.subs ss W (s1.later hW) (Hst.out.later (HBw.out.later hW)) hn1 hm hsm.2.1.2 Hz.out)
    have HKS := Lib.hid (fun W (hW : Below wr.heap.size wr W) => SameSubs_any A1 S n1 q1 m q d.subs ss W (s1.later hW) (Hst.out.later (HBw.out.later hW)) hn1 hm)
    clear s1 hsm hd
    generalize aheadB d.name d.subs nm ss = y at *
    generalize eqS d.subs ss = z at *
    generalize d.name = dn at *
    go_wp2_with fail
    go_region_held3 (fun w' => w'.cell? ⟨w.heap.size, 0, none⟩ = some (.slice (some ⟨bb, o, none⟩) n c) ∧ w'.cell? ⟨bb, o + k * 3, none⟩ = some (.string dn) ∧ w'.cell? ⟨bb, o + k * 3 + 1, none⟩ = some (.slice A1 n1 q1))
     (first | exact ⟨p0, k0, k1⟩ | exact ⟨cell_later hb1 p0, cell_later hb1 k0, cell_later hb1 k1⟩)
     (first | (go_at_call 110; refine (HKL.out _ (by exact (Below.refl _ _).drew)).mono ?_; rintro e w1 ⟨rfl, hb1'⟩; have hb1 := undrew hb1'; clear hb1'))
    have HB1 := Lib.hid hb1
    have p1 := cell_later hb1 p0
    have l0 := cell_later hb1 k0
    have l1 := cell_later hb1 k1
    clear hb1 p0 k0 k1
    cases y
    · have HE : Hid (AT = k) := HAT.out k (by omega) hA.out (.inr (by rw [HD.out]; exact HAK.out))
      have HE2 : Hid (HS = (decide (dn = nm) && z)) := by unfold Hid; rw [HHS.out, HE.out, HD.out, HHR.out, decide_eq_true hlt]; rfl
      by_cases hnm : dn = nm
      · subst hnm
        go_wp2_with fail
        refine (HKS.out _ (by exact HB1.out)).mono ?_
        rintro e w2 ⟨rfl, q2, rfl⟩
        go_wp2_with fail
        go_ret2
        exact ⟨by rw [HE.out, HE2.out]; simp, below_drewN (HBw.out.later HB1.out) _⟩
      · have hbe := str_beq hnm
        have HE3 : Hid (HS = false) := by unfold Hid; rw [HE2.out]; simp [hnm]
        clear hnm
        go_wp2_with fail
        go_ret2
        exact ⟨by rw [HE.out, HE3.out]; rfl, HBw.out.later HB1.out⟩
    · have HN : Hid (∀ j, j < k + 1 → aheadN nm ss (fs.getD j default) = true) := fun j hj => by
       by_cases e : j = k
       · subst e; rw [HD.out]; exact HAK.out
       · exact hA.out j (by omega)
      go_wp2_with fail
      go_roundw
      case rel => exact ⟨k + 1, by omega, by go_num, HB.out.trans (HB1.out.mono (by omega)), HN.out⟩
      case measure => simp [intOf]; omega
  · obtain rfl : k = n := by omega
    have HE : Hid (AT = k) := HAT.out k (by omega) hA.out (.inl rfl)
    have HE2 : Hid (HS = false) := by unfold Hid; rw [HHS.out, HE.out]; simp
    go_wp2_with fail
    first
      | (go_quiet (fail)
         go_wp2_with fail
         go_ret2
         exact ⟨by rw [HE.out, HE2.out]; rfl, below_drewN HBw.out _⟩)
      | (go_ret2
         exact ⟨by rw [HE.out, HE2.out]; rfl, HBw.out⟩)
end Go.Proofs.YtgmaamnofhmecaaGreatDoor
