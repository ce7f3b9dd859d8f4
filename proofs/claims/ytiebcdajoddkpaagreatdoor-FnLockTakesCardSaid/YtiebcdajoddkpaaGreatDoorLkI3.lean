/-
  Locks of the program: what LocksOk computes.
-/
import Derived.Test.YtiebcdajoddkpaaGreatDoorLkI2
import Derived.Maps.OwnOps
import Derived.Maps.Views
namespace Go.Proofs.YtiebcdajoddkpaaGreatDoor
open Go.RowKit Go.Maps

theorem lookup_bool {P : Program} {w : World} {k t e : TypeId} {b n : Nat} {D : DataW Unit} (h : w.ownsMap P k (plainElem P e) b n D) (K : Keyed P k) (ht : P.underlying t = some (.map k e)) (he : P.underlying e = some .bool) (hz : (zeroValue e).run P w = .ok (.bool false) w)
    {key : Value} {kl : Lit} (hkey : keyOf P k key = some kl) {x : Bool} (hat : D.atKey kl (.lit (.bool false)) = .lit (.bool x)) : (Instr.lookup t (.map (some b)) key false).run P w = .ok (.bool x) w := by
  obtain ⟨v, ps, hrun, hv⟩ := h.lookup K ht hz (plainElem_bool he false) hkey
  rw [hat] at hv
  unfold plainElem at hv
  rw [he] at hv
  cases v <;> simp at hv
  rw [hrun, hv.1]

theorem law64 : Keyed Tryz.prog 2 := int_keyed Tryz.underlying2
theorem zeroB (w : World) : (zeroValue 4).run Tryz.prog w = .ok (.bool false) w := by kernel_rfl
theorem key64 {a : Int} (h1 : 1 ≤ a) (h4 : a ≤ 4) : keyOf Tryz.prog 2 (.int .i64 a) = some (.int .i64 a) := keyOf_int_mk Tryz.underlying2 (WalkArith.wf_i64 (by omega))

def askIAt (l : List ItD) (k : Nat) : Bool := inB (l.getD k default).a 1 4 && (!((l.take k).any (jobP (l.getD k default).a)) && (inB (l.getD k default).b 0 999999 && thingB (l.getD k default).name (l.getD k default).subs))
def locksI (held asks : List ItD) : Bool := allFrom (askIAt asks) 0 asks.length && heldI held

theorem take_any_succ (l : List ItD) (k : Nat) (p : ItD → Bool) (h : k < l.length) : (l.take (k + 1)).any p = ((l.take k).any p || p (l.getD k default)) := by
  rw [List.take_succ_eq_append_getElem h, List.any_append, List.getD_eq_getElem?_getD, List.getElem?_eq_getElem h]
  simp

set_option maxRecDepth 100000 in
set_option maxHeartbeats 8000000 in
theorem LocksOk_any (A A' : Option Addr) (n c n' c' : Nat) (held asks : List ItD) (w : World) (htab : tabT w) (h : Its w w.heap.size A n held) (ha : Its w w.heap.size A' n' asks) (hs : smalls held) (hsa : smalls asks) (hnc : n ≤ c) :
    Calls Tryz.prog 37 #[.agg #[.slice A n c, .slice A' n' c']] w fun e w' => e = .returned (.bool (locksI held asks)) ∧ Below w.heap.size w w' := by
  have Ha := Lib.hid ha
  have Hlena := Lib.hid ha.1
  have hn' : n' ≤ 1048576 := by rw [← ha.1]; exact hsa.1
  have Hsa := Lib.hid hsa
  have HR : Hid (locksI held asks = (allFrom (askIAt asks) 0 (n' - 0) && heldI held)) := by unfold Hid locksI; rw [ha.1]; rfl
  have HKH := Lib.hid (fun W (hW : Below w.heap.size w W) => heldOk_any A n c held W (tab_later htab hW) (h.later hW) hs hnc)
  clear h ha hs hsa htab
  generalize locksI held asks = R at *
  generalize heldI held = hI at *
  have hmm := @run_makeMap Tryz.prog
  go_enter Tryz.func37, Tryz.ntmps37
  go_wp2_with fail
  clear hmm
  go_loopw [10] (fun i wr => ∃ (k : Nat) (D : DataW Unit), k ≤ n' ∧ i = .int .i64 k ∧ Below (w.heap.size + 1) (w.alloc (.cells #[.slice A n c, .slice A' n' c'] 27)) wr ∧ wr.ownsMap Tryz.prog 2 (plainElem Tryz.prog 4) (w.heap.size + 1) k D ∧ Hid (IsMap D ∧ ∀ x, D.atKey (.int .i64 x) (.lit (.bool false)) = .lit (.bool ((asks.take k).any (jobP x)))) ∧ Hid (R = (allFrom (askIAt asks) k (n' - k) && hI))) (fun i _ => n' - (intOf i).toNat)
  case atStart => exact ⟨0, .map [], Nat.zero_le _, rfl, (Below.refl _ _).alloc (by simp) _, (by have hh := World.ownsMap_made (H := Unit) (w.alloc (.cells #[.slice A n c, .slice A' n' c'] 27)) Tryz.prog 2 (plainElem Tryz.prog 4); simpa using hh), ⟨isMap_empty, fun x => rfl⟩, HR.out⟩
  case round =>
    obtain ⟨k, D, hk, rfl, hb, hown, hD, hS⟩ := hrel
    have p0 := (Blk.later (heap_alloc_new w _) hb (by omega)).cell
    have hz0 : w.heap.size < wr.heap.size := by have := hb.size; simp at this; omega
    have HB := Lib.hid hb
    have HBw := Lib.hid ((Below.new _ _).trans (hb.mono (by omega)))
    have HO := Lib.hid hown
    have hlm := hown.lt
    clear hb hown
    by_cases hlt : k < n'
    · obtain ⟨bb, o, rfl, hbB, hc'⟩ := (Ha.out.later HBw.out).2 (by omega)
      obtain ⟨c0, c1, c2, c3, k0, k1, k2, k3, hr⟩ := hc' k hlt
      clear hc'
      have hl1 : k < asks.length := by rw [Hlena.out]; exact hlt
      have HS := Lib.hid (allFrom_step (askIAt asks) k n' hlt)
      have HA0 : Hid (askIAt asks k = (inB (asks.getD k default).a 1 4 && (!((asks.take k).any (jobP (asks.getD k default).a)) && (inB (asks.getD k default).b 0 999999 && thingB (asks.getD k default).name (asks.getD k default).subs)))) := rfl
      have hsm := Hsa.out.2 _ (getD_mem asks k hl1)
      have HFalse : Hid (askIAt asks k = false → R = false) := fun hf => by rw [hS.out, HS.out, hf]; rfl
      have HTrue : Hid (askIAt asks k = true → R = (allFrom (askIAt asks) (k + 1) (n' - (k + 1)) && hI)) := fun hf => by rw [hS.out, HS.out, hf]; rfl
      have HTS := Lib.hid (fun p => take_any_succ asks k p hl1)
      clear hl1
      generalize asks.getD k default = d at *
      obtain ⟨e0, e1, e2, A1, n1, cap1, e3, hs1, _⟩ := hr
      subst e0 e1 e2 e3
      have hn1 : n1 ≤ 1048576 := by rw [← hs1.1]; exact hsm.2.1
      have HK3 := Lib.hid (fun W (hW : Below wr.heap.size wr W) => locationOk_any d.name A1 n1 cap1 d.subs W hsm.1 (hs1.later hW) hn1 hsm.2.2)
      have HK1 := Lib.hid (jobOk_any d.a)
      have HK2 : Hid (∀ W, Calls Tryz.prog 47 #[.int .i64 d.b, .int .i64 0, .int .i64 999999] W fun e w' => e = .returned (.bool (inB d.b 0 999999)) ∧ W = w') := within_any d.b 0 999999
      have HN := Lib.hid (Below.new wr (.cells #[.int .i64 d.a, .int .i64 d.b, .string d.name, .slice A1 n1 cap1] 42))
      have HJ : Hid (inB d.a 1 4 = true → 1 ≤ d.a ∧ d.a ≤ 4) := fun hh => by simpa [inB] using hh
      clear hs1 hsm
      generalize inB d.a 1 4 = x1 at *
      cases x1
      · have HE : Hid (R = false) := HFalse.out (by rw [HA0.out]; rfl)
        go_wp2_with fail
        refine (HK1.out _).mono ?_
        rintro e w1 ⟨rfl, rfl⟩
        go_wp2_with fail
        go_ret
        exact ⟨ret_bool HE.out.symm, HBw.out.later HN.out⟩
      obtain ⟨hj1, hj4⟩ := HJ.out rfl
      have hrun := lookup_bool (HO.out.alloc (.cells #[.int .i64 d.a, .int .i64 d.b, .string d.name, .slice A1 n1 cap1] 42)) law64 Tryz.underlying105 Tryz.underlying4 (zeroB _) (key64 hj1 hj4) (hD.out.2 d.a)
      generalize hy : (asks.take k).any (jobP d.a) = y at *
      have HY := Lib.hid hy
      clear hy
      generalize inB d.b 0 999999 = x2 at *
      generalize thingB d.name d.subs = x3 at *
      go_wp2_with fail
      refine (HK1.out _).mono ?_
      rintro e w1 ⟨rfl, rfl⟩
      cases y
      · go_wp2_with fail
        refine (HK2.out _).mono ?_
        rintro e w1 ⟨rfl, rfl⟩
        cases x2
        · have HE : Hid (R = false) := HFalse.out (by rw [HA0.out]; rfl)
          go_wp2_with fail
          go_ret
          exact ⟨ret_bool HE.out.symm, HBw.out.later HN.out⟩
        go_wp2_with fail
        refine (HK3.out _ HN.out).mono ?_
        rintro e w1 ⟨rfl, rfl⟩
        cases x3
        · have HE : Hid (R = false) := HFalse.out (by rw [HA0.out]; rfl)
          go_wp2_with fail
          go_ret
          exact ⟨ret_bool HE.out.symm, HBw.out.later HN.out⟩
        have HE := Lib.hid (HTrue.out (by rw [HA0.out]; rfl))
        have HKey := Lib.hid (key64 hj1 hj4)
        clear hrun
        go_wp2_with (at_mapUpdate; refine wpList_mapUpdate_own _ rfl _ _ _ 105 rfl 2 4 law64 Tryz.underlying105 _ (w.heap.size + 1) k _ rfl (HO.out.alloc _) (by unfold maxLen; omega) _ _ _ rfl rfl HKey.out _ [] (plainElem_bool Tryz.underlying4 true) ?_)
        intro w1 hown1 hg1
        have HO1 := Lib.hid hown1
        have HB1 := Lib.hid ((HB.out.alloc (by omega) _).grown hg1 (by simp; omega) (by intro g hg; injection hg with hg; omega))
        clear hown1 hg1
        go_wp2_with fail
        go_roundw
        case rel =>
          refine ⟨k + 1, _, by omega, by go_num, HB1.out, HO1.out, ⟨hD.out.1.put _ _, fun x => ?_⟩, HE.out⟩
          rw [HTS.out]
          by_cases hx : x = d.a
          · subst hx
            rw [atKey_put_same hD.out.1 (show WideAt.IsKeyLit (.int .i64 d.a) from trivial)]
            simp [jobP]
          · rw [atKey_put_other (by intro he; injection he with _ he; exact hx he), hD.out.2 x]
            have : jobP x d = false := by unfold jobP; rw [decide_eq_false_iff_not]; exact fun he => hx he.symm
            rw [this, Bool.or_false]
        case measure => simp [intOf]; omega
      · have HE : Hid (R = false) := HFalse.out (by rw [HA0.out]; rfl)
        go_wp2_with fail
        go_ret
        exact ⟨ret_bool HE.out.symm, HBw.out.later HN.out⟩
    · have HE : Hid (R = hI) := by unfold Hid; rw [hS.out, allFrom_end _ _ _ hlt]; rfl
      go_wp2_with fail
      refine (HKH.out _ HBw.out).mono ?_
      rintro e w1 ⟨rfl, hb1⟩
      have HB1 := Lib.hid (HBw.out.later hb1)
      clear hb1
      go_wp2_with fail
      go_ret
      exact ⟨ret_bool HE.out.symm, HB1.out⟩
end Go.Proofs.YtiebcdajoddkpaaGreatDoor
