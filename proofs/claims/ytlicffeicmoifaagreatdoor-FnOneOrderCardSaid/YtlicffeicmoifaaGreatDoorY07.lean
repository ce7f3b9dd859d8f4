/-
 FnOneOrder returns true at all bytes, and leaves them as they were: the given card. No condition but the row's own list of Go's tables, which the card ties.
-/
import Derived.Test.YtlicffeicmoifaaGreatDoorZ00
import Derived.Test.YtlicffeicmoifaaGreatDoorZ01
import Derived.Test.YtlicffeicmoifaaGreatDoorZ02
import Derived.Test.YtlicffeicmoifaaGreatDoorZ03
import Derived.Test.YtlicffeicmoifaaGreatDoorZ04
import Derived.Test.YtlicffeicmoifaaGreatDoorZ05
import Derived.Test.YtlicffeicmoifaaGreatDoorZ06
import Derived.Test.YtlicffeicmoifaaGreatDoorZ07
import Derived.Test.YtlicffeicmoifaaGreatDoorZ08
import Derived.Test.YtlicffeicmoifaaGreatDoorZ09
import Derived.Test.YtlicffeicmoifaaGreatDoorZ10
import Derived.Test.YtlicffeicmoifaaGreatDoorZ11
import Derived.Test.YtlicffeicmoifaaGreatDoorZ12
import Derived.Test.YtlicffeicmoifaaGreatDoorZ13
import Derived.Test.YtlicffeicmoifaaGreatDoorZ14
import Derived.Test.YtlicffeicmoifaaGreatDoorZ15
import Derived.Test.YtlicffeicmoifaaGreatDoorZ16
import Derived.Test.YtlicffeicmoifaaGreatDoorZ17
import Derived.Test.YtlicffeicmoifaaGreatDoorZ18
import Derived.Test.YtlicffeicmoifaaGreatDoorZ19
import Derived.Test.YtlicffeicmoifaaGreatDoorZ20
import Derived.Test.YtlicffeicmoifaaGreatDoorZ21
import Derived.Test.YtlicffeicmoifaaGreatDoorZ22
import Derived.Test.YtlicffeicmoifaaGreatDoorZ23
import Derived.Test.YtlicffeicmoifaaGreatDoorZ24
import Derived.Test.YtlicffeicmoifaaGreatDoorZ25
import Derived.Test.YtlicffeicmoifaaGreatDoorZ26
import Derived.Test.YtlicffeicmoifaaGreatDoorZ27
import Derived.Test.YtlicffeicmoifaaGreatDoorZ28
import Derived.Test.YtlicffeicmoifaaGreatDoorZ29
import Derived.Test.YtlicffeicmoifaaGreatDoorZ30
import Derived.Test.YtlicffeicmoifaaGreatDoorZ31
import Derived.Test.YtlicffeicmoifaaGreatDoorZ32
import Derived.Test.YtlicffeicmoifaaGreatDoorZ33
import Derived.Test.YtlicffeicmoifaaGreatDoorZ34
import Derived.Test.YtlicffeicmoifaaGreatDoorZ35
import Derived.Test.YtlicffeicmoifaaGreatDoorZ36
import Derived.Test.YtlicffeicmoifaaGreatDoorZ37
import Derived.Test.YtlicffeicmoifaaGreatDoorZ38
import Derived.Test.YtlicffeicmoifaaGreatDoorZ39
import Derived.Test.YtlicffeicmoifaaGreatDoorZ40
import Derived.Test.YtlicffeicmoifaaGreatDoorZ41
import Derived.Test.YtlicffeicmoifaaGreatDoorZ42
import Derived.Test.YtlicffeicmoifaaGreatDoorCards
import Derived.Test.YtlicffeicmoifaaGreatDoorTie
import Derived.Test.YtlicffeicmoifaaGreatDoorY06
import Derived.ChangeOld
import Derived.ChangeSlices
import Derived.Deep.DeepHandedRow
import Derived.LaidSub
import Derived.Lay
import Derived.Lib.LaidTab
import Derived.Lib.SmallJoins
import Derived.OpenShut
import Derived.ProofKit
import Derived.ShutString
import Derived.SliceStrings
set_option linter.unusedSimpArgs false
namespace Go.Proofs.YtlicffeicmoifaaGreatDoor.fnOneOrder
open Go.ChangeShapes Go.WideShapes Go.ChangeAt Go.RowKit Go.Joins
set_option linter.unusedVariables false
theorem own : ownKnob Tryz.prog.godebug = none := by kernel_rfl
theorem laidOut : laidOutB Tryz.prog = true := by kernel_rfl
theorem gT : Tryz.prog.globalNamed "internal/strconv.uint64pow10" = some 1 := by kernel_rfl
theorem gTType : (Tryz.prog.globals[1]?).map (·.type) = some 328 := by kernel_rfl
theorem isTab : (Rows.laid_internal_strconv_uint64pow10 : DataW Unit) = Lib.tabData .u64 Lib.pow10Tab := by kernel_rfl
theorem tab_of {W : World} (hL : laidMet Tryz.prog Rows.fnOneOrderRow.laid W) : tabT W := by
 have h := hL.filter (fun x => x.1 == "internal/strconv.uint64pow10")
 have e : (Rows.fnOneOrderRow.laid.filter fun x => x.1 == "internal/strconv.uint64pow10") = [("internal/strconv.uint64pow10", Lib.tabData .u64 Lib.pow10Tab)] := by
  rw [← isTab]
  rfl
 rw [e] at h
 exact Lib.tabIs_of_head gT gTType Tryz.underlying328 Tryz.underlying122 (by kernel_rfl) (by kernel_rfl) h
set_option maxRecDepth 100000 in
theorem contract (H : Type) (enc : TypeId × Value → H) (W : World) (base : Nat) (args : Array Value) (ds gs : List (DataW H)) (before : List MemPlace) (htab : tabT W)
 (hval : ∀ (j : Nat) t v, Tryz.f4.params[j]? = some t → args[j]? = some v → Value.okWide Tryz.prog W .any base t v)
 (hW : DataW.Whole enc Tryz.prog Tryz.f4.params.toList Rows.fnOneOrderSpec.vars false W args.toList ds gs before) :
 Calls Tryz.prog 4 args W fun e W' => ∃ v, e = .returned v ∧ Rows.fnOneOrderSpec.post enc Tryz.prog Tryz.f4 false true false false W args v W' := by
 have hW' := hW
 obtain ⟨p, q, hA0, hV, rfl, hfz, hnd⟩ := hW
 have hA : DataW.TrodAll enc Tryz.prog W 0 (fun _ => true) true Tryz.f4.params.toList args.toList ds p := hA0
 rw [Tryz.params4] at hA hval
 obtain ⟨v0, vs0, d0, ds0, p0, q0, hargs, rfl, rfl, h0, r0⟩ := trodAll_cons hA
 obtain ⟨rfl, rfl, rfl⟩ := trodAll_nil r0
 obtain rfl : args = #[v0] := by cases args; simp_all
 obtain ⟨rfl, rfl⟩ := trodVars_none hV
 have k0 := h0
 have lt0 : ∀ x ∈ p0, x.block < W.heap.size := by obtain ⟨m, hm⟩ := k0; exact DataW.trod_lt m _ _ _ hm
 obtain ⟨A, n, c, rfl⟩ := okWide_slice Tryz.underlying22 (hval 0 22 v0 rfl rfl)
 obtain ⟨hB, hn⟩ : BytesR W W.heap.size A n ∧ n ≤ 9223372036854775807 := by
  obtain ⟨fuel, hf⟩ := h0
  rcases open_ints Tryz.underlying22 Tryz.underlying5 (by kernel_rfl) hf with ⟨hcs, _⟩ | ⟨x, l, c', zs, hcs, _, hl, hm, hz, _, hcell, hwz⟩
  · simp [Value.cells] at hcs
    obtain ⟨rfl, rfl, rfl⟩ := hcs
    exact ⟨fun h => absurd h (by omega), by omega⟩
  · simp [Value.cells] at hcs
    obtain ⟨rfl, rfl, rfl⟩ := hcs
    refine ⟨fun h => ?_, by unfold maxLen at hm; omega⟩
    have hzl : zs.length = c := by simpa using hz
    obtain ⟨b, off, spot⟩ := x
    have hc0 := hcell 0 (by omega)
    have hspot : spot = none := by simpa [Addr.add] using World.cell?_spot hc0
    subst hspot
    refine ⟨b, off, rfl, World.block_lt_of_cell? W _ (by simpa [Addr.add] using hc0), fun j hj => ?_⟩
    have hj' := hcell j (by omega)
    rw [Go.WideShapes.add_plain] at hj'
    have hw := bounds_u8 (hwz (zs.getD j 0) (by rw [List.getD_eq_getElem?_getD, List.getElem?_eq_getElem (by omega)]; simp))
    refine ⟨(zs.getD j 0).toNat, ?_, by omega⟩
    rw [hj', Int.toNat_of_nonneg hw.1]
 clear hA0
 refine (fnOr_walk A n c W htab hB hn).mono fun e W' ⟨he, bel⟩ => ?_
 subst he
 exact ⟨_, rfl, _, _, _, [], _, [], hW', trodAll_mk1 (shut_bool Tryz.underlying4 _),
  (trodAll_cons_mk (Below.trod laidOut (by kernel_rfl) (of_decide_eq_true (by kernel_rfl)) k0 bel lt0) trodAll_mk0), rfl, bel.frame _, fun h => by cases h⟩
def theArgs : Array Value := #[.slice none 0 0]
theorem laid_met (os : Os) : laidMet Tryz.prog Rows.fnOneOrderRow.laid ((World.laidAll Tryz.prog os Rows.fnOneOrderRow.laid).forCall (fun _ _ => 0) ⟨#[], theArgs, []⟩).memory :=
 laidMet_laidAll _ (by kernel_rfl) (by kernel_rfl)
theorem reads (os : Os) {H : Type} (enc : TypeId × Value → H) : ∃ places, DataW.whole enc Tryz.prog ((World.laidAll Tryz.prog os Rows.fnOneOrderRow.laid).forCall (fun _ _ => 0) ⟨#[], theArgs, []⟩).memory Tryz.f4.params.toList Rows.fnOneOrderSpec.vars false theArgs.toList 8 = some ([.nil], [], places) :=
 ⟨[], by kernel_rfl⟩
set_option maxRecDepth 100000 in
theorem lifted (os : Os) (started : os.Started) (H : Type) (enc : TypeId × Value → H) (F : Stop.Interp) :
 ReturnsInHanded {} Tryz.checked os 4 .any ((OpenSpec.ofChange Rows.fnOneOrderSpec).preRow enc Tryz.prog Tryz.f4 Rows.fnOneOrderRow.domain false Rows.fnOneOrderRow.laid) (((OpenSpec.ofChange Rows.fnOneOrderSpec).at F).post enc Tryz.prog Tryz.f4 false true false false) := by
 obtain ⟨places, hx⟩ := reads os enc
 refine returnsInHanded_of_row (C := Tryz.checked) (s := OpenSpec.ofChange Rows.fnOneOrderSpec) own started (by kernel_rfl) Tryz.func4
  (witness_row_at (enc := enc) (C := Tryz.checked) false (World.laidAll Tryz.prog os Rows.fnOneOrderRow.laid) theArgs (World.laidAll_os _ _ _) (by kernel_rfl) (by kernel_rfl) (by kernel_rfl)
    (OpenSpec.preRow_of_cond 8 hx (by kernel_rfl) (fun k hk => by cases hk) (by kernel_rfl) (laid_met os))) ?_
 intro W base args ds gs before hval hW _ _ _ hL _ _
 exact contract H enc W base args ds gs before (tab_of hL) hval hW
theorem andT_ {a b : Bool} (ha : a = true) (hb : b = true) : (a && b) = true := by rw [ha, hb]; rfl
set_option maxHeartbeats 40000000 in
set_option maxRecDepth 100000 in
theorem closed_ : joinedFacts Tryz.prog 4 Tryz.f4 Rows.fnOneOrderSpec Rows.fnOneOrderRow = true := by
 unfold joinedFacts
 repeat' with_reducible refine andT_ ?_ ?_
 all_goals as_aux_lemma => kernel_rfl
theorem funcNamed_ : Tryz.prog.funcNamed Rows.fnOneOrderRow.func = some 4 := by kernel_rfl
set_option maxHeartbeats 4000000 in
set_option maxRecDepth 100000 in
theorem said : Rows.FnOneOrderSaid :=
 OpenClaim.holds_of_cond 4 Tryz.f4 rfl rfl rfl rfl rfl rfl rfl ⟨rfl, rfl, rfl, rfl, rfl⟩ rfl rfl rfl rfl rfl funcNamed_ Tryz.func4 closed_
  (of_decide_eq_true (by kernel_rfl)) (by unfold Func.isWrapper; first | (rw [if_pos (by decide +kernel)]; kernel_rfl) | (rw [if_neg (by decide +kernel)]; exact ⟨rfl, rfl⟩))
  (fun os started H enc _ F => by rw [OpenClaim.pre_eq_preRow]; exact lifted os started H enc F)
theorem plain (f : FuncId) (fn : Func) (hf : Tryz.pinned.checked.prog.funcNamed Rows.fnOneOrderRow.func = some f) (hfn : Tryz.pinned.checked.prog.funcs[f]? = some fn) :
 false = Tryz.pinned.checked.prog.looks [] ∧ ∀ (j : Nat) t, fn.params[j]? = some t → Tryz.pinned.checked.prog.wantsStandIn t = false := by
 obtain rfl : f = 4 := Option.some.inj (funcNamed_.symm.trans hf) |>.symm
 obtain rfl : fn = Tryz.f4 := (Option.some.inj (Tryz.func4.symm.trans hfn)).symm
 refine ⟨by kernel_rfl, fun j t ht => ?_⟩
 rw [Tryz.params4] at ht
 have hm := Array.mem_of_getElem? ht
 simp only [Array.mem_def, List.mem_cons, List.not_mem_nil, or_false] at hm
 subst hm
 exact (show Tryz.prog.wantsStandIn 22 = false by kernel_rfl)
end Go.Proofs.YtlicffeicmoifaaGreatDoor.fnOneOrder
