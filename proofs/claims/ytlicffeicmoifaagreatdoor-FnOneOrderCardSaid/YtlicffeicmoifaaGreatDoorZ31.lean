import Derived.Test.YtlicffeicmoifaaGreatDoorZ27
import Derived.Test.YtlicffeicmoifaaGreatDoorZ29
import Derived.Test.YtlicffeicmoifaaGreatDoorZ30
set_option linter.unusedSimpArgs false
namespace Go.Proofs.YtlicffeicmoifaaGreatDoor
open Go.RowKit
set_option linter.unusedVariables false
theorem dos_otherN {w w' : World} {base base' e' size' n' : Nat} {v u : Value} {fs : List NodeD} {xs' : List Value} (h : NodesO w base v fs) (hr : w.ownsRow base' e' size' u n' xs') (hg : w.grownBy w' u.ownBlock) (h1 : 89 ≠ e') (h2 : 9 ≠ e') : NodesO w' base v fs := by
 obtain ⟨vs, h⟩ := h
 exact ⟨vs, h.len, h.row.kept hg (Own.apart_types h.row hr h1), fun j hj => World.ownsRow.kept (h.subs j hj) hg (Own.apart_types (h.subs j hj) hr h2), h.aprt⟩
theorem dosO_litQ {w : World} {g : Nat} (hg : w.heap.size = g) (base : Nat) (h : base ≤ w.heap.size) : DosO (w.alloc (.cells #[] 39)) base (.slice (some ⟨g, 0, none⟩) 0 0) [] := by
 subst hg
 exact dosO_lit w base h
structure DdS (p K : Nat) (w : World) (b0 : Nat) (tv : Value) (fs : List NodeD) (ov : Value) (l : List DoD) (vs : List Value) (X : World) : Prop where
 tre : Blk X w.heap.size 26 #[tv]
 own : NodesO X b0 tv fs
 row : Own.OwnL doK X w.heap.size 39 ov l vs
 tok : treeB fs = true
 fin : fineT fs
 good : goodDs l
 nn : ov ≠ .slice none 0 0
 draw : Drawn p K w X
section
variable {p K K' b0 : Nat} {w X Y : World} {tv ov : Value} {fs : List NodeD} {l : List DoD} {vs : List Value}
theorem DdS.later (s : DdS p K w b0 tv fs ov l vs X) (hb : Below X.heap.size X Y) : DdS p K w b0 tv fs ov l vs Y := ⟨s.tre.later hb s.tre.lt, s.own.later hb, s.row.later hb, s.tok, s.fin, s.good, s.nn, s.draw.later hb⟩
theorem DdS.drawn (s : DdS p K w b0 tv fs ov l vs X) (hd : Drawn p K' X Y) (hp : p < w.heap.size) : DdS p K' w b0 tv fs ov l vs Y :=
 ⟨Blk.drawn s.tre hd (by omega), s.own.drawn s.draw.src hd, OwnL.drawn s.row s.draw.src hd (by decide), s.tok, s.fin, s.good, s.nn, s.draw.trans hd⟩
theorem DdS.mono (s : DdS p K w b0 tv fs ov l vs X) (hK : K ≤ K') : DdS p K' w b0 tv fs ov l vs X := ⟨s.tre, s.own, s.row, s.tok, s.fin, s.good, s.nn, s.draw.mono hK⟩
theorem DdS.turn (s : DdS p K w b0 tv fs ov l vs X) {v2 : Value} {gs : List NodeD} (h : NodesO X b0 v2 gs) (ht : treeB gs = true) (hf : fineT gs) (hp : p < w.heap.size) : DdS p K w b0 v2 gs ov l vs (X.setCell ⟨w.heap.size, 0, none⟩ v2) :=
 ⟨by have h2 := s.tre.set_ 0 v2; simpa using h2, h.setBlk s.tre (by decide) (by decide), s.row.grownOther s.tre (by decide) (by decide) (Own.grown_set _ _ _ _), ht, hf, s.good, s.nn, s.draw.set (Nat.le_refl _) hp 0 v2⟩
theorem DdS.snoc (s : DdS p K w b0 tv fs ov l vs X) {v ov' : Value} {d : DoD} (hl : l.length < 9) (hsub : Own.SubO X w.heap.size v d.ev.subs) (hap : ∀ u ∈ vs, Own.apart u v) (hd : goodE d.ev)
 (hown : Y.ownsRow w.heap.size 39 6 ov' (l.length + 1) (Own.flat doK l vs ++ doK.cells d v)) (hg : X.grownBy Y ov.ownBlock) (hp : p < w.heap.size) (hnn : ov' ≠ .slice none 0 0) : DdS p K w b0 tv fs ov' (l ++ [d]) (vs ++ [v]) Y := by
 have hr := s.row.row
 exact ⟨s.tre.grown hg (fun e => Own.own_blk_ne hr s.tre (by decide) e.symm), dos_otherN s.own hr hg (by decide) (by decide), s.row.snoc hsub hap hown hg (by decide), s.tok, s.fin, goodDs_snoc s.good hl hd, hnn, s.draw.grown hg (fun g hg' => (hr.lt g hg').1) hp⟩
end
def DoPost (p K : Nat) (w : World) (e : Ending) (w' : World) : Prop := ∃ ov l, e = .returned ov ∧ DosO w' w.heap.size ov l ∧ ov ≠ .slice none 0 0 ∧ goodDs l ∧ Drawn p K w w'
set_option maxRecDepth 100000 in
set_option maxHeartbeats 16000000 in
theorem l28Doings_any (p K b0 : Nat) (tv0 : Value) (fs0 : List NodeD) (w : World) (h : SrcR w p K) (hK : K ≤ 68719476736) (hN : NodesO w b0 tv0 fs0) (ht : treeB fs0 = true) (hf : fineT fs0) (hb0 : b0 ≤ w.heap.size) :
 Calls Tryz.prog 88 #[.pointer (some ⟨p, 0, none⟩), .agg #[tv0]] w (DoPost p (K + 200) w) := by
 obtain ⟨j0, hbi, hy0, hy1, hy2⟩ := info_parts infoDoD
 have hpw := h.lt
 obtain ⟨A0, cap0, rfl, _, _⟩ := hN.reads
 obtain ⟨WB, hWB⟩ : ∃ WB, WB = (w.alloc (.cells #[.slice A0 fs0.length cap0] 26)).alloc (.cells #[] 39) := ⟨_, rfl⟩
 have HS0 : Hid (∃ vs, DdS p K w b0 (.slice A0 fs0.length cap0) fs0 (.slice (some ⟨w.heap.size + 1, 0, none⟩) 0 0) [] vs WB) := by
  subst hWB
  obtain ⟨vs, hb⟩ := dosO_litQ (w := w.alloc (.cells #[.slice A0 fs0.length cap0] 26)) (g := w.heap.size + 1) (by simp) w.heap.size (by simp)
  exact ⟨vs, heap_two0 _ _ _, hN.later ((Below.new _ _).later (Below.new _ _)), hb, ht, hf, goodDs_nil, by simp, (Drawn.refl h).later ((Below.new _ _).later (Below.new _ _))⟩
 obtain ⟨vs0, HS0'⟩ := HS0.out
 have HS0 := Lib.hid HS0'
 have HK1 := Lib.hid (pick_any p K 10 WB HS0.out.draw.src (by omega) (by omega))
 clear h hN ht hf HS0'
 go_enter Tryz.func88, Tryz.ntmps88
 go_wp2_with fail
 rw [← hWB]
 clear hWB
 refine HK1.out.mono ?_
 rintro e w1 ⟨x, rfl, hx, hd⟩
 have HS1 := Lib.hid (HS0.out.drawn hd hpw)
 have hx9 : x ≤ 9 := by omega
 clear hd HS0 HK1 hx
 go_wp2_with fail
 go_loopw [5, 6] (fun ov kv wr => ∃ (k : Nat) (tv : Value) (fs : List NodeD) (l : List DoD) (vs : List Value), kv = .int .i64 k ∧ k + l.length ≤ 9 ∧ Hid (DdS p (K + 2 + 18 * (9 - k)) w b0 tv fs ov l vs wr)) (fun _ kv _ => (intOf kv).toNat)
 case atStart => exact ⟨x, _, _, [], _, rfl, by simpa using hx9, HS1.out.mono (by omega)⟩
 case round =>
  obtain ⟨k, tv, fs, l, vs, rfl, hk, HS⟩ := hrel
  clear HS1
  obtain ⟨OA, oc, rfl, _, _⟩ := Own.own_slice HS.out.row.row
  obtain ⟨A, cap, rfl, hcap, hNN⟩ := HS.out.own.reads
  generalize hm : l.length = m at *
  have HM := Lib.hid hm
  clear hm
  have hwr := HS.out.draw.chg.size
  have t0 := HS.out.tre.cell 0
  have tz := HS.out.tre.lt
  simp at t0
  by_cases hk0 : 0 < k
  · have hK3 : K + 2 + 18 * (9 - k) + 18 ≤ K + 2 + 18 * (9 - (k - 1)) := by omega
    have hK4 : K + 2 + 18 * (9 - k) ≤ 137438953000 := by omega
    generalize K + 2 + 18 * (9 - k) = KJ at *
    have HKN := Lib.hid (l25Note_any p KJ A fs.length cap fs wr HS.out.draw.src (by omega) hNN HS.out.tok HS.out.fin)
    have hki : (0 : Int) < (k : Int) := by omega
    clear hNN
    go_wp2_with fail
    refine HKN.out.mono ?_
    rintro e w4 ⟨v, d, rfl, hsub, hgd, hturn, hd4⟩
    obtain ⟨SA, scap, rfl, hscap, _⟩ := hsub.strs
    have HS4 := Lib.hid (HS.out.drawn hd4 hpw)
    have HSUB4 := Lib.hid (Own.own_base hsub hwr)
    have HAP := Lib.hid (HS.out.row.fresh hsub (Nat.le_refl _))
    have HGD := Lib.hid hgd
    have HTU := Lib.hid hturn.1
    clear hd4 hgd hturn hsub HKN t0 tz
    obtain ⟨WE, hWE⟩ : ∃ WE, WE = w4.alloc (.cells #[.int .i64 d.kind, .string d.name, .slice SA d.subs.length scap, .string d.val, .int .i64 d.n] 37) := ⟨_, rfl⟩
    have HQE : Hid (Blk WE w4.heap.size 37 #[.int .i64 d.kind, .string d.name, .slice SA d.subs.length scap, .string d.val, .int .i64 d.n]) := by subst hWE; exact heap_alloc_new _ _
    have HSE : Hid (DdS p (KJ + 16) w b0 (.slice A fs.length cap) fs (.slice OA m oc) l vs WE) := by subst hWE; exact HS4.out.later (Below.new _ _)
    have HSUBE : Hid (Own.SubO WE w.heap.size (.slice SA d.subs.length scap) d.subs) := by subst hWE; exact sub_later HSUB4.out (Below.new _ _)
    have HER : Hid (∀ W, Below WE.heap.size WE W → EvR W W.heap.size (.int .i64 d.kind) (.string d.name) (.slice SA d.subs.length scap) (.string d.val) (.int .i64 d.n) d) := fun W hW => by
     obtain ⟨A', c', e', _, hs⟩ := Own.SubO.strs (Own.own_later HSUBE.out hW)
     injection e' with e1 e2 e3
     subst e1 e3
     exact ⟨rfl, rfl, ⟨_, _, _, rfl, hs, hscap⟩, rfl, rfl⟩
    have hqe : w.heap.size < w4.heap.size := HS4.out.tre.lt
    have HKT := Lib.hid (specTurnsOf_any _ _ _ _ _ d WE (HER.out _ (Below.refl _ _)))
    have e0 := HQE.out.at 0 rfl
    have e1 := HQE.out.at 1 rfl
    have e2 := HQE.out.at 2 rfl
    have e3 := HQE.out.at 3 rfl
    have e4 := HQE.out.at 4 rfl
    clear HS4 HSUB4 HS
    go_wp2_with fail
    rw [← hWE]
    clear hWE
    refine HKT.out.mono ?_
    rintro e w5 ⟨rfl, hb5⟩
    have HB5 := Lib.hid hb5
    have HQ5 := Lib.hid (HQE.out.later hb5 HQE.out.lt)
    have HS5 := Lib.hid (HSE.out.later hb5)
    have HSUB5 := Lib.hid (sub_later HSUBE.out hb5)
    clear hb5 HSE HSUBE HKT e0 e1 e2 e3 e4
    have htb : turnsB d = true ∨ turnsB d = false := by cases turnsB d <;> simp
    generalize turnsB d = tb at *
    cases tb
    case false =>
     obtain ⟨WN, hWN⟩ : ∃ WN, WN = w5 := ⟨_, rfl⟩
     have HSN : Hid (DdS p (KJ + 16) w b0 (.slice A fs.length cap) fs (.slice OA m oc) l vs WN) := by rw [hWN]; exact HS5.out
     have HSUB : Hid (Own.SubO WN w.heap.size (.slice SA d.subs.length scap) d.subs) := by rw [hWN]; exact HSUB5.out
     have HQ : Hid (Blk WN w4.heap.size 37 #[.int .i64 d.kind, .string d.name, .slice SA d.subs.length scap, .string d.val, .int .i64 d.n]) := by rw [hWN]; exact HQ5.out
     clear HS5 HSUB5 HQ5
     go_wp2_with fail
     rw [← hWN]
     clear hWN
     obtain ⟨tvN, fsN, HSN⟩ : ∃ tv fs, Hid (DdS p (KJ + 16) w b0 tv fs (.slice OA m oc) l vs WN) := ⟨_, _, HSN⟩
     have HKP2 := Lib.hid (fun W (hW : Below WN.heap.size WN W) => pick_any p (KJ + 16) 3 W (HSN.out.draw.src.later hW) (by omega) (by omega))
     have q0 := HQ.out.at 0 rfl
     have q1 := HQ.out.at 1 rfl
     have q2 := HQ.out.at 2 rfl
     have q3 := HQ.out.at 3 rfl
     have q4 := HQ.out.at 4 rfl
     go_region_law (first
      | (refine step_append_lies _ (by rfl) _ _ _ (by rfl) w.heap.size 39 j0 _ 6 80 Tryz.underlying27 hbi hy0 hy1 hy2 rfl (by omega) (.slice OA m oc) m (Own.flat doK l vs) (by rfl) (by exact HRA.out)
          ⟨w7.heap.size, 0, none⟩ 1 1 ((#[.int .i64 (1 + (z : Int)), .int .i64 d.kind, .string d.name, .slice SA d.subs.length scap, .string d.val, .int .i64 d.n] : Array Value).toList) (by rfl) (by rfl) (by exact cells_newN w7 #[.int .i64 (1 + (z : Int)), .int .i64 d.kind, .string d.name, .slice SA d.subs.length scap, .string d.val, .int .i64 d.n] _) (by simp [Value.oneCell']) (by omega) (by unfold maxLen; omega) (by omega) (by have := HS7.out.draw.chg.size; simp; omega) (w7.heap.size + 1) (by simp) ?_
         intro gg cap' w8 hown5 hg5 hat hlt2
         have HS8 := Lib.hid ((HS7.out.later (Below.new w7 (.cells #[.int .i64 (1 + (z : Int)), .int .i64 d.kind, .string d.name, .slice SA d.subs.length scap, .string d.val, .int .i64 d.n] 39))).snoc (d := (⟨1 + (z : Int), d⟩ : DoD)) (by rw [HM.out]; omega) (sub_later HSUB7.out (Below.new _ _)) HAP.out HGD.out (by rw [HM.out]; exact hown5) hg5 hpw (by simp))
         clear hown5 hg5 hat)
      | (go_simp
         go_at_call 84
         refine (HKP2.out _ (Below.refl _ _).drew).mono ?_
         rintro e w7 ⟨z, rfl, hz, hd7'⟩
         have hd7 := hd7'.pre (Below.refl _ WN).drew
         have hz2 : z ≤ 2 := by omega
         have hwz : IntKind.i64.wrap (1 + (z : Int)) = 1 + (z : Int) := by rw [IntKind.wrap_i64]; omega
         have HS7 := Lib.hid ((HSN.out.drawn hd7 hpw).mono (show _ ≤ KJ + 18 by omega))
         have HSUB7 := Lib.hid (SubO.drawn HSUB.out HSN.out.draw.src hd7)
         have HQ7 := Lib.hid (Blk.drawn HQ.out hd7 (by omega))
         have j0' := HQ7.out.at 0 rfl
         have j1 := HQ7.out.at 1 rfl
         have j2 := HQ7.out.at 2 rfl
         have j3 := HQ7.out.at 3 rfl
         have j4 := HQ7.out.at 4 rfl
         have HRA : Hid ((w7.alloc (.cells #[.int .i64 (1 + (z : Int)), .int .i64 d.kind, .string d.name, .slice SA d.subs.length scap, .string d.val, .int .i64 d.n] 39)).ownsRow w.heap.size 39 6 (.slice OA m oc) m (Own.flat doK l vs)) := by
          have h := (HS7.out.later (Below.new w7 (.cells #[.int .i64 (1 + (z : Int)), .int .i64 d.kind, .string d.name, .slice SA d.subs.length scap, .string d.val, .int .i64 d.n] 39))).row.row
          rw [HM.out] at h
          exact h
         clear hd7 hd7' hz))
     all_goals
      obtain ⟨W9, hW9⟩ : ∃ W9, W9 = w8 := ⟨_, rfl⟩
      go_wp2_with fail
      go_roundw
      case rel => exact ⟨k - 1, _, _, _, _, by go_num, by rw [List.length_append, HM.out]; simp; omega, HS8.out.mono (by omega)⟩
      case measure => simp [intOf]; omega
    case true =>
     have t0 := HS5.out.tre.cell 0
     have tz := HS5.out.tre.lt
     have e0 := HQ5.out.at 0 rfl
     have e1 := HQ5.out.at 1 rfl
     have e2 := HQ5.out.at 2 rfl
     have e3 := HQ5.out.at 3 rfl
     have e4 := HQ5.out.at 4 rfl
     simp at t0
     have HKL := Lib.hid (l25Turn_any A fs.length cap fs _ _ _ _ _ d w5 (by obtain ⟨A', c', e', _, hs⟩ := HS5.out.own.reads; injection e' with x1 x2 x3; subst x1 x3; exact hs) hcap (tree_small HS5.out.tok) (HER.out _ HB5.out) HGD.out.1.1)
     have HTG : Hid ((doOneB fs (chgOf d)).1 = 0 → treeB (doOneB fs (chgOf d)).2 = true ∧ fineT (doOneB fs (chgOf d)).2) := fun h0 => ⟨doOne_tree h0, fine_doOne HS5.out.fin (HTU.out rfl) HGD.out.1.2⟩
     generalize doOneB fs (chgOf d) = DD at *
     obtain ⟨code, gs⟩ := DD
     dsimp only at HTG
     go_wp2_with fail
     refine HKL.out.mono ?_
     rintro e w6 ⟨v2, rfl, hn6, hb6⟩
     obtain ⟨A2, cap2, rfl, hcap2, _⟩ := hn6.reads
     have HN6 := Lib.hid (hn6.base (show b0 ≤ w5.heap.size by have := HS5.out.draw.chg.size; omega))
     have HS6 := Lib.hid (HS5.out.later hb6)
     have HSUB6 := Lib.hid (sub_later HSUB5.out hb6)
     have HQ6 := Lib.hid (HQ5.out.later hb6 HQ5.out.lt)
     have hw6 := HQ6.out.lt
     clear hb6 hn6 HKL HS5 HSUB5 HQ5 e0 e1 e2 e3 e4 t0 tz
     obtain ⟨WT, hWT⟩ : ∃ WT, WT = w6.alloc (.cells #[.slice A2 gs.length cap2] 26) := ⟨_, rfl⟩
     have HQT : Hid (Blk WT w6.heap.size 26 #[.slice A2 gs.length cap2]) := by subst hWT; exact heap_alloc_new _ _
     have HST : Hid (DdS p (KJ + 16) w b0 (.slice A fs.length cap) fs (.slice OA m oc) l vs WT) := by subst hWT; exact HS6.out.later (Below.new _ _)
     have HNT : Hid (NodesO WT b0 (.slice A2 gs.length cap2) gs) := by subst hWT; exact HN6.out.later (Below.new _ _)
     have HSUBT : Hid (Own.SubO WT w.heap.size (.slice SA d.subs.length scap) d.subs) := by subst hWT; exact sub_later HSUB6.out (Below.new _ _)
     have HQET : Hid (Blk WT w4.heap.size 37 #[.int .i64 d.kind, .string d.name, .slice SA d.subs.length scap, .string d.val, .int .i64 d.n]) := by subst hWT; exact HQ6.out.alloc _
     clear HS6 HN6 HSUB6 HQ6
     by_cases hc0 : code = 0
     case neg =>
      have hcn : (code != (0 : Int)) = true := by simpa using hc0
      go_wp2_with fail
      rw [← hWT]
      clear hWT
      go_roundw
      case rel => exact ⟨k - 1, _, _, l, vs, by go_num, by rw [HM.out]; omega, HST.out.mono (by omega)⟩
      case measure => simp [intOf]; omega
     obtain ⟨htg, hfg⟩ := HTG.out hc0
     subst hc0
     obtain ⟨WN, hWN⟩ : ∃ WN, WN = WT.setCell ⟨w.heap.size, 0, none⟩ (.slice A2 gs.length cap2) := ⟨_, rfl⟩
     have HSN : Hid (DdS p (KJ + 16) w b0 (.slice A2 gs.length cap2) gs (.slice OA m oc) l vs WN) := by subst hWN; exact HST.out.turn HNT.out htg hfg hpw
     have HSUB : Hid (Own.SubO WN w.heap.size (.slice SA d.subs.length scap) d.subs) := by subst hWN; exact Own.SubO.setBlk (i := 0) (u := .slice A2 gs.length cap2) HSUBT.out HST.out.tre (by decide)
     have HQ : Hid (Blk WN w4.heap.size 37 #[.int .i64 d.kind, .string d.name, .slice SA d.subs.length scap, .string d.val, .int .i64 d.n]) := by subst hWN; exact HQET.out.far (p := ⟨w.heap.size, 0, none⟩) (show w4.heap.size ≠ w.heap.size by omega) _
     have p0 := HQT.out.cell 0
     have t0 := HST.out.tre.cell 0
     have tz := HST.out.tre.lt
     have tf := HST.out.tre.frozen 0
     simp at p0 t0
     rw [hWT] at p0 t0 tz tf
     clear HST HNT HSUBT HQET htg hfg
     go_wp2_with fail
     rw [← hWT, ← hWN]
     clear hWT hWN p0 t0 tz tf
     obtain ⟨tvN, fsN, HSN⟩ : ∃ tv fs, Hid (DdS p (KJ + 16) w b0 tv fs (.slice OA m oc) l vs WN) := ⟨_, _, HSN⟩
     have HKP2 := Lib.hid (fun W (hW : Below WN.heap.size WN W) => pick_any p (KJ + 16) 3 W (HSN.out.draw.src.later hW) (by omega) (by omega))
     have q0 := HQ.out.at 0 rfl
     have q1 := HQ.out.at 1 rfl
     have q2 := HQ.out.at 2 rfl
     have q3 := HQ.out.at 3 rfl
     have q4 := HQ.out.at 4 rfl
     go_region_law (first
      | (refine step_append_lies _ (by rfl) _ _ _ (by rfl) w.heap.size 39 j0 _ 6 80 Tryz.underlying27 hbi hy0 hy1 hy2 rfl (by omega) (.slice OA m oc) m (Own.flat doK l vs) (by rfl) (by exact HRA.out)
          ⟨w7.heap.size, 0, none⟩ 1 1 ((#[.int .i64 (1 + (z : Int)), .int .i64 d.kind, .string d.name, .slice SA d.subs.length scap, .string d.val, .int .i64 d.n] : Array Value).toList) (by rfl) (by rfl) (by exact cells_newN w7 #[.int .i64 (1 + (z : Int)), .int .i64 d.kind, .string d.name, .slice SA d.subs.length scap, .string d.val, .int .i64 d.n] _) (by simp [Value.oneCell']) (by omega) (by unfold maxLen; omega) (by omega) (by have := HS7.out.draw.chg.size; simp; omega) (w7.heap.size + 1) (by simp) ?_
         intro gg cap' w8 hown5 hg5 hat hlt2
         have HS8 := Lib.hid ((HS7.out.later (Below.new w7 (.cells #[.int .i64 (1 + (z : Int)), .int .i64 d.kind, .string d.name, .slice SA d.subs.length scap, .string d.val, .int .i64 d.n] 39))).snoc (d := (⟨1 + (z : Int), d⟩ : DoD)) (by rw [HM.out]; omega) (sub_later HSUB7.out (Below.new _ _)) HAP.out HGD.out (by rw [HM.out]; exact hown5) hg5 hpw (by simp))
         clear hown5 hg5 hat)
      | (go_simp
         go_at_call 84
         refine (HKP2.out _ (Below.refl _ _).drew).mono ?_
         rintro e w7 ⟨z, rfl, hz, hd7'⟩
         have hd7 := hd7'.pre (Below.refl _ WN).drew
         have hz2 : z ≤ 2 := by omega
         have hwz : IntKind.i64.wrap (1 + (z : Int)) = 1 + (z : Int) := by rw [IntKind.wrap_i64]; omega
         have HS7 := Lib.hid ((HSN.out.drawn hd7 hpw).mono (show _ ≤ KJ + 18 by omega))
         have HSUB7 := Lib.hid (SubO.drawn HSUB.out HSN.out.draw.src hd7)
         have HQ7 := Lib.hid (Blk.drawn HQ.out hd7 (by omega))
         have j0' := HQ7.out.at 0 rfl
         have j1 := HQ7.out.at 1 rfl
         have j2 := HQ7.out.at 2 rfl
         have j3 := HQ7.out.at 3 rfl
         have j4 := HQ7.out.at 4 rfl
         have HRA : Hid ((w7.alloc (.cells #[.int .i64 (1 + (z : Int)), .int .i64 d.kind, .string d.name, .slice SA d.subs.length scap, .string d.val, .int .i64 d.n] 39)).ownsRow w.heap.size 39 6 (.slice OA m oc) m (Own.flat doK l vs)) := by
          have h := (HS7.out.later (Below.new w7 (.cells #[.int .i64 (1 + (z : Int)), .int .i64 d.kind, .string d.name, .slice SA d.subs.length scap, .string d.val, .int .i64 d.n] 39))).row.row
          rw [HM.out] at h
          exact h
         clear hd7 hd7' hz))
     all_goals
      obtain ⟨W9, hW9⟩ : ∃ W9, W9 = w8 := ⟨_, rfl⟩
      go_wp2_with fail
      go_roundw
      case rel => exact ⟨k - 1, _, _, _, _, by go_num, by rw [List.length_append, HM.out]; simp; omega, HS8.out.mono (by omega)⟩
      case measure => simp [intOf]; omega
  · obtain rfl : k = 0 := by omega
    go_wp2_with fail
    go_ret
    exact ⟨_, l, rfl, ⟨vs, HS.out.row⟩, HS.out.nn, HS.out.good, HS.out.draw.mono (by omega)⟩
end Go.Proofs.YtlicffeicmoifaaGreatDoor
