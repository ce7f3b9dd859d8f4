import Derived.Test.YtlicffeicmoifaaGreatDoorZ34
import Derived.Test.YtlicffeicmoifaaGreatDoorZ13
import Derived.Test.YtlicffeicmoifaaGreatDoorZ22
import Derived.Test.YtlicffeicmoifaaGreatDoorZ19
set_option linter.unusedSimpArgs false
namespace Go.Proofs.YtlicffeicmoifaaGreatDoor
open Go.RowKit
set_option linter.unusedVariables false
def nodeO (w : World) (base : Nat) (c : List Value) (d : NodeD) : Prop := ∃ v, c = [.string d.name, v, .string d.val] ∧ Own.SubO w base v d.subs
def NodesW (w : World) (base : Nat) (v : Value) (fs : List NodeD) : Prop := ∃ cs, w.ownsRow base 89 3 v fs.length cs ∧ CellsG 3 (nodeO w base) fs cs
section
variable {w w' : World} {bs bs' : Nat} {v u : Value} {fs : List NodeD} {c : List Value} {d : NodeD}
theorem nodeO.later (h : nodeO w bs c d) (hb : Below w.heap.size w w') : nodeO w' bs c d := by
 obtain ⟨v, e, hs⟩ := h
 exact ⟨v, e, Own.own_later hs hb⟩
theorem nodeO.base (h : nodeO w bs' c d) (hb : bs ≤ bs') : nodeO w bs c d := by
 obtain ⟨v, e, hs⟩ := h
 exact ⟨v, e, Own.own_base hs hb⟩
theorem nodeO.one (h : nodeO w bs c d) : ∀ u ∈ c, u.oneCell' = true := by
 obtain ⟨v, rfl, hs⟩ := h
 obtain ⟨A, cap, rfl, _, _⟩ := Own.own_slice hs
 intro u hu
 simp only [List.mem_cons, List.not_mem_nil, or_false] at hu
 rcases hu with rfl | rfl | rfl <;> rfl
theorem nodeO.nodeC (h : nodeO w bs c d) : nodeC w w.heap.size c d := by
 obtain ⟨v, rfl, hs⟩ := h
 obtain ⟨A, cap, rfl, hc, hA⟩ := hs.strs
 exact ⟨_, _, _, rfl, rfl, ⟨A, _, cap, rfl, hA, hc⟩, rfl⟩
theorem nodeO.kept {b e size n : Nat} {xs : List Value} (h : nodeO w bs c d) (hr : w.ownsRow b e size u n xs) (he : 9 ≠ e) (hg : w.grownBy w' u.ownBlock) : nodeO w' bs c d := by
 obtain ⟨v, e1, hs⟩ := h
 exact ⟨v, e1, Own.kept_apart hs hg (Own.apart_types hs hr he)⟩
theorem nodeO.setBlk {g tp i : Nat} {cs : Array Value} (h : nodeO w bs c d) (hB : Blk w g tp cs) (h2 : 9 ≠ tp) : nodeO (w.setCell ⟨g, i, none⟩ u) bs c d := by
 obtain ⟨v, e1, hs⟩ := h
 exact ⟨v, e1, Own.SubO.setBlk hs hB h2⟩
theorem nodeO.chg {P : Nat → Prop} (h : nodeO w bs c d) (k : Own.Chg P w w') (hP : ∀ g, P g → ∃ cs, Blk w g 89 cs) : nodeO w' bs c d := by
 obtain ⟨v, e1, hs⟩ := h
 exact ⟨v, e1, Own.own_chg hs k (fun g hg hp => by
  obtain ⟨cs, hb⟩ := hP g hp
  exact Own.own_blk_ne hs hb (by decide) hg)⟩
theorem NodesW.later (h : NodesW w bs v fs) (hb : Below w.heap.size w w') : NodesW w' bs v fs := by
 obtain ⟨cs, h1, h2⟩ := h
 exact ⟨cs, Own.own_later h1 hb, h2.mono fun c d hd => hd.later hb⟩
theorem NodesW.base (h : NodesW w bs' v fs) (hb : bs ≤ bs') : NodesW w bs v fs := by
 obtain ⟨cs, h1, h2⟩ := h
 exact ⟨cs, Own.own_base h1 hb, h2.mono fun c d hd => hd.base hb⟩
theorem NodesW.setBlk {g tp i : Nat} {cs : Array Value} (h : NodesW w bs v fs) (hB : Blk w g tp cs) (h1 : 89 ≠ tp) (h2 : 9 ≠ tp) : NodesW (w.setCell ⟨g, i, none⟩ u) bs v fs := by
 obtain ⟨ds, h3, h4⟩ := h
 exact ⟨ds, h3.kept (Own.grown_set w g i u) (.inr (Own.own_blk_ne h3 hB h1)), h4.mono fun c d hd => hd.setBlk hB h2⟩
theorem NodesW.reads (h : NodesW w bs v fs) : ∃ A cap, v = .slice A fs.length cap ∧ fs.length ≤ cap ∧ Nodes w w.heap.size A fs.length fs := by
 obtain ⟨cs, h1, h2⟩ := h
 exact nodes_of_row h1 rfl (cellsN_iff.2 (h2.mono fun c d hd => hd.nodeC)) (Below.refl _ _)
theorem flat_cells : ∀ (fs : List NodeD) (vs : List Value), vs.length = fs.length → (∀ j, j < fs.length → Own.SubO w bs (vs.getD j (.slice none 0 0)) (fs.getD j default).subs) → CellsG 3 (nodeO w bs) fs (Own.flat nodeK fs vs)
 | [], [], _, _ => rfl
 | d :: r, v :: s, h, hs => ⟨[.string d.name, v, .string d.val], _, rfl, rfl, ⟨v, rfl, by simpa using hs 0 (by simp)⟩, flat_cells r s (by simpa using h) (fun j hj => by simpa using hs (j + 1) (by simpa using hj))⟩
 | [], _ :: _, h, _ => by simp at h
 | _ :: _, [], h, _ => by simp at h
theorem NodesO.W (h : NodesO w bs v fs) : NodesW w bs v fs := by
 obtain ⟨vs, h1⟩ := h
 exact ⟨_, h1.row, flat_cells fs vs h1.len h1.subs⟩
end
def RowF (R : List Value → NodeD → Prop) (base : Nat) (Fr : World → Prop) (fs : List NodeD) (e : Ending) (w' : World) : Prop := ∃ v cs, e = .returned v ∧ w'.ownsRow base 89 3 v fs.length cs ∧ CellsG 3 R fs cs ∧ Fr w'
set_option maxRecDepth 100000 in
set_option maxHeartbeats 4000000 in
theorem DeleteFuncO_any (g : Nat) (lb : Array Value) (p : NodeD → Bool) (v : Value) (fs : List NodeD) (cs : List Value) (base : Nat) (w : World) (R : List Value → NodeD → Prop) (Fr : World → Prop) (hF0 : Fr w) (hF1 : ∀ W W', Fr W → Below W.heap.size W W' → Fr W') (hF2 : ∀ W W', Fr W → W.grownBy W' v.ownBlock → Fr W')
 (hR : ∀ c d, R c d → ∀ W, Fr W → nodeC W W.heap.size c d) (h : w.ownsRow base 89 3 v fs.length cs) (hc : CellsG 3 R fs cs) (hn : fs.length ≤ 1048576)
 (eg : ∀ args w, (callFunc g args).run Tryz.prog w = .ok (.enter g args) w) (hg : ∀ d ∈ fs, ∀ c0 c1 c2 W, Fr W → NodeR W W.heap.size c0 c1 c2 d → Calls Tryz.prog g (#[.agg #[c0, c1, c2]] ++ lb) W fun e w' => e = .returned (.bool (p d)) ∧ Below W.heap.size W w') :
 Calls Tryz.prog 232 #[v, .func (.func g) #[] lb] w (RowF R base Fr (fs.filter fun d => !p d)) := by
 obtain ⟨A, cap, rfl, hcap, hN⟩ := nodes_of_row h rfl (cellsN_iff.2 (hc.mono (fun c d hr => hR c d hr w hF0))) (Below.refl _ _)
 obtain ⟨_, _, e0, _, hcm, hA⟩ := Own.own_slice h
 injection e0 with e1 _ e2
 subst e1 e2
 have HK := Lib.hid (IndexFuncNode_any g lb p A fs.length cap fs w hN hn eg (fun d hd c0 c1 c2 W hW hr => hg d hd c0 c1 c2 W (hF1 _ _ hF0 hW) hr))
 have HX := Lib.hid (idxF_cases p fs 0)
 have HO0 := Lib.hid h
 have HC := Lib.hid hc
 have HB0 : Hid (Fr w) := hF0
 have HF1 := Lib.hid hF1
 have HF2 := Lib.hid hF2
 have Hg := Lib.hid hg
 clear h hc hF0 hF1 hF2 hg hN
 rcases HX.out with ⟨e1, e2⟩ | ⟨k0, hk0, e1, e2⟩
 · rw [e1] at HK
   rw [e2]
   clear e1 e2 HX
   go_enter Tryz.func232, Tryz.ntmps232
   go_wp2_with fail
   refine HK.out.mono ?_
   rintro e w1 ⟨rfl, hb1⟩
   have HB1 := Lib.hid hb1
   clear hb1
   go_wp2_with fail
   go_ret
   exact ⟨_, cs, rfl, Own.own_later HO0.out HB1.out, HC.out, HF1.out _ _ HB0.out HB1.out⟩
 · rw [e1, Nat.zero_add] at HK
   obtain ⟨g0, rfl, hgl, hgb⟩ := hA (by omega)
   have HS := Lib.hid (KeptG.start (p := p) HC.out hk0 e2)
   have HL : Hid (cs.length = fs.length * 3) := HC.out.len
   clear e1 e2 HX hA
   generalize hnn : fs.length = n at *
   have Hlen := Lib.hid hnn
   clear hnn
   have hne1 : ((k0 : Int) == -1) = false := beq_eq_false_iff_ne.2 (by omega)
   go_enter Tryz.func232, Tryz.ntmps232
   go_wp2_with fail
   refine HK.out.mono ?_
   rintro e w1 ⟨rfl, hb1⟩
   have HO1 := Lib.hid (Own.own_later HO0.out hb1)
   have HB1 := Lib.hid (HF1.out _ _ HB0.out hb1)
   clear hb1
   go_wp2_with fail
   go_loopw [5, 6] (fun i j wr => ∃ (ii jj : Nat) (ys : List Value), i = .int .i64 ii ∧ j = .int .i64 jj ∧ wr.ownsRow base 89 3 (.slice (some ⟨g0, 0, none⟩) n cap) n ys ∧ Hid (KeptG 3 R p fs cs ii jj ys) ∧ Fr wr) (fun _ j _ => n - (intOf j).toNat)
   case atStart => exact ⟨k0, k0 + 1, cs, rfl, by go_num, HO1.out, HS.out, HB1.out⟩
   case round =>
    obtain ⟨i, j, ys, rfl, rfl, ho, hK, hb⟩ := hrel
    have HO := Lib.hid ho
    have HB := Lib.hid hb
    have hij := hK.out.lt
    have hjn : j ≤ n := by have := hK.out.le; rw [Hlen.out] at this; exact this
    have hyl : ys.length = n * 3 := ho.1
    clear ho hb
    by_cases hlt : j < n
    · have hl : j < fs.length := by rw [Hlen.out]; exact hlt
      obtain ⟨c, _, hRd, hq⟩ := CellsG.at j HC.out hl
      obtain ⟨c0, c1, c2, rfl, hd⟩ := hR _ _ hRd wr HB.out
      have q0 : cs[j * 3]? = some c0 := hq 0 (by omega)
      have q1 : cs[j * 3 + 1]? = some c1 := hq 1 (by omega)
      have q2 : cs[j * 3 + 2]? = some c2 := hq 2 (by omega)
      clear hq
      have x0 := Own.own_cell HO.out (j * 3) c0 (by omega) ((hK.out.cell 0).trans q0)
      have x1 := Own.own_cell HO.out (j * 3 + 1) c1 (by omega) ((hK.out.cell 1).trans q1)
      have x2 := Own.own_cell HO.out (j * 3 + 2) c2 (by omega) ((hK.out.cell 2).trans q2)
      have HP := Lib.hid (fun o => Hg.out (fs.getD j default) (getD_memD fs j hl) c0 c1 c2 (wr.alloc o) (HF1.out _ _ HB.out (Below.new _ _)) (hd.later (Below.new _ _)))
      have HKeep := Lib.hid (fun hp => hK.out.keep (by rw [Hlen.out]; exact HL.out) hl hp hRd rfl)
      clear hRd
      have HSkip := Lib.hid (fun hp => hK.out.skip hl hp)
      clear q0 q1 q2 hl
      generalize fs.getD j default = d at *
      generalize hx : p d = x at *
      clear hx
      obtain ⟨rfl, ⟨A1, n1, p1, rfl, _, _⟩, rfl⟩ := hd
      generalize d.name = nm at *
      generalize d.val = vl at *
      go_wp2_with fail
      refine (HP.out _).mono ?_
      rintro e w2 ⟨rfl, hb2⟩
      have b0 := box_at hb2 0
      have b1 := box_at hb2 1
      have b2 := box_at hb2 2
      simp at b0 b1 b2
      have hO2 := Own.own_later (Own.own_later HO.out (Below.new wr _)) hb2
      have HB2 := Lib.hid (HF1.out _ _ HB.out ((Below.new wr _).later hb2))
      have HO2 := Lib.hid hO2
      clear x0 x1 x2
      cases x
      · obtain ⟨cur, hblk⟩ := Own.own_blk hO2
        have t0 := Own.own_cell hO2 (i * 3) _ (by omega) (List.getElem?_eq_getElem (show i * 3 < ys.length by omega))
        have t1 := Own.own_cell hO2 (i * 3 + 1) _ (by omega) (List.getElem?_eq_getElem (show i * 3 + 1 < ys.length by omega))
        have t2 := Own.own_cell hO2 (i * 3 + 2) _ (by omega) (List.getElem?_eq_getElem (show i * 3 + 2 < ys.length by omega))
        have f0 := hblk.frozen (i * 3)
        have f1 := hblk.frozen (i * 3 + 1)
        have f2 := hblk.frozen (i * 3 + 2)
        have s1 := hO2.stored (i * 3) (.string nm)
        have s2 := s1.1.stored (i * 3 + 1) (.slice A1 n1 p1)
        have s3 := s2.1.stored (i * 3 + 2) (.string vl)
        have HO3 := Lib.hid s3.1
        rw [set3_put ys i _ _ _ (by omega)] at HO3
        have HB3 := Lib.hid (HF2.out _ _ (HF2.out _ _ (HF2.out _ _ HB2.out s1.2) s2.2) s3.2)
        have HK3 := Lib.hid (HKeep.out rfl)
        clear hb2 hblk s1 s2 s3 hO2
        generalize ys[i * 3] = o0 at *
        generalize ys[i * 3 + 1] = o1 at *
        generalize ys[i * 3 + 2] = o2 at *
        have hin : i < n := by omega
        go_wp2_with fail
        go_roundw
        case rel => exact ⟨i + 1, j + 1, _, by go_num, by go_num, HO3.out, HK3.out, HB3.out⟩
        case measure => simp [intOf]; omega
      · have HK3 := Lib.hid (HSkip.out rfl)
        clear hb2 hO2
        go_wp2_with fail
        go_roundw
        case rel => exact ⟨i, j + 1, ys, rfl, by go_num, HO2.out, HK3.out, HB2.out⟩
        case measure => simp [intOf]; omega
    · obtain rfl : j = n := by omega
      have hin : i < j := hij
      obtain ⟨w2, hcl, ho2, hg2⟩ := run_clear_own (P := Tryz.prog) (i := i) HO.out 24 Tryz.underlying24 _ zeroNode rfl (fun u hu => by have := zero_cells_mem hu; simp [Value.cells] at this; rcases this with rfl | rfl | rfl <;> rfl) hin (cap - i)
      have HO2 := Lib.hid ho2
      have HB2 := Lib.hid (HF2.out _ _ HB.out hg2)
      have HE : Hid ((fs.filter fun d => !p d).length = i ∧ CellsG 3 R (fs.filter fun d => !p d) (ys.take (i * 3))) := by
       have hk := hK.out
       have hl := Hlen.out
       subst hl
       exact hk.done
      have hcn : ¬ cap = i := by omega
      clear ho2 hg2
      go_wp2_with (simp only [hcl])
      go_ret
      exact ⟨_, _, rfl, by rw [HE.out.1]; exact HO2.out, HE.out.2, HB2.out⟩
theorem DeleteFuncW_any (g : Nat) (lb : Array Value) (p : NodeD → Bool) (v : Value) (fs : List NodeD) (base : Nat) (w : World) (h : NodesW w base v fs) (hn : fs.length ≤ 1048576)
 (eg : ∀ args w, (callFunc g args).run Tryz.prog w = .ok (.enter g args) w) (hg : ∀ d ∈ fs, ∀ c0 c1 c2 W, Own.Chg (fun g => v.ownBlock = some g) w W → NodeR W W.heap.size c0 c1 c2 d → Calls Tryz.prog g (#[.agg #[c0, c1, c2]] ++ lb) W fun e w' => e = .returned (.bool (p d)) ∧ Below W.heap.size W w') :
 Calls Tryz.prog 232 #[v, .func (.func g) #[] lb] w fun e w' => ∃ v', e = .returned v' ∧ NodesW w' base v' (fs.filter fun d => !p d) ∧ Own.Chg (fun g => v.ownBlock = some g) w w' := by
 obtain ⟨cs, h1, h2⟩ := h
 have hP : ∀ g, v.ownBlock = some g → ∃ cs, Blk w g 89 cs := fun g hg => by
  obtain ⟨A, cap, rfl, _, _, _⟩ := Own.own_slice h1
  rcases h1.2 with ⟨e, _⟩ | ⟨g', cap', cur, e, _, hh, _⟩
  · rw [e] at hg; cases hg
  · rw [e] at hg
    have : g' = g := by simpa [Value.ownBlock] using hg
    subst this
    exact ⟨cur, hh⟩
 refine (DeleteFuncO_any g lb p v fs cs base w (nodeO w base) (fun W => Own.Chg (fun g => v.ownBlock = some g) w W) (Own.Chg.refl _ _) (fun W W' hW hb => hW.trans (Own.Chg.of_below hb)) (fun W W' hW hg => hW.trans (Own.Chg.of_grown hg (fun g e => e))) (fun c d hd W hW => (hd.chg hW hP).nodeC) h1 h2 hn eg hg).mono ?_
 rintro e w' ⟨v', ds, rfl, h3, h4, h5⟩
 exact ⟨v', rfl, ⟨ds, h3, h4.mono fun c d hd => hd.chg h5 hP⟩, h5⟩
end Go.Proofs.YtlicffeicmoifaaGreatDoor
namespace Go.Proofs.YtlicffeicmoifaaGreatDoor
open Go.RowKit
set_option linter.unusedVariables false
def offRow (S : Option Addr) (v : Value) : Prop := ∀ a, S = some a → v.ownBlock ≠ some a.block
theorem Strs.chg {P : Nat → Prop} {w w' : World} {S : Option Addr} {m : Nat} {ss : List ByteArray} (h : Strs w w.heap.size S m ss) (k : Own.Chg P w w') (hP : ∀ a, S = some a → ¬ P a.block) : Strs w' w'.heap.size S m ss :=
 ⟨h.1, fun hm => by
   obtain ⟨b, o, e, hb, hc⟩ := h.2 hm
   have hn := hP _ e
   refine ⟨b, o, e, Nat.lt_of_lt_of_le hb k.size, fun j hj => ?_⟩
   rw [← hc j hj]
   unfold World.cell?
   dsimp only
   rw [k.block b hb hn]⟩
theorem NodesW.lt {w : World} {bs : Nat} {v : Value} {fs : List NodeD} (h : NodesW w bs v fs) (g : Nat) (hg : v.ownBlock = some g) : bs ≤ g ∧ g < w.heap.size := by
 obtain ⟨cs, h1, _⟩ := h
 exact h1.lt g hg
theorem NodesW.off {w : World} {bs g t : Nat} {v : Value} {fs : List NodeD} {cs : Array Value} (h : NodesW w bs v fs) (hB : Blk w g t cs) (ht : 89 ≠ t) : v.ownBlock ≠ some g := by
 obtain ⟨ds, h1, _⟩ := h
 exact Own.own_blk_ne h1 hB ht
set_option maxRecDepth 100000 in
set_option maxHeartbeats 1000000 in
theorem kill1_any (p q : Nat) (c0 c1 c2 : Value) (S : Option Addr) (m cap : Nat) (d : NodeD) (nm : ByteArray) (ss : List ByteArray) (w : World) (h : NodeR w w.heap.size c0 c1 c2 d) (hp : w.cell? ⟨p, 0, none⟩ = some (.string nm)) (hq : w.cell? ⟨q, 0, none⟩ = some (.slice S m cap)) (hpz : p < w.heap.size) (hqz : q < w.heap.size) (hS : Strs w w.heap.size S m ss) (hm : m ≤ 1048576) :
 Calls Tryz.prog 233 (#[.agg #[c0, c1, c2]] ++ #[.pointer (some ⟨p, 0, none⟩), .pointer (some ⟨q, 0, none⟩)]) w fun e w' => e = .returned (.bool (inN nm ss d)) ∧ Below w.heap.size w w' := by
 have HK := Lib.hid (fun W (hW : Below w.heap.size w W) => atOrBelow_any c0 c1 c2 S m cap d nm ss W (h.later hW) (hS.later hW) hm)
 obtain ⟨rfl, ⟨A1, n1, p1, rfl, _, _⟩, rfl⟩ := h
 clear hS
 generalize inN nm ss d = R at *
 go_enter Tryz.func233, Tryz.ntmps233
 go_wp2_with fail
 refine (HK.out _ (Below.new _ _)).mono ?_
 rintro e w1 ⟨rfl, hb1⟩
 have HB := Lib.hid ((Below.new _ _).later hb1)
 clear hb1
 go_wp2_with fail
 go_ret
 exact ⟨rfl, HB.out⟩
def InPost (b base : Nat) (v : Value) (r : List NodeD) (w : World) (w' : World) : Prop := ∃ v', Blk w' b 26 #[v'] ∧ NodesW w' base v' r ∧ Own.Chg (fun g => g = b ∨ v.ownBlock = some g) w w'
set_option maxRecDepth 100000 in
set_option maxHeartbeats 4000000 in
theorem kill_any (b base : Nat) (v : Value) (S : Option Addr) (m q : Nat) (fs : List NodeD) (nm : ByteArray) (ss : List ByteArray) (w : World) (hB : Blk w b 26 #[v]) (hN : NodesW w base v fs) (hn : fs.length ≤ 1048576) (hS : Strs w w.heap.size S m ss) (hm : m ≤ 1048576) (hoff : offRow S v) :
 Calls Tryz.prog 161 #[.pointer (some ⟨b, 0, none⟩), .string nm, .slice S m q] w fun e w' => e = .returned (.tuple #[]) ∧ InPost b base v (killB fs nm ss) w w' := by
 have eg : ∀ args w, (callFunc 233 args).run Tryz.prog w = .ok (.enter 233 args) w := enters_of Tryz.func233 (by kernel_rfl) rfl
 obtain ⟨WB, hWB⟩ : ∃ WB, WB = (w.alloc (.cells #[.string nm] 9)).alloc (.cells #[.slice S m q] 35) := ⟨_, rfl⟩
 have HB0 : Hid (Below w.heap.size w WB) := by subst hWB; exact (Below.new _ _).later (Below.new _ _)
 have HP0 : Hid (Blk WB w.heap.size 9 #[.string nm]) := by subst hWB; exact heap_two0 _ _ _
 have HQ0 : Hid (Blk WB (w.heap.size + 1) 35 #[.slice S m q]) := by subst hWB; exact heap_two1 _ _ _
 have HT0 := Lib.hid (hB.later HB0.out hB.lt)
 have HN0 := Lib.hid (hN.later HB0.out)
 have hS0 := hS.later HB0.out
 have hvb := hN.off hB (by decide)
 have HK := Lib.hid (DeleteFuncW_any 233 #[.pointer (some ⟨w.heap.size, 0, none⟩), .pointer (some ⟨w.heap.size + 1, 0, none⟩)] (inN nm ss) v fs base WB HN0.out hn eg (fun d hd c0 c1 c2 W hW hr => by
  have hp := Own.Blk.chg HP0.out hW (fun hg => by have := (hN.lt _ hg).2; omega)
  have hq := Own.Blk.chg HQ0.out hW (fun hg => by have := (hN.lt _ hg).2; omega)
  exact kill1_any w.heap.size (w.heap.size + 1) c0 c1 c2 S m q d nm ss W hr (by simpa using hp.cell 0) (by simpa using hq.cell 0) hp.lt hq.lt (hS0.chg hW (fun a ha hg => hoff a ha hg)) hm))
 have HVB := Lib.hid hvb
 have HFR : Hid (∀ w1 v', Own.Chg (fun g => v.ownBlock = some g) WB w1 → NodesW w1 base v' (fs.filter fun d => !inN nm ss d) → InPost b base v (killB fs nm ss) w (w1.setCell ⟨b, 0, none⟩ v')) := fun w1 v' hc hn' => by
  have hb1 := Own.Blk.chg HT0.out hc HVB.out
  refine ⟨v', hb1.set_ 0 v', hn'.setBlk hb1 (by decide) (by decide), ?_⟩
  exact ((Own.Chg.of_below HB0.out).trans (hc.mono fun g hg => .inr hg)).set (.inl rfl) 0 v'
 obtain ⟨A, cap, rfl, _, _⟩ := hN.reads
 have t0 := hB.cell 0
 have tz := hB.lt
 simp at t0
 clear hS hS0 hN hB eg hvb hoff HP0 HQ0
 generalize InPost b base (.slice A fs.length cap) (killB fs nm ss) w = IP at *
 go_enter Tryz.func161, Tryz.ntmps161
 go_wp2_with fail
 rw [← hWB]
 clear hWB
 refine HK.out.mono ?_
 rintro e w1 ⟨v', rfl, hn', hc⟩
 have HC := Lib.hid (HFR.out w1 v' hc hn')
 have HT1 := Lib.hid (Own.Blk.chg HT0.out hc HVB.out)
 obtain ⟨A', cap', rfl, _, _⟩ := hn'.reads
 have t1 := HT1.out.cell 0
 have f1 := HT1.out.frozen 0
 have z1 := HT1.out.lt
 simp at t1
 clear hc hn' t0
 go_wp2_with fail
 go_end0
 exact ⟨rfl, HC.out⟩
end Go.Proofs.YtlicffeicmoifaaGreatDoor
