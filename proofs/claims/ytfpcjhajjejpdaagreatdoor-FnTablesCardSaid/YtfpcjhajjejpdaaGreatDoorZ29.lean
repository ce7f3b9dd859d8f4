/-
  Nodes of the program: slices.Clone and slices.DeleteFunc at nodes. Rows of the program: what Before, CondTrue, the cell of a column and its closures compute. Plain facts for RunQuery; rows of the call's own read as rows. Plans of the reference: the row with a key. What a query answers, plainly: rows of the table, each found under its key, that meet the conditions, in order, no more than the limit.
-/
import Derived.Test.YtfpcjhajjejpdaaGreatDoorZ16
import Derived.Test.YtfpcjhajjejpdaaGreatDoorZ21
import Derived.Test.YtfpcjhajjejpdaaGreatDoorZ15
import Derived.Test.YtfpcjhajjejpdaaGreatDoorZ17
import Derived.Test.YtfpcjhajjejpdaaGreatDoorZ20
import Derived.Test.YtfpcjhajjejpdaaGreatDoorZ28
import Derived.Test.YtfpcjhajjejpdaaGreatDoorZ00
import Derived.Test.YtfpcjhajjejpdaaGreatDoorZ19
import Derived.Deep.RegionHeld3
namespace Go.Proofs.YtfpcjhajjejpdaaGreatDoor
open Go.RowKit

theorem zero_cells_mem {zero : Array Value} {m : Nat} {u : Value} (h : u ∈ (Builtin.zeroCells zero m).toList) : u ∈ zero.toList := by
  unfold Builtin.zeroCells at h
  simp only [Array.toList_map, List.mem_map] at h
  obtain ⟨i, hi, rfl⟩ := h
  have hi' : i < m * zero.size := by simpa using hi
  have hz : 0 < zero.size := by
    rcases Nat.eq_zero_or_pos zero.size with e | e
    · rw [e] at hi'; omega
    · exact e
  rw [getElem!_pos zero _ (Nat.mod_lt _ hz)]
  simp
theorem zeroNode (w : World) : (zeroValue 83).run Tryz.prog w = .ok (.agg #[.string .empty, .slice none 0 0, .string .empty]) w := by kernel_rfl

/-- A row of the call's own whose cells read as nodes of an earlier world. -/
def RowN (R : List Value → NodeD → Prop) (base : Nat) (w : World) (fs : List NodeD) (e : Ending) (w' : World) : Prop := ∃ v cs, e = .returned v ∧ w'.ownsRow base 83 3 v fs.length cs ∧ CellsG 3 R fs cs ∧ Below base w w'
set_option maxRecDepth 100000 in
set_option maxHeartbeats 1000000 in
theorem CloneN_any (w0 : World) (A : Option Addr) (n c : Nat) (fs : List NodeD) (w : World) (h : Nodes w0 w0.heap.size A n fs) (hb : Below w0.heap.size w0 w) (hn : n ≤ 1048576) :
    Calls Tryz.prog 135 #[.slice A n c] w (RowN (nodeC w0 w0.heap.size) w.heap.size w fs) := by
  obtain ⟨i0, hi, hz0, hz1, hz2⟩ := info_parts infoNodeD
  have hlen := h.1
  obtain ⟨cs, hc, hr⟩ := nodes_reads h
  have Hh := Lib.hid ((hr.below hb).more hb.size)
  have HC := Lib.hid hc
  have Hlen := Lib.hid hlen
  have H1 := Lib.hid (hc.all nodeC_one)
  cases A with
  | none =>
    have hn0 : n = 0 := by
      rcases Nat.eq_zero_or_pos n with h0 | h0
      · exact h0
      · obtain ⟨b, o, e, _⟩ := h.2 h0
        cases e
    have hf0 : Hid (fs.length = 0 ∧ cs = []) := ⟨by rw [hlen, hn0], List.eq_nil_of_length_eq_zero (by rw [hc.len, hlen, hn0])⟩
    clear h hc hr hlen hb
    subst hn0
    have hnil := fun (W : World) => Lib.run_eql_slice_nil (P := Tryz.prog) W 24 83 none 0 c 0 0 Tryz.underlying24
    go_enter Tryz.func135, Tryz.ntmps135
    go_wp2_with fail
    go_ret
    refine ⟨_, cs, rfl, ?_, HC.out, Below.refl _ _⟩
    rw [hf0.out.1, hf0.out.2]
    exact World.ownsRow_nil _ _ _ _
  | some ad =>
    clear h hc hr hlen hb
    have hnil := fun (W : World) => Lib.run_eql_slice_nil (P := Tryz.prog) W 24 83 (some ad) n c 0 0 Tryz.underlying24
    go_enter Tryz.func135, Tryz.ntmps135
    go_wp2_with (at_builtin; refine wpList_append_any _ rfl (.tmp 5) (.tmp 6) 24 rfl w.heap.size 83 i0 _ 3 56 Tryz.underlying24 hi hz0 hz1 hz2 rfl (by decide) _ 0 [] rfl (World.ownsRow_lit _ _ 0 (Nat.le_refl _) (by omega) rfl) w.heap.size (some ad) n c cs rfl (Hh.out.alloc (Nat.le_refl _) _) H1.out ?c1 ?c2 ?c3 ?_)
    case c1 => unfold maxLen; omega
    case c2 => omega
    case c3 => simp
    intro v w1 ho hg _
    have HB := Lib.hid (below_own (w0 := w) (size := 3) (n := 0) (xs := []) (Below.new _ _) (World.ownsRow_lit _ _ 0 (Nat.le_refl _) (by omega) rfl) (Nat.le_refl _) hg)
    have HO := Lib.hid ho
    clear ho hg
    go_wp2_with fail
    go_ret
    exact ⟨_, cs, rfl, by have hx := HO.out; simpa [Hlen.out] using hx, HC.out, HB.out⟩

set_option maxRecDepth 100000 in
set_option maxHeartbeats 4000000 in
theorem DeleteFuncN_any (g : Nat) (lb : Array Value) (p : NodeD → Bool) (v : Value) (fs : List NodeD) (cs : List Value) (w0 w : World) (R : List Value → NodeD → Prop) (hR : ∀ c d, R c d → nodeC w0 w0.heap.size c d) (h : w.ownsRow w0.heap.size 83 3 v fs.length cs) (hc : CellsG 3 R fs cs) (hb : Below w0.heap.size w0 w) (hn : fs.length ≤ 1048576)
    (eg : ∀ args w, (callFunc g args).run Tryz.prog w = .ok (.enter g args) w) (hg : PredNode g lb p fs w0) :
    Calls Tryz.prog 66 #[v, .func (.func g) #[] lb] w (RowN R w0.heap.size w0 (fs.filter fun d => !p d)) := by
  obtain ⟨A, cap, rfl, hcap, hN⟩ := nodes_of_row h rfl (cellsN_iff.2 (hc.mono hR)) hb
  obtain ⟨_, _, e0, _, hcm, hA⟩ := Own.own_slice h
  injection e0 with e1 _ e2
  subst e1 e2
  have HK := Lib.hid (IndexFuncNode_any g lb p A fs.length cap fs w hN hn eg (fun d hd c0 c1 c2 W hW hr => hg d hd c0 c1 c2 W (hb.trans (hW.mono hb.size)) hr))
  have HX := Lib.hid (idxF_cases p fs 0)
  have HO0 := Lib.hid h
  have HC := Lib.hid hc
  have HB0 := Lib.hid hb
  have Hg := Lib.hid hg
  clear h hc hb hg hN
  rcases HX.out with ⟨e1, e2⟩ | ⟨k0, hk0, e1, e2⟩
  · rw [e1] at HK
    rw [e2]
    clear e1 e2 HX
    go_enter Tryz.func66, Tryz.ntmps66
    go_wp2_with fail
    refine HK.out.mono ?_
    rintro e w1 ⟨rfl, hb1⟩
    have HB1 := Lib.hid hb1
    clear hb1
    go_wp2_with fail
    go_ret
    exact ⟨_, cs, rfl, Own.own_later HO0.out HB1.out, HC.out, HB0.out.later HB1.out⟩
  · rw [e1, Nat.zero_add] at HK
    obtain ⟨g0, rfl, hgl, hgb⟩ := hA (by omega)
    have HS := Lib.hid (KeptG.start (p := p) HC.out hk0 e2)
    have HL : Hid (cs.length = fs.length * 3) := HC.out.len
    clear e1 e2 HX hA
    generalize hnn : fs.length = n at *
    have Hlen := Lib.hid hnn
    clear hnn
    have hne1 : ((k0 : Int) == -1) = false := beq_eq_false_iff_ne.2 (by omega)
    go_enter Tryz.func66, Tryz.ntmps66
    go_wp2_with fail
    refine HK.out.mono ?_
    rintro e w1 ⟨rfl, hb1⟩
    have HO1 := Lib.hid (Own.own_later HO0.out hb1)
    have HB1 := Lib.hid (HB0.out.later hb1)
    clear hb1
    go_wp2_with fail
    go_loopw [5, 6] (fun i j wr => ∃ (ii jj : Nat) (ys : List Value), i = .int .i64 ii ∧ j = .int .i64 jj ∧ wr.ownsRow w0.heap.size 83 3 (.slice (some ⟨g0, 0, none⟩) n cap) n ys ∧ Hid (KeptG 3 R p fs cs ii jj ys) ∧ Below w0.heap.size w0 wr) (fun _ j _ => n - (intOf j).toNat)
    case atStart => exact ⟨k0, k0 + 1, cs, rfl, by go_num, HO1.out, HS.out, HB1.out⟩
    case round =>
      obtain ⟨i, j, ys, rfl, rfl, ho, hK, hb⟩ := hrel
      have HO := Lib.hid ho
      have HB := Lib.hid hb
      have hij := hK.out.lt
      have hjn : j ≤ n := by have := hK.out.le; rw [Hlen.out] at this; exact this
      have hyl : ys.length = n * 3 := ho.1
      clear ho hb
      by_cases hlt : j < n
      · have hl : j < fs.length := by rw [Hlen.out]; exact hlt
        obtain ⟨c, _, hRd, hq⟩ := CellsG.at j HC.out hl
        obtain ⟨c0, c1, c2, rfl, hd⟩ := hR _ _ hRd
        have q0 : cs[j * 3]? = some c0 := hq 0 (by omega)
        have q1 : cs[j * 3 + 1]? = some c1 := hq 1 (by omega)
        have q2 : cs[j * 3 + 2]? = some c2 := hq 2 (by omega)
        clear hq
        have x0 := Own.own_cell HO.out (j * 3) c0 (by omega) ((hK.out.cell 0).trans q0)
        have x1 := Own.own_cell HO.out (j * 3 + 1) c1 (by omega) ((hK.out.cell 1).trans q1)
        have x2 := Own.own_cell HO.out (j * 3 + 2) c2 (by omega) ((hK.out.cell 2).trans q2)
        have HP := Lib.hid (fun o => Hg.out (fs.getD j default) (getD_memD fs j hl) c0 c1 c2 (wr.alloc o) (HB.out.later (Below.new _ _)) (hd.later (HB.out.later (Below.new _ _))))
        have HKeep := Lib.hid (fun hp => hK.out.keep (by rw [Hlen.out]; exact HL.out) hl hp hRd rfl)
        clear hRd
        have HSkip := Lib.hid (fun hp => hK.out.skip hl hp)
        clear q0 q1 q2 hl
        generalize fs.getD j default = d at *
        generalize hx : p d = x at *
        clear hx
        obtain ⟨rfl, ⟨A1, n1, p1, rfl, _, _⟩, rfl⟩ := hd
        generalize d.name = nm at *
        generalize d.val = vl at *
        go_wp2_with fail
        refine (HP.out _).mono ?_
        rintro e w2 ⟨rfl, hb2⟩
        have b0 := box_at hb2 0
        have b1 := box_at hb2 1
        have b2 := box_at hb2 2
        simp at b0 b1 b2
        have hO2 := Own.own_later (Own.own_later HO.out (Below.new wr _)) hb2
        have HB2 := Lib.hid (HB.out.later ((Below.new wr _).later hb2))
        have HO2 := Lib.hid hO2
        clear x0 x1 x2
        cases x
        · obtain ⟨cur, hblk⟩ := Own.own_blk hO2
          have t0 := Own.own_cell hO2 (i * 3) _ (by omega) (List.getElem?_eq_getElem (show i * 3 < ys.length by omega))
          have t1 := Own.own_cell hO2 (i * 3 + 1) _ (by omega) (List.getElem?_eq_getElem (show i * 3 + 1 < ys.length by omega))
          have t2 := Own.own_cell hO2 (i * 3 + 2) _ (by omega) (List.getElem?_eq_getElem (show i * 3 + 2 < ys.length by omega))
          have f0 := hblk.frozen (i * 3)
          have f1 := hblk.frozen (i * 3 + 1)
          have f2 := hblk.frozen (i * 3 + 2)
          have s1 := hO2.stored (i * 3) (.string nm)
          have s2 := s1.1.stored (i * 3 + 1) (.slice A1 n1 p1)
          have s3 := s2.1.stored (i * 3 + 2) (.string vl)
          have HO3 := Lib.hid s3.1
          rw [set3_put ys i _ _ _ (by omega)] at HO3
          have HB3 := Lib.hid (below_own (below_own (below_own HB2.out hO2 (Nat.le_refl _) s1.2) s1.1 (Nat.le_refl _) s2.2) s2.1 (Nat.le_refl _) s3.2)
          have HK3 := Lib.hid (HKeep.out rfl)
          clear hb2 hblk s1 s2 s3 hO2
          generalize ys[i * 3] = o0 at *
          generalize ys[i * 3 + 1] = o1 at *
          generalize ys[i * 3 + 2] = o2 at *
          have hin : i < n := by omega
          go_wp2_with fail
          go_roundw
          case rel => exact ⟨i + 1, j + 1, _, by go_num, by go_num, HO3.out, HK3.out, HB3.out⟩
          case measure => simp [intOf]; omega
        · have HK3 := Lib.hid (HSkip.out rfl)
          clear hb2 hO2
          go_wp2_with fail
          go_roundw
          case rel => exact ⟨i, j + 1, ys, rfl, by go_num, HO2.out, HK3.out, HB2.out⟩
          case measure => simp [intOf]; omega
      · obtain rfl : j = n := by omega
        have hin : i < j := hij
        obtain ⟨w2, hcl, ho2, hg2⟩ := run_clear_own (P := Tryz.prog) (i := i) HO.out 24 Tryz.underlying24 _ zeroNode rfl (fun u hu => by have := zero_cells_mem hu; simp [Value.cells] at this; rcases this with rfl | rfl | rfl <;> rfl) hin (cap - i)
        have HO2 := Lib.hid ho2
        have HB2 := Lib.hid (below_own HB.out HO.out (Nat.le_refl _) hg2)
        have HE : Hid ((fs.filter fun d => !p d).length = i ∧ CellsG 3 R (fs.filter fun d => !p d) (ys.take (i * 3))) := by
          have hk := hK.out
          have hl := Hlen.out
          subst hl
          exact hk.done
        have hcn : ¬ cap = i := by omega
        clear ho2 hg2
        go_wp2_with (simp only [hcl])
        go_ret
        exact ⟨_, _, rfl, by rw [HE.out.1]; exact HO2.out, HE.out.2, HB2.out⟩
end Go.Proofs.YtfpcjhajjejpdaaGreatDoor
namespace Go.Proofs.YtfpcjhajjejpdaaGreatDoor
open Go.RowKit

set_option maxRecDepth 100000 in
set_option maxHeartbeats 2000000 in
theorem cell_any (b0 b1 b2 b3 r0 : Value) (b : TableD) (row : List ByteArray) (col : ByteArray) (j : Nat) (w : World) (hb : TableR w w.heap.size b0 b1 b2 b3 b) (hr : RowR w w.heap.size r0 row) (hbs : b.small) (hp : placeI b.cols col = j) (hj : j < row.length) :
    Calls Tryz.prog 85 #[.agg #[b0, b1, b2, b3], .agg #[r0], .string col] w fun e w' => e = .returned (.string (row.getD j ByteArray.empty)) ∧ Below w.heap.size w w' := by
  obtain ⟨rfl, rfl, ⟨A2, n2, p2, rfl, s2, k2⟩, ⟨A3, n3, p3, rfl, s3, k3⟩⟩ := hb
  obtain ⟨R0, rn, rc, rfl, hS, hrc⟩ := hr
  have hn2 : n2 ≤ 1048576 := by rw [← s2.1]; exact hbs.2.2.1.1
  have hjn : j < rn := by rw [← hS.1]; exact hj
  have HKP := Lib.hid (fun W (hW : Below w.heap.size w W) => (IndexS_any A2 n2 p2 b.cols col W (s2.later hW) hn2).mono (R' := fun e w' => e = .returned (.int .i64 (j : Nat)) ∧ Below W.heap.size W w') (fun e w' ⟨h1, h2⟩ => ⟨by rw [h1, hp], h2 ▸ Below.refl _ _⟩))
  obtain ⟨rb, ro, rfl, hrb, hcell⟩ := hS.2 (by omega)
  have hck := hcell j hjn
  have hjz : (j : Int) < (rn : Int) := by omega
  have HB0 := Lib.hid ((Below.new w (.cells #[.string b.name, .string b.glob, .slice A2 n2 p2, .slice A3 n3 p3] 29)).later (Below.new _ (.cells #[.slice (some ⟨rb, ro, none⟩) rn rc] 40)))
  obtain ⟨WB, hWB⟩ : ∃ WB, WB = (w.alloc (.cells #[.string b.name, .string b.glob, .slice A2 n2 p2, .slice A3 n3 p3] 29)).alloc (.cells #[.slice (some ⟨rb, ro, none⟩) rn rc] 40) := ⟨_, rfl⟩
  have HX0 : Hid (Blk WB w.heap.size 29 #[.string b.name, .string b.glob, .slice A2 n2 p2, .slice A3 n3 p3]) := by subst hWB; exact heap_two0 _ _ _
  have HX1 : Hid (Blk WB (w.heap.size + 1) 40 #[.slice (some ⟨rb, ro, none⟩) rn rc]) := by subst hWB; exact heap_two1 _ _ _
  have HBB : Hid (Below w.heap.size w WB) := by subst hWB; exact HB0.out
  have HRd : Hid (∀ W', Below WB.heap.size WB W' → (W'.cell? ⟨w.heap.size, 2, none⟩ = some (.slice A2 n2 p2) ∧ W'.cell? ⟨w.heap.size + 1, 0, none⟩ = some (.slice (some ⟨rb, ro, none⟩) rn rc) ∧ W'.cell? ⟨rb, ro + j, none⟩ = some (.string (row.getD j ByteArray.empty)))) := fun W' hW => ⟨((HX0.out.later hW HX0.out.lt).cell 2).trans rfl, ((HX1.out.later hW HX1.out.lt).cell 0).trans rfl, ((HBB.out.later hW).cell (p := ⟨rb, ro + j, none⟩) hrb).trans hck⟩
  clear s2 s3 hS hbs hcell hck
  generalize row.getD j ByteArray.empty = s at *
  go_enter Tryz.func85, Tryz.ntmps85
  go_wp2_with fail
  rw [← hWB]
  clear hWB HB0
  obtain ⟨x0, x1, x2⟩ := HRd.out _ (Below.refl _ _)
  go_region_held3 (fun W' => W'.cell? ⟨w.heap.size, 2, none⟩ = some (.slice A2 n2 p2) ∧ W'.cell? ⟨w.heap.size + 1, 0, none⟩ = some (.slice (some ⟨rb, ro, none⟩) rn rc) ∧ W'.cell? ⟨rb, ro + j, none⟩ = some (.string s))
    (first | exact HRd.out _ hb1 | exact HRd.out _ (Below.refl WB.heap.size WB).drew)
    (first | (go_at_call 127; refine (HKP.out _ (by exact HBB.out.drew)).mono ?_; rintro e w1 ⟨rfl, hb1'⟩; have hb1 := undrew hb1'; clear hb1'))
  have HB1 := Lib.hid (HBB.out.later hb1)
  clear hb1
  go_wp2_with fail
  go_ret
  exact ⟨rfl, HB1.out⟩
end Go.Proofs.YtfpcjhajjejpdaaGreatDoor
namespace Go.Proofs.YtfpcjhajjejpdaaGreatDoor
open Go.RowKit
set_option linter.unusedVariables false

theorem rowsI_rd {w : World} {base : Nat} {v : Value} {rs : List (List ByteArray)} (h : RowsI w base v rs) : ∃ A cap, v = .slice A rs.length cap ∧ rs.length ≤ cap ∧ RowsRd w w.heap.size A rs.length rs := by
  obtain ⟨vs, h⟩ := h
  obtain ⟨A, cap, rfl, hc, _, hA⟩ := Own.own_slice h.row
  refine ⟨A, cap, rfl, hc, rfl, fun hn => ?_⟩
  obtain ⟨g, rfl, hg, _⟩ := hA hn
  refine ⟨g, 0, rfl, hg, fun j hj => ?_⟩
  have h0 := h.cellAt rfl j 0 hj (by decide)
  obtain ⟨A1, cap1, e1, hc1, hs1⟩ := (h.subs j hj).strs
  refine ⟨_, ?_, A1, _, cap1, e1, hs1, hc1⟩
  rw [Nat.zero_add]
  have e : j * rowK.size + 0 = j := by show j * 1 + 0 = j; omega
  rw [e] at h0
  exact h0
theorem unp_row {cols key val : ByteArray} {cs : List ByteArray} {x : List ByteArray} (h : unpackB cs key val = some x) : rowB cs x = true := by
  unfold unpackB at h
  split at h
  · simp at h
  · next hh =>
    simp only [Option.some.injEq] at h
    subst h
    simp only [Bool.or_eq_true, not_or, Bool.not_eq_true', Bool.not_eq_false] at hh
    exact hh.2
theorem unpAll_mem {f : NodeD → Option (List ByteArray)} : ∀ {l : List NodeD} {rs : List (List ByteArray)}, unpAll f l = some rs → rs.length = l.length ∧ ∀ r ∈ rs, ∃ d, f d = some r
  | [], rs, h => by
    simp only [unpAll, Option.some.injEq] at h
    subst h
    exact ⟨rfl, fun r hr => by simp at hr⟩
  | d :: t, rs, h => by
    unfold unpAll at h
    split at h
    · simp at h
    · next x hx =>
      cases hu : unpAll f t with
      | none => rw [hu] at h; simp at h
      | some ys =>
        rw [hu] at h
        simp only [Option.map_some, Option.some.injEq] at h
        subst h
        obtain ⟨h1, h2⟩ := unpAll_mem hu
        refine ⟨by simp [h1], fun r hr => ?_⟩
        rcases List.mem_cons.1 hr with h3 | h3
        · subst h3; exact ⟨d, hx⟩
        · exact h2 r h3
theorem cellB_small {s : ByteArray} (h : cellB s = true) : s.size ≤ 1048576 := by
  unfold cellB at h
  simp only [Bool.and_eq_true, decide_eq_true_eq] at h
  omega
theorem rowB_small {cs r : List ByteArray} (hc : cs.length ≤ 5) (h : rowB cs r = true) : smallR r ∧ r.length = cs.length := by
  unfold rowB at h
  simp only [Bool.and_eq_true, decide_eq_true_eq, List.all_eq_true] at h
  exact ⟨⟨by omega, fun s hs => cellB_small (h.2.2 s hs)⟩, h.1⟩
theorem rowsT_zero {cs : List ByteArray} {ns : List NodeD} (hc : cs.length ≤ 5) (h : (rowsT cs ns).1 = 0) : (rowsT cs ns).2.length ≤ 24 ∧ ∀ r ∈ (rowsT cs ns).2, smallR r ∧ r.length = cs.length := by
  unfold rowsT at h ⊢
  split
  · exact ⟨by simp, fun r hr => by simp at hr⟩
  · next hl =>
    cases hu : unpAll (kvOf cs) ns with
    | none => exact ⟨by simp, fun r hr => by simp at hr⟩
    | some rs =>
      obtain ⟨h1, h2⟩ := unpAll_mem hu
      refine ⟨by simp only []; omega, fun r hr => ?_⟩
      obtain ⟨d, hd⟩ := h2 r hr
      exact rowB_small hc (unp_row (cols := ByteArray.empty) hd)
end Go.Proofs.YtfpcjhajjejpdaaGreatDoor
namespace Go.Proofs.YtfpcjhajjejpdaaGreatDoor
open Go.RowKit
set_option linter.unusedVariables false

/-- The row with a key among row nodes, with the code. -/
def rowAtB (cols : List ByteArray) (ns : List NodeD) (key : ByteArray) : Int × List ByteArray :=
  if atI ns key < 0 then (3, []) else (codeU (unpackB cols key (ns.getD (atI ns key).toNat default).val), (unpackB cols key (ns.getD (atI ns key).toNat default).val).getD [])
def RowAtPost (r : Int × List ByteArray) (w : World) (e : Ending) (w' : World) : Prop := ∃ v, e = .returned (.tuple #[.agg #[v], .int .i64 r.1]) ∧ Own.SubO w' w.heap.size v r.2 ∧ Below w.heap.size w w'

end Go.Proofs.YtfpcjhajjejpdaaGreatDoor
namespace Go.Proofs.YtfpcjhajjejpdaaGreatDoor
open Go.RowKit
set_option linter.unusedVariables false

theorem idxS_get (p : ByteArray → Bool) : ∀ (l : List ByteArray) (k : Nat), 0 ≤ idxS p l k → ∃ j, j < l.length ∧ idxS p l k = ((k + j : Nat) : Int) ∧ p (l.getD j ByteArray.empty) = true
  | [], _, h => by simp [idxS] at h
  | x :: r, k, h => by
    unfold idxS at h ⊢
    by_cases hd : p x = true
    · exact ⟨0, by simp, by rw [if_pos hd]; rfl, by simpa using hd⟩
    · rw [if_neg hd] at h ⊢
      obtain ⟨j, h1, h2, h3⟩ := idxS_get p r (k + 1) h
      exact ⟨j + 1, by simpa using h1, by rw [h2]; congr 1; omega, by simpa using h3⟩
theorem place_get {l : List ByteArray} {x : ByteArray} (h : 0 ≤ placeI l x) : ∃ j, j < l.length ∧ placeI l x = (j : Int) ∧ l.getD j ByteArray.empty = x := by
  obtain ⟨j, h1, h2, h3⟩ := idxS_get _ l 0 h
  exact ⟨j, h1, by rw [show placeI l x = idxS (fun y => decide (y = x)) l 0 from rfl, h2]; simp, of_decide_eq_true h3⟩
theorem tab_cols {b : TableD} (h : tabB b = true) : ∀ k, k < b.cols.length → nameB (b.cols.getD k ByteArray.empty) = true ∧ placeI (b.cols.take k) (b.cols.getD k ByteArray.empty) < 0 := by
  unfold tabB at h
  simp only [Bool.and_eq_true] at h
  intro k hk
  have h2 := (allFrom_all (colAt b.cols) b.cols.length 0).1 h.2.2.2.2.2.1 k (by omega) (by omega)
  unfold colAt at h2
  simpa using h2
theorem filter_one {α : Type} {p : α → Bool} {l : List α} (h : (l.filter p).length ≤ 1) {a c : α} (ha : a ∈ l) (hc : c ∈ l) (h1 : p a = true) (h2 : p c = true) : a = c := by
  have m1 := List.mem_filter.2 ⟨ha, h1⟩
  have m2 := List.mem_filter.2 ⟨hc, h2⟩
  generalize l.filter p = r at *
  match r, h, m1, m2 with
  | [], _, m1, _ => simp at m1
  | [x], _, m1, m2 =>
    rw [List.mem_singleton] at m1 m2
    rw [m1, m2]
  | _ :: _ :: _, h, _, _ => simp at h
theorem idxF_get {α : Type} [Inhabited α] (p : α → Bool) : ∀ (l : List α) (k : Nat), 0 ≤ idxF p l k → ∃ j, j < l.length ∧ idxF p l k = ((k + j : Nat) : Int) ∧ p (l.getD j default) = true
  | [], _, h => by simp [idxF] at h
  | x :: r, k, h => by
    unfold idxF at h ⊢
    by_cases hd : p x = true
    · exact ⟨0, by simp, by rw [if_pos hd]; rfl, by simpa using hd⟩
    · rw [if_neg hd] at h ⊢
      obtain ⟨j, h1, h2, h3⟩ := idxF_get p r (k + 1) h
      exact ⟨j + 1, by simpa using h1, by rw [h2]; congr 1; omega, by simpa using h3⟩
/-- The row node with a key is found. -/
theorem at_node {g : ByteArray} {fs : List NodeD} (ht : treeB fs = true) {d : NodeD} (hd : d ∈ rowsN g fs) : ∃ j, j < (rowsN g fs).length ∧ atI (rowsN g fs) (d.subs.getD 1 ByteArray.empty) = (j : Int) ∧ (rowsN g fs).getD j default = d := by
  have hk : keyP (d.subs.getD 1 ByteArray.empty) d = true := by unfold keyP; simp
  have hx := idxF_any (keyP (d.subs.getD 1 ByteArray.empty)) (rowsN g fs) 0
  have h0 : 0 ≤ idxF (keyP (d.subs.getD 1 ByteArray.empty)) (rowsN g fs) 0 := by
    have : ((rowsN g fs).any (keyP (d.subs.getD 1 ByteArray.empty))) = true := List.any_eq_true.2 ⟨d, hd, hk⟩
    rw [this] at hx
    exact of_decide_eq_true hx
  obtain ⟨j, h1, h2, h3⟩ := idxF_get _ _ 0 h0
  exact ⟨j, h1, by rw [show atI (rowsN g fs) (d.subs.getD 1 ByteArray.empty) = idxF (keyP (d.subs.getD 1 ByteArray.empty)) (rowsN g fs) 0 from rfl, h2]; simp, filter_one (rows_key_le ht) (getD_memD _ j h1) hd h3 hk⟩
end Go.Proofs.YtfpcjhajjejpdaaGreatDoor
