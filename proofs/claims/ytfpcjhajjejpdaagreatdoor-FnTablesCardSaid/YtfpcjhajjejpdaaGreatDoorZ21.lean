/-
  Rows of the reference: what l29Row, Before and CondTrue compute. Rows of the reference: what l29Unpack makes.
-/
import Derived.Test.YtfpcjhajjejpdaaGreatDoorZ20
import Derived.Test.YtfpcjhajjejpdaaGreatDoorZ01
import Derived.Test.YtfpcjhajjejpdaaGreatDoorZ13
import Derived.Deep.AppendLies
namespace Go.Proofs.YtfpcjhajjejpdaaGreatDoor
open Go.RowKit

/-- A row's cell, as it is read. -/
def RowR (w : World) (B : Nat) (c0 : Value) (d : List ByteArray) : Prop := ∃ A n cap, c0 = .slice A n cap ∧ Strs w B A n d ∧ n ≤ cap
theorem RowR.later {w w' : World} {c0 : Value} {d : List ByteArray} (h : RowR w w.heap.size c0 d) (hb : Below w.heap.size w w') : RowR w' w'.heap.size c0 d := by
  obtain ⟨A, n, cap, e, s, k⟩ := h
  exact ⟨A, n, cap, e, s.later hb, k⟩
def smallR (d : List ByteArray) : Prop := d.length ≤ 1048576 ∧ ∀ s ∈ d, s.size ≤ 1048576
def rowB (cols d : List ByteArray) : Bool := decide (d.length = cols.length) && (decide (d.getD 0 ByteArray.empty ≠ ⟨#[]⟩) && d.all cellB)
theorem all_stepR (p : ByteArray → Bool) (l : List ByteArray) (k : Nat) (h : k < l.length) : (l.drop k).all p = (p (l.getD k ByteArray.empty) && (l.drop (k + 1)).all p) := by
  rw [List.drop_eq_getElem_cons h, List.all_cons, List.getD_eq_getElem?_getD, List.getElem?_eq_getElem h]
  rfl
theorem getD_memS (l : List ByteArray) (k : Nat) (h : k < l.length) : l.getD k ByteArray.empty ∈ l := by
  rw [List.getD_eq_getElem?_getD, List.getElem?_eq_getElem h]
  exact List.getElem_mem h
set_option maxRecDepth 100000 in
set_option maxHeartbeats 2000000 in
theorem l29Row_any (b0 b1 b2 b3 r0 : Value) (b : TableD) (d : List ByteArray) (w : World) (hb : TableR w w.heap.size b0 b1 b2 b3 b) (h : RowR w w.heap.size r0 d) (hs : smallR d) (hpos : 0 < b.cols.length) :
    Calls Tryz.prog 78 #[.agg #[b0, b1, b2, b3], .agg #[r0]] w fun e w' => e = .returned (.bool (rowB b.cols d)) ∧ Below w.heap.size w w' := by
  obtain ⟨rfl, rfl, ⟨A2, n2, p2, rfl, s2, k2⟩, ⟨A3, n3, p3, rfl, s3, k3⟩⟩ := hb
  obtain ⟨A, n, cap, rfl, hS, hcap⟩ := h
  have HR : Hid (rowB b.cols d = (decide (n = n2) && (decide (d.getD 0 ByteArray.empty ≠ ⟨#[]⟩) && d.all cellB))) := by unfold Hid rowB; rw [hS.1, s2.1]
  rw [s2.1] at hpos
  have hn : n ≤ 1048576 := by rw [← hS.1]; exact hs.1
  have HSS := Lib.hid hS
  have HK := Lib.hid (fun W k (hk : k < d.length) => l29Cell_any (d.getD k ByteArray.empty) W (hs.2 _ (getD_memS d k hk)))
  have HB0 := Lib.hid ((Below.new w (.cells #[.string b.name, .string b.glob, .slice A2 n2 p2, .slice A3 n3 p3] 29)).later (Below.new _ (.cells #[.slice A n cap] 40)))
  have HX1 := Lib.hid (heap_two1 w (.cells #[.string b.name, .string b.glob, .slice A2 n2 p2, .slice A3 n3 p3] 29) (.cells #[.slice A n cap] 40))
  clear s2 s3 hS hs
  generalize rowB b.cols d = R at *
  generalize b.name = nm at *
  generalize b.glob = gl at *
  go_enter Tryz.func78, Tryz.ntmps78
  by_cases hlen : n = n2
  case neg =>
    have HE : Hid (R = false) := by unfold Hid; rw [HR.out, decide_eq_false hlen]; rfl
    have hb3 : ((n : Int) == (n2 : Int)) = false := by rw [beq_eq_false_iff_ne]; omega
    have hb4 : (n == n2) = false := by rw [beq_eq_false_iff_ne]; omega
    have hb5 : ((n : Int) != (n2 : Int)) = true := by rw [bne, hb3]; rfl
    clear hlen HR
    go_wp2_with fail
    go_ret
    exact ⟨ret_bool HE.out.symm, HB0.out⟩
  subst hlen
  obtain ⟨bk, o, rfl, hbk, hcell⟩ := (HSS.out.later HB0.out).2 hpos
  have hck := hcell 0 hpos
  rw [Nat.add_zero] at hck
  have HC := Lib.hid hcell
  clear hcell
  have hn0 : (0 : Int) < (n : Int) := by omega
  generalize hd0 : d.getD 0 ByteArray.empty = s0 at *
  by_cases h0 : s0 = ⟨#[]⟩
  · have HE : Hid (R = false) := by unfold Hid; rw [HR.out, decide_eq_false (show ¬ (s0 ≠ ⟨#[]⟩) from fun hh => hh h0)]; simp
    subst h0
    clear HR
    go_wp2_with fail
    go_ret
    exact ⟨ret_bool HE.out.symm, HB0.out⟩
  have HE : Hid (R = (d.drop 0).all cellB) := by unfold Hid; rw [HR.out, decide_eq_true h0]; simp
  have hbe := str_beq h0
  have hbe3 := ne_empty h0
  clear h0 HR hd0
  go_wp2_with fail
  go_loopw [5] (fun i wr => ∃ k : Nat, k ≤ n ∧ i = .int .i64 k ∧ wr = ((w.alloc (.cells #[.string nm, .string gl, .slice A2 n p2, .slice A3 n3 p3] 29)).alloc (.cells #[.slice (some ⟨bk, o, none⟩) n cap] 40)) ∧ Hid (R = (d.drop k).all cellB)) (fun i _ => n - (intOf i).toNat)
  case atStart => exact ⟨0, Nat.zero_le _, rfl, rfl, HE.out⟩
  case round =>
    obtain ⟨k, hk, rfl, rfl, hS⟩ := hrel
    by_cases hlt : k < n
    · have hl : k < d.length := by rw [HSS.out.1]; exact hlt
      have HSt := Lib.hid (all_stepR cellB d k hl)
      have hck2 := HC.out k hlt
      have HKk := Lib.hid (fun W => HK.out W k hl)
      clear hl
      generalize d.getD k ByteArray.empty = s at *
      generalize cellB s = x at *
      go_wp2_with fail
      refine (HKk.out _).mono ?_
      rintro e w1 ⟨rfl, rfl⟩
      cases x
      · have HE2 : Hid (R = false) := by unfold Hid; rw [hS.out, HSt.out]; rfl
        go_wp2_with fail
        go_ret
        exact ⟨ret_bool HE2.out.symm, HB0.out⟩
      · have HE2 : Hid (R = (d.drop (k + 1)).all cellB) := by unfold Hid; rw [hS.out, HSt.out]; rfl
        go_wp2_with fail
        go_roundw
        case rel => exact ⟨k + 1, by omega, by go_num, (by first | rfl | trivial), HE2.out⟩
        case measure => simp [intOf]; omega
    · have HE2 : Hid (R = true) := by unfold Hid; rw [hS.out, List.drop_of_length_le (by rw [HSS.out.1]; omega)]; rfl
      go_wp2_with fail
      go_ret
      exact ⟨ret_bool HE2.out.symm, HB0.out⟩

end Go.Proofs.YtfpcjhajjejpdaaGreatDoor
namespace Go.Proofs.YtfpcjhajjejpdaaGreatDoor
open Go.RowKit

/-- The cells of a row that a key and a value make. -/
def rowOfKV (cols : List ByteArray) (key val : ByteArray) : List ByteArray := key :: (if 1 < cols.length then cutS 94 val else [])
def unpackB (cols : List ByteArray) (key val : ByteArray) : Option (List ByteArray) :=
  if ((decide (cols.length = 1) && decide (val ≠ ⟨#[]⟩)) || !rowB cols (rowOfKV cols key val)) = true then none else some (rowOfKV cols key val)
def codeU (o : Option (List ByteArray)) : Int := if o.isSome = true then 0 else 14
/-- A row and a code are handed back; the row lies in memory of the call's own. -/
def UnpPost (o : Option (List ByteArray)) (w : World) (e : Ending) (w' : World) : Prop := ∃ v, e = .returned (.tuple #[.agg #[v], .int .i64 (codeU o)]) ∧ Own.SubO w' w.heap.size v (o.getD []) ∧ Below w.heap.size w w'
theorem cutS_small (c : UInt8) (s : ByteArray) : (cutS c s).length ≤ s.size + 1 ∧ ∀ x ∈ cutS c s, x.size ≤ s.size := by
  unfold cutS
  constructor
  · rw [List.length_map]
    have := cutL_len c s.data.toList
    rw [← Lib.size_eq] at this
    exact this
  · intro x hx
    obtain ⟨l, hl, rfl⟩ := List.mem_map.1 hx
    have := cutL_small c s.data.toList l hl
    rw [← Lib.size_eq] at this
    rw [Lib.size_eq]
    simpa using this
theorem rowOf_small (cols : List ByteArray) (key val : ByteArray) (hk : key.size ≤ 1048576) (hv : val.size ≤ 64) : smallR (rowOfKV cols key val) := by
  unfold rowOfKV
  have h := cutS_small 94 val
  split
  · refine ⟨by simp; omega, fun s hs => ?_⟩
    rcases List.mem_cons.1 hs with rfl | hs
    · exact hk
    · have := h.2 s hs
      omega
  · exact ⟨by simp, fun s hs => by rw [List.mem_singleton.1 hs]; exact hk⟩
theorem cutS_ne (c : UInt8) (s : ByteArray) : 0 < (cutS c s).length := by
  unfold cutS
  rw [List.length_map]
  exact List.length_pos_iff.2 (cutL_ne _ _)
theorem oneCells_strs (ss : List ByteArray) : ∀ u ∈ ss.map Value.string, u.oneCell' = true := by
  intro u hu
  obtain ⟨s, _, rfl⟩ := List.mem_map.1 hu
  rfl
set_option maxRecDepth 100000 in
set_option maxHeartbeats 4000000 in
theorem l29Unpack_any (b0 b1 b2 b3 : Value) (b : TableD) (key val : ByteArray) (w : World) (hb : TableR w w.heap.size b0 b1 b2 b3 b) (hpos : 0 < b.cols.length) (hn5 : b.cols.length ≤ 5) (hk : key.size ≤ 1048576) (hv : val.size ≤ 64) :
    Calls Tryz.prog 119 #[.agg #[b0, b1, b2, b3], .string key, .string val] w (UnpPost (unpackB b.cols key val) w) := by
  obtain ⟨i0, hi, hz0, hz1, hz2⟩ := info_parts infoS
  have HT := Lib.hid (fun W (hW : Below w.heap.size w W) => hb.later hW)
  have HRS := Lib.hid (rowOf_small b.cols key val hk hv)
  have HKC := Lib.hid (fun W => l29Cut_any val W (by omega))
  have HKR := Lib.hid (fun W (hW : Below w.heap.size w W) r0 (hr : RowR W W.heap.size r0 (rowOfKV b.cols key val)) => l29Row_any b0 b1 b2 b3 r0 b (rowOfKV b.cols key val) W (hb.later hW) hr (rowOf_small b.cols key val hk hv) hpos)
  have HU : Hid (unpackB b.cols key val = (if ((decide (b.cols.length = 1) && decide (val ≠ ⟨#[]⟩)) || !rowB b.cols (rowOfKV b.cols key val)) = true then none else some (rowOfKV b.cols key val))) := rfl
  have HCL := Lib.hid (cutS_small 94 val)
  have HCN := Lib.hid (cutS_ne 94 val)
  obtain ⟨rfl, rfl, ⟨A2, n2, p2, rfl, s2, k2⟩, ⟨A3, n3, p3, rfl, s3, k3⟩⟩ := hb
  have hl2 := s2.1
  have HRV : Hid (rowOfKV b.cols key val = key :: (if 1 < n2 then cutS 94 val else [])) := by unfold Hid rowOfKV; rw [hl2]
  rw [hl2] at hpos hn5
  rw [hl2] at HU
  clear s2 s3 hl2
  generalize unpackB b.cols key val = U at *
  generalize rowB b.cols (rowOfKV b.cols key val) = rb at *
  generalize rowOfKV b.cols key val = ROW at *
  generalize b.name = nm at *
  generalize b.glob = gl at *
  generalize cutS 94 val = CS at *
  have HB0 := Lib.hid (below_new4 w (.cells #[.string nm, .string gl, .slice A2 n2 p2, .slice A3 n3 p3] 29) (.cells #[.slice none 0 0] 40) (.cells #[.string key] 9) (.cells #[.slice (some ⟨w.heap.size + 1 + 1, 0, none⟩) 1 1] 40))
  have HX0 := Lib.hid (heap_0of4 w (.cells #[.string nm, .string gl, .slice A2 n2 p2, .slice A3 n3 p3] 29) (.cells #[.slice none 0 0] 40) (.cells #[.string key] 9) (.cells #[.slice (some ⟨w.heap.size + 1 + 1, 0, none⟩) 1 1] 40))
  have HX1 := Lib.hid (heap_1of4 w (.cells #[.string nm, .string gl, .slice A2 n2 p2, .slice A3 n3 p3] 29) (.cells #[.slice none 0 0] 40) (.cells #[.string key] 9) (.cells #[.slice (some ⟨w.heap.size + 1 + 1, 0, none⟩) 1 1] 40))
  have HX2 := Lib.hid (heap_2of4 w (.cells #[.string nm, .string gl, .slice A2 n2 p2, .slice A3 n3 p3] 29) (.cells #[.slice none 0 0] 40) (.cells #[.string key] 9) (.cells #[.slice (some ⟨w.heap.size + 1 + 1, 0, none⟩) 1 1] 40))
  have HX3 := Lib.hid (heap_3of4 w (.cells #[.string nm, .string gl, .slice A2 n2 p2, .slice A3 n3 p3] 29) (.cells #[.slice none 0 0] 40) (.cells #[.string key] 9) (.cells #[.slice (some ⟨w.heap.size + 1 + 1, 0, none⟩) 1 1] 40))
  go_enter Tryz.func119, Tryz.ntmps119
  by_cases h1 : n2 = 1
  · subst h1
    have HRV2 : Hid (ROW = [key]) := by unfold Hid; rw [HRV.out, if_neg (by omega)]
    clear HRV
    by_cases hve : val = ⟨#[]⟩
    · have HE : Hid (U = if rb = true then some ROW else none) := by
        unfold Hid
        rw [HU.out, decide_eq_false (show ¬ (val ≠ ⟨#[]⟩) from fun h => h hve)]
        cases rb <;> simp
      have HSub : Hid (Own.SubO ((((w.alloc (.cells #[.string nm, .string gl, .slice A2 1 p2, .slice A3 n3 p3] 29)).alloc (.cells #[.slice none 0 0] 40)).alloc (.cells #[.string key] 9)).alloc (.cells #[.slice (some ⟨w.heap.size + 1 + 1, 0, none⟩) 1 1] 40)) w.heap.size (.slice (some ⟨w.heap.size + 1 + 1, 0, none⟩) 1 1) [key]) :=
        Own.sub_of_blk (ss := [key]) HX2.out (by omega) (by simp [maxLen])
      subst hve
      clear HU
      go_wp2_with fail
      refine (HKR.out _ HB0.out _ (by obtain ⟨A, c, e, hc, hs⟩ := HSub.out.strs; rw [HRV2.out]; exact ⟨A, _, c, e, hs, hc⟩)).mono ?_
      rintro e w1 ⟨rfl, hb1⟩
      have HB1 := Lib.hid (HB0.out.later hb1)
      have HY1 := Lib.hid (Blk.later HX1.out hb1 (by first | (simp; done) | (simp; omega)))
      have HY3 := Lib.hid (Blk.later HX3.out hb1 (by first | (simp; done) | (simp; omega)))
      have HS1 := Lib.hid (Own.own_later HSub.out hb1)
      have p1 := HY1.out.cell
      have f1 := HY1.out.frozen
      have z1 := HY1.out.lt
      have p3' := HY3.out.cell
      have z3 := HY3.out.lt
      clear hb1
      cases rb
      · have HE2 : Hid (U = none) := by unfold Hid; rw [HE.out]; rfl
        go_wp2_with fail
        refine bodyPost_ret (v := .tuple #[.agg #[.slice none 0 0], .int .i64 14]) (by simp [results, Tryz.results119, go_sem, p1]) rfl ?_
        rw [HE2.out]
        exact ⟨_, rfl, Own.sub_nil _ _, HB1.out.setCell (by simp) _⟩
      · have HE2 : Hid (U = some [key]) := by unfold Hid; rw [HE.out, HRV2.out]; rfl
        go_wp2_with fail
        refine bodyPost_ret (v := .tuple #[.agg #[.slice (some ⟨w.heap.size + 1 + 1, 0, none⟩) 1 1], .int .i64 0]) (by simp [results, Tryz.results119, go_sem, p1]) rfl ?_
        rw [HE2.out]
        refine ⟨_, rfl, ?_, HB1.out.setCell (by simp) _⟩
        exact World.ownsRow.kept HS1.out (row := some (w.heap.size + 1)) (Own.grown_set _ _ _ _) (.inr (by simp [Value.ownBlock]))
    · have HE : Hid (U = none) := by
        unfold Hid
        rw [HU.out, decide_eq_true hve]
        rfl
      have hbe := str_beq hve
      have hbn := str_bne hve
      have hbe3 := ne_empty hve
      have p1 := Blk.cell HX1.out
      have f1 := Blk.frozen HX1.out
      have z1 := Blk.lt HX1.out
      clear hve HU
      go_wp2_with fail
      refine bodyPost_ret (v := .tuple #[.agg #[.slice none 0 0], .int .i64 14]) (by simp [results, Tryz.results119, go_sem, p1]) rfl ?_
      rw [HE.out]
      first | exact ⟨_, rfl, Own.sub_nil _ _, HB0.out⟩ | exact ⟨_, rfl, Own.sub_nil _ _, HB0.out.setCell (by simp) _⟩
  · have hgt : 1 < n2 := by omega
    have HRV2 : Hid (ROW = key :: CS) := by unfold Hid; rw [HRV.out, if_pos hgt]
    have HE : Hid (U = if rb = true then some ROW else none) := by
      unfold Hid
      rw [HU.out, decide_eq_false h1]
      cases rb <;> simp
    have hg1 : (1 : Int) < (n2 : Int) := by omega
    have hne1 : ((n2 : Int) == 1) = false := by rw [beq_eq_false_iff_ne]; omega
    have hne2 : (n2 == 1) = false := by rw [beq_eq_false_iff_ne]; omega
    clear HRV HU h1
    have p3' := Blk.cell HX3.out 0
    have f3 := Blk.frozen HX3.out 0
    have z3 := Blk.lt HX3.out
    simp at p3'
    have hsz0 : w.heap.size + 1 + 1 + 1 + 1 = ((((w.alloc (.cells #[.string nm, .string gl, .slice A2 n2 p2, .slice A3 n3 p3] 29)).alloc (.cells #[.slice none 0 0] 40)).alloc (.cells #[.string key] 9)).alloc (.cells #[.slice (some ⟨w.heap.size + 1 + 1, 0, none⟩) 1 1] 40)).heap.size := by simp
    have HRA0 : Hid (Own.SubO ((((w.alloc (.cells #[.string nm, .string gl, .slice A2 n2 p2, .slice A3 n3 p3] 29)).alloc (.cells #[.slice none 0 0] 40)).alloc (.cells #[.string key] 9)).alloc (.cells #[.slice (some ⟨w.heap.size + 1 + 1, 0, none⟩) 1 1] 40)) w.heap.size (.slice (some ⟨w.heap.size + 1 + 1, 0, none⟩) 1 1) [key]) :=
      Own.sub_of_blk (ss := [key]) HX2.out (by omega) (by simp [maxLen])
    go_wp2_with fail
    go_region_law (first
      | (refine step_append_lies _ (by rfl) _ _ _ (by rfl) w.heap.size 9 i0 _ 1 16 Tryz.underlying27 hi hz0 hz1 hz2 rfl (by omega) (.slice (some ⟨w.heap.size + 1 + 1, 0, none⟩) 1 1) 1 [.string key] (by rfl) (by exact HRA.out)
            ⟨gc, 0, none⟩ CS.length cc (CS.map Value.string) (by rfl) (by simp) (by exact HCC.out) (by exact oneCells_strs CS)
            (by have := HCN.out; omega) (by unfold maxLen; have := HCL.out.1; omega) (by have := HCL.out.1; omega) (by omega) w4.heap.size rfl ?_
         intro gg cap' w5 hown5 hgrow5 hat hlt2
         have hbg := (Blk.later HX3.out HB4.out (by omega)).grown hgrow5 (by simp [Value.ownBlock])
         have p5 := hbg.cell
         have f5 := hbg.frozen
         have z5 := hbg.lt
         have HBG := Lib.hid hbg
         have HOW := Lib.hid hown5
         have HGR := Lib.hid hgrow5
         clear hbg hown5 hgrow5)
      | (go_simp
         go_at_call 174
         refine (HKC.out _).mono ?_
         rintro e w4 ⟨v', rfl, hsub, hb4⟩
         have HB4 := Lib.hid (undrew hb4)
         obtain ⟨AC, cc, rfl, hcc, hmc, hac⟩ := Own.own_slice hsub
         obtain ⟨gc, rfl, hgc, hgcb⟩ := hac HCN.out
         have HCC := Lib.hid (World.ownsRow.cells (g := gc) hsub rfl)
         clear hsub hb4
         have q2 := (Blk.later HX3.out HB4.out (by omega)).cell 0
         simp at q2
         have z6 := (Blk.later HX3.out HB4.out (by omega)).lt
         have hsz6 := HB4.out.size
         have HRA := Lib.hid (Own.own_later HRA0.out HB4.out)))
    all_goals
      have hgn : gg ≠ w.heap.size + 1 + 1 + 1 := by
        rcases hat with h | h
        · simp [Value.ownBlock] at h; omega
        · omega
      have hgn1 : gg ≠ w.heap.size + 1 := by
        rcases hat with h | h
        · simp [Value.ownBlock] at h; omega
        · omega
      have HS5 : Hid (Own.SubO (w5.setCell ⟨w.heap.size + 1 + 1 + 1, 0, none⟩ (.slice (some ⟨gg, 0, none⟩) (1 + CS.length) cap')) w.heap.size (.slice (some ⟨gg, 0, none⟩) (1 + CS.length) cap') (key :: CS)) := by
        have h := World.ownsRow.kept HOW.out (row := some (w.heap.size + 1 + 1 + 1)) (Own.grown_set w5 (w.heap.size + 1 + 1 + 1) 0 (.slice (some ⟨gg, 0, none⟩) (1 + CS.length) cap')) (.inr (by simpa [Value.ownBlock] using hgn))
        unfold Hid Own.SubO
        rw [List.length_cons, Nat.add_comm CS.length 1]
        exact h
      have HB5 := Lib.hid (((HB0.out.later HB4.out).grown HGR.out (by omega) (fun g hg => by simp [Value.ownBlock] at hg; omega)).setCell (p := ⟨w.heap.size + 1 + 1 + 1, 0, none⟩) (by simp; omega) (.slice (some ⟨gg, 0, none⟩) (1 + CS.length) cap'))
      have HZ0 := Lib.hid (((Blk.later HX0.out HB4.out (by omega)).grown HGR.out (by simp [Value.ownBlock]; omega)).far (p := ⟨w.heap.size + 1 + 1 + 1, 0, none⟩) (by simp; omega) (.slice (some ⟨gg, 0, none⟩) (1 + CS.length) cap'))
      have HZ1 := Lib.hid (((Blk.later HX1.out HB4.out (by omega)).grown HGR.out (by simp [Value.ownBlock])).far (p := ⟨w.heap.size + 1 + 1 + 1, 0, none⟩) (by simp) (.slice (some ⟨gg, 0, none⟩) (1 + CS.length) cap'))
      have HZ3 := Lib.hid (HBG.out.set_ 0 (.slice (some ⟨gg, 0, none⟩) (1 + CS.length) cap'))
      have y0 := HZ0.out.cell 0
      have y1 := HZ0.out.cell 1
      have y2 := HZ0.out.cell 2
      have y3 := HZ0.out.cell 3
      have y4 := HZ3.out.cell 0
      simp at y0 y1 y2 y3 y4
      obtain ⟨W5, hW5⟩ : ∃ W5, W5 = w5.setCell ⟨w.heap.size + 1 + 1 + 1, 0, none⟩ (.slice (some ⟨gg, 0, none⟩) (1 + CS.length) cap') := ⟨_, rfl⟩
      rw [← hW5] at HS5 HB5 HZ0 HZ1 HZ3 y0 y1 y2 y3 y4 ⊢
      clear hW5 p3' f3 z3 p5 f5 z5 q2 z6 HBG HOW HGR
      go_wp2_with fail
      refine (HKR.out _ HB5.out _ (by obtain ⟨A, c, e, hc, hs⟩ := HS5.out.strs; rw [HRV2.out]; exact ⟨A, _, c, e, hs, hc⟩)).mono ?_
      rintro e w6 ⟨rfl, hb6⟩
      have HB6 := Lib.hid (HB5.out.later hb6)
      have HY1 := Lib.hid (HZ1.out.later hb6 HZ1.out.lt)
      have HY3 := Lib.hid (HZ3.out.later hb6 HZ3.out.lt)
      have HS6 := Lib.hid (Own.own_later HS5.out hb6)
      have p1 := HY1.out.cell
      have f1 := HY1.out.frozen
      have z1 := HY1.out.lt
      have p3' := HY3.out.cell 0
      have z3 := HY3.out.lt
      simp at p3'
      clear hb6 y0 y1 y2 y3 y4
      cases rb
      · have HE2 : Hid (U = none) := by unfold Hid; rw [HE.out]; rfl
        go_wp2_with fail
        refine bodyPost_ret (v := .tuple #[.agg #[.slice none 0 0], .int .i64 14]) (by simp [results, Tryz.results119, go_sem, p1]) rfl ?_
        rw [HE2.out]
        exact ⟨_, rfl, Own.sub_nil _ _, HB6.out.setCell (by simp) _⟩
      · have HE2 : Hid (U = some (key :: CS)) := by unfold Hid; rw [HE.out, HRV2.out]; rfl
        go_wp2_with fail
        refine bodyPost_ret (v := .tuple #[.agg #[(.slice (some ⟨gg, 0, none⟩) (1 + CS.length) cap')], .int .i64 0]) (by simp [results, Tryz.results119, go_sem, p1]) rfl ?_
        rw [HE2.out]
        refine ⟨_, rfl, ?_, HB6.out.setCell (by simp) _⟩
        exact World.ownsRow.kept HS6.out (row := some (w.heap.size + 1)) (Own.grown_set _ _ _ _) (.inr (by simpa [Value.ownBlock] using hgn1))
end Go.Proofs.YtfpcjhajjejpdaaGreatDoor
