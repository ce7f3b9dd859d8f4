import Derived.Test.YtlicffeicmoifaaGreatDoorZ13
import Derived.Test.YtlicffeicmoifaaGreatDoorZ26
import Derived.Test.YtlicffeicmoifaaGreatDoorZ23
import Derived.Test.YtlicffeicmoifaaGreatDoorZ09
import Derived.Test.YtlicffeicmoifaaGreatDoorZ15
import Derived.Test.YtlicffeicmoifaaGreatDoorZ11
set_option linter.unusedSimpArgs false
namespace Go.Proofs.YtlicffeicmoifaaGreatDoor
open Go.RowKit
set_option linter.unusedVariables false
def doK : Own.Kind DoD := ⟨6, fun d v => [.int .i64 d.job, .int .i64 d.ev.kind, .string d.ev.name, v, .string d.ev.val, .int .i64 d.ev.n], fun d => d.ev.subs, fun _ _ => rfl, by decide⟩
theorem infoDoD : (Tryz.prog.info? 39).map (fun i => (i.zero, i.size, i.bytes)) = some (some (.agg #[.int .i64 0, .int .i64 0, .string .empty, .slice none 0 0, .string .empty, .int .i64 0]), 6, 80) := by kernel_rfl
def DosO (w : World) (base : Nat) (v : Value) (l : List DoD) : Prop := ∃ vs, Own.OwnL doK w base 39 v l vs
theorem dosO_lit (w : World) (base : Nat) (h : base ≤ w.heap.size) : DosO (w.alloc (.cells #[] 39)) base (.slice (some ⟨w.heap.size, 0, none⟩) 0 0) [] :=
 ⟨[], rfl, World.ownsRow_lit (e := 39) (size := 6) w #[] 0 h (by omega) rfl, fun j hj => by simp at hj, List.Pairwise.nil⟩
theorem dosL_reads {w : World} {base : Nat} {v : Value} {l : List DoD} {vs : List Value} (h : Own.OwnL doK w base 39 v l vs) : ∃ A cap, v = .slice A l.length cap ∧ l.length ≤ cap ∧ Dos w w.heap.size A l.length l := by
 obtain ⟨A, cap, rfl, hc, _, hA⟩ := Own.own_slice h.row
 refine ⟨A, cap, rfl, hc, rfl, fun hn => ?_⟩
 obtain ⟨g, rfl, hg, _⟩ := hA hn
 refine ⟨g, 0, rfl, hg, fun j hj => ?_⟩
 have h0 := h.cellAt rfl j 0 hj (by decide)
 have h1 := h.cellAt rfl j 1 hj (by decide)
 have h2 := h.cellAt rfl j 2 hj (by decide)
 have h3 := h.cellAt rfl j 3 hj (by decide)
 have h4 := h.cellAt rfl j 4 hj (by decide)
 have h5 := h.cellAt rfl j 5 hj (by decide)
 obtain ⟨A1, cap1, e1, hc1, hs1⟩ := (h.subs j hj).strs
 refine ⟨_, _, _, _, _, _, by rw [Nat.zero_add]; exact h0, by rw [Nat.zero_add]; exact h1, by rw [Nat.zero_add]; exact h2, by rw [Nat.zero_add]; exact h3, by rw [Nat.zero_add]; exact h4, by rw [Nat.zero_add]; exact h5, rfl, rfl, rfl, ⟨A1, _, cap1, e1, hs1, hc1⟩, rfl, rfl⟩
theorem DosO.base {w : World} {base base' : Nat} {v : Value} {l : List DoD} (h : DosO w base' v l) (hb : base ≤ base') : DosO w base v l := by
 obtain ⟨vs, h⟩ := h
 exact ⟨vs, h.base hb⟩
theorem DosO.reads {w : World} {base : Nat} {v : Value} {l : List DoD} (h : DosO w base v l) : ∃ A cap, v = .slice A l.length cap ∧ l.length ≤ cap ∧ Dos w w.heap.size A l.length l := by
 obtain ⟨vs, h⟩ := h
 exact dosL_reads h
def goodDs (l : List DoD) : Prop := l.length ≤ 9 ∧ ∀ d ∈ l, goodE d.ev
def okDs (l : List DoD) : Prop := l.length ≤ 1048576 ∧ ∀ d ∈ l, okE d.ev
theorem goodDs_ok {l : List DoD} (h : goodDs l) : okDs l ∧ cleanEs (evsD l) := ⟨⟨by have := h.1; omega, fun d hd => (h.2 d hd).1⟩, fun e he => by
 obtain ⟨d, hd, rfl⟩ := List.mem_map.1 he
 exact (h.2 d hd).2⟩
theorem goodDs_nil : goodDs [] := ⟨by simp, fun d hd => by cases hd⟩
theorem goodDs_snoc {l : List DoD} {d : DoD} (h : goodDs l) (hl : l.length < 9) (hd : goodE d.ev) : goodDs (l ++ [d]) := ⟨by simp; omega, fun x hx => by
 rcases List.mem_append.1 hx with h1 | h1
 · exact h.2 x h1
 · rw [List.mem_singleton] at h1; subst h1; exact hd⟩
theorem goodDs_set {l : List DoD} {d : DoD} {k : Nat} (h : goodDs l) (hd : goodE d.ev) : goodDs (l.set k d) := ⟨by rw [List.length_set]; exact h.1, fun x hx => by
 rcases List.mem_or_eq_of_mem_set hx with h1 | h1
 · exact h.2 x h1
 · subst h1; exact hd⟩
theorem okDs_evs {l : List DoD} (h : okDs l) : okEs (evsD l) := ⟨by unfold evsD; rw [List.length_map]; exact h.1, fun e he => by
 obtain ⟨d, hd, rfl⟩ := List.mem_map.1 he
 exact h.2 d hd⟩
theorem evsD_snoc {l : List DoD} {k : Nat} (h : k < l.length) : evsD (l.take (k + 1)) = evsD (l.take k) ++ [(l.getD k default).ev] := by
 unfold evsD
 rw [List.take_succ_eq_append_getElem h, List.map_append, List.getD_eq_getElem?_getD, List.getElem?_eq_getElem h, Option.getD_some]
 rfl
theorem doings_notes {l : List DoD} (h : doingsB l = true) : notesB (evsD l) = true := by
 obtain ⟨h1, h2⟩ := doings_all h
 unfold notesB
 rw [Bool.and_eq_true, decide_eq_true_eq, List.all_eq_true]
 refine ⟨by unfold evsD; rw [List.length_map]; exact h1, fun e he => ?_⟩
 obtain ⟨d, hd, rfl⟩ := List.mem_map.1 he
 exact (h2 d hd).2
theorem repl_doings {fs : List NodeD} {l : List DoD} (ht : treeB fs = true) (h : doingsB l = true) : replB fs (evsD l) = repB fs (evsD l) 0 := by
 unfold replB
 rw [ht, doings_notes h]
 rfl
def evC (w : World) (c : List Value) (d : EvD) : Prop := ∃ c0 c1 c2 c3 c4, c = [c0, c1, c2, c3, c4] ∧ EvR w w.heap.size c0 c1 c2 c3 c4 d
def doC (w : World) (c : List Value) (d : DoD) : Prop := ∃ c0 c1 c2 c3 c4 c5, c = [c0, c1, c2, c3, c4, c5] ∧ DoR w w.heap.size c0 c1 c2 c3 c4 c5 d
theorem evs_of_row {w W : World} {base n : Nat} {v : Value} {fs : List EvD} {cs : List Value} (h : W.ownsRow base 37 5 v n cs) (hn : fs.length = n) (hc : CellsG 5 (evC w) fs cs) (hb : Below w.heap.size w W) : ∃ A cap, v = .slice A n cap ∧ n ≤ cap ∧ Evs W W.heap.size A n fs := by
 obtain ⟨A, cap, rfl, hcap, _, hA⟩ := Own.own_slice h
 refine ⟨A, cap, rfl, hcap, hn, fun hp => ?_⟩
 obtain ⟨g, rfl, hg, _⟩ := hA hp
 refine ⟨g, 0, rfl, hg, fun j hj => ?_⟩
 obtain ⟨c, hl, ⟨c0, c1, c2, c3, c4, rfl, hr⟩, ha⟩ := CellsG.at j hc (by omega)
 have H : ∀ t, t < 5 → W.cell? ⟨g, 0 + j * 5 + t, none⟩ = [c0, c1, c2, c3, c4][t]? := fun t ht => by
  rw [Nat.zero_add]
  refine (h.cellAt (j * 5 + t) (by omega)).trans (ha t ht)
 exact ⟨c0, c1, c2, c3, c4, H 0 (by decide), H 1 (by decide), H 2 (by decide), H 3 (by decide), H 4 (by decide), hr.later hb⟩
theorem dos_of_row {w W : World} {base n : Nat} {v : Value} {fs : List DoD} {cs : List Value} (h : W.ownsRow base 39 6 v n cs) (hn : fs.length = n) (hc : CellsG 6 (doC w) fs cs) (hb : Below w.heap.size w W) : ∃ A cap, v = .slice A n cap ∧ n ≤ cap ∧ Dos W W.heap.size A n fs := by
 obtain ⟨A, cap, rfl, hcap, _, hA⟩ := Own.own_slice h
 refine ⟨A, cap, rfl, hcap, hn, fun hp => ?_⟩
 obtain ⟨g, rfl, hg, _⟩ := hA hp
 refine ⟨g, 0, rfl, hg, fun j hj => ?_⟩
 obtain ⟨c, hl, ⟨c0, c1, c2, c3, c4, c5, rfl, hr⟩, ha⟩ := CellsG.at j hc (by omega)
 have H : ∀ t, t < 6 → W.cell? ⟨g, 0 + j * 6 + t, none⟩ = [c0, c1, c2, c3, c4, c5][t]? := fun t ht => by
  rw [Nat.zero_add]
  refine (h.cellAt (j * 6 + t) (by omega)).trans (ha t ht)
 exact ⟨c0, c1, c2, c3, c4, c5, H 0 (by decide), H 1 (by decide), H 2 (by decide), H 3 (by decide), H 4 (by decide), H 5 (by decide), hr.later hb⟩
def doAt (W : World) (b q : Nat) (d : DoD) (S : Option Addr) (m c : Nat) : Prop := W.cell? ⟨b, q, none⟩ = some (.int .i64 d.job) ∧ W.cell? ⟨b, q + 1, none⟩ = some (.int .i64 d.ev.kind) ∧ W.cell? ⟨b, q + 2, none⟩ = some (.string d.ev.name) ∧ W.cell? ⟨b, q + 3, none⟩ = some (.slice S m c) ∧ W.cell? ⟨b, q + 4, none⟩ = some (.string d.ev.val) ∧ W.cell? ⟨b, q + 5, none⟩ = some (.int .i64 d.ev.n)
theorem dos_at {w : World} {A : Option Addr} {n : Nat} {l : List DoD} (h : Dos w w.heap.size A n l) {j : Nat} (hj : j < n) : ∃ b o S m c, A = some ⟨b, o, none⟩ ∧ ∀ W, Below w.heap.size w W → doAt W b (o + j * 6) (l.getD j default) S m c ∧ EvR W W.heap.size (.int .i64 (l.getD j default).ev.kind) (.string (l.getD j default).ev.name) (.slice S m c) (.string (l.getD j default).ev.val) (.int .i64 (l.getD j default).ev.n) (l.getD j default).ev := by
 obtain ⟨b, o, rfl, hb, hc⟩ := h.2 (by omega)
 obtain ⟨c0, c1, c2, c3, c4, c5, k0, k1, k2, k3, k4, k5, hr0, hr⟩ := hc j hj
 have hr' := hr
 obtain ⟨rfl, rfl, ⟨S, m, q, rfl, hs, hmq⟩, rfl, rfl⟩ := hr'
 subst hr0
 exact ⟨b, o, S, m, q, rfl, fun W hW => ⟨⟨(hW.cell hb).trans k0, (hW.cell hb).trans k1, (hW.cell hb).trans k2, (hW.cell hb).trans k3, (hW.cell hb).trans k4, (hW.cell hb).trans k5⟩, hr.later hW⟩⟩
end Go.Proofs.YtlicffeicmoifaaGreatDoor
namespace Go.Proofs.YtlicffeicmoifaaGreatDoor
open Go.RowKit
set_option linter.unusedVariables false
def TextC (p K m : Nat) (w : World) (e : Ending) (w' : World) : Prop := ∃ s : ByteArray, e = .returned (.string s) ∧ (s.size ≤ m ∧ fineS s) ∧ Drawn p K w w'
theorem all_appP {ss : List ByteArray} {t : ByteArray} {m : Nat} (h : ∀ s ∈ ss, s.size ≤ m ∧ fineS s) (ht : t.size ≤ m ∧ fineS t) : ∀ s ∈ ss ++ [t], s.size ≤ m ∧ fineS s := fun s hs => by
 rcases List.mem_append.1 hs with h1 | h1
 · exact h s h1
 · rw [List.mem_singleton] at h1; subst h1; exact ht
set_option maxRecDepth 100000 in
set_option maxHeartbeats 1000000 in
theorem l25SubC_any (p K : Nat) (w : World) (h : SrcR w p K) (hK : K ≤ 549755813888) :
 Calls Tryz.prog 85 #[.pointer (some ⟨p, 0, none⟩)] w (TextC p (K + 2) 16 w) := by
 have HK1 := Lib.hid (text_any p K (some ⟨w.heap.size, 0, none⟩) 6 6 [⟨#[49]⟩, ⟨#[50]⟩, ⟨#[49, 48]⟩, ⟨#[120]⟩, ⟨#[45, 51]⟩, ⟨#[98]⟩] (w.alloc (.cells #[.string ⟨#[49]⟩, .string ⟨#[50]⟩, .string ⟨#[49, 48]⟩, .string ⟨#[120]⟩, .string ⟨#[45, 51]⟩, .string ⟨#[98]⟩] 9)) (h.later (Below.new _ _)) (by omega) (strs_lit w _ [⟨#[49]⟩, ⟨#[50]⟩, ⟨#[49, 48]⟩, ⟨#[120]⟩, ⟨#[45, 51]⟩, ⟨#[98]⟩] _ rfl) (by omega) (by omega))
 clear h
 go_enter Tryz.func85, Tryz.ntmps85
 go_wp2_with fail
 refine HK1.out.mono ?_
 rintro e w1 ⟨s, hs, rfl, hd⟩
 have hsz : s.size ≤ 16 ∧ fineS s := ⟨(by decide : ∀ s ∈ ([⟨#[49]⟩, ⟨#[50]⟩, ⟨#[49, 48]⟩, ⟨#[120]⟩, ⟨#[45, 51]⟩, ⟨#[98]⟩] : List ByteArray), s.size ≤ 16) s hs, fine_list s hs⟩
 have HD := Lib.hid (hd.pre (Below.new _ _))
 clear hd hs HK1
 go_wp2_with fail
 go_ret
 exact ⟨s, rfl, hsz, HD.out⟩
end Go.Proofs.YtlicffeicmoifaaGreatDoor
namespace Go.Proofs.YtlicffeicmoifaaGreatDoor
open Go.RowKit
set_option linter.unusedVariables false
def QryPost (nm : ByteArray) (ss : List ByteArray) (fs : List NodeD) (w : World) (e : Ending) (w' : World) : Prop :=
 ∃ v, e = .returned (.tuple #[v, .bool (decide (0 ≤ qryI nm ss fs))]) ∧ Own.SubO w' w.heap.size v (if 0 ≤ qryI nm ss fs then (fs.getD (qryI nm ss fs).toNat default).subs else []) ∧ Below w.heap.size w w'
set_option maxRecDepth 100000 in
set_option maxHeartbeats 1000000 in
theorem implSubsBefore_any (A A' : Option Addr) (n c n' c' : Nat) (ss ts : List ByteArray) (w : World) (htab : tabT w) (h : Strs w w.heap.size A n ss) (h' : Strs w w.heap.size A' n' ts) (hn : n ≤ 1048576) (hn' : n' ≤ 1048576) (hz : ∀ s ∈ ss, s.size ≤ 1048576) (hz' : ∀ s ∈ ts, s.size ≤ 1048576) :
 Calls Tryz.prog 297 #[.slice A n c, .slice A' n' c'] w fun e w' => e = .returned (.bool (lessS ss ts)) ∧ Below w.heap.size w w' := by
 have HK := Lib.hid (collateLists_any A A' n c n' c' ss ts w htab h h' hn hn' hz hz')
 have hE := colL_lt ss ts
 clear h h' hz hz' htab
 generalize lessS ss ts = R at *
 generalize colL ss ts = z at *
 go_enter Tryz.func297, Tryz.ntmps297
 go_wp2_with fail
 refine HK.out.mono ?_
 rintro e w1 ⟨rfl, hb1⟩
 have HB := Lib.hid hb1
 clear hb1
 have HE := Lib.hid hE
 clear hE
 go_wp2_with fail
 go_ret
 exact ⟨ret_bool HE.out, HB.out⟩
set_option maxRecDepth 100000 in
set_option maxHeartbeats 8000000 in
theorem specQueryOf_true (A : Option Addr) (n c : Nat) (fs : List NodeD) (nm : ByteArray) (S : Option Addr) (m q : Nat) (ss : List ByteArray) (w : World) (h : Nodes w w.heap.size A n fs) (ht : treeB fs = true) (hS : Strs w w.heap.size S m ss) (hm : m ≤ 1048576) (hth : thingB nm ss = true) (hns : nm.size ≤ 1048576) (hz : ∀ s ∈ ss, s.size ≤ 1048576) :
 Calls Tryz.prog 191 #[.agg #[.slice A n c], .string nm, .slice S m q] w (QryPost nm ss fs w) := by
 have HK1 := Lib.hid (fun W (hW : Below w.heap.size w W) => specTreeOk_any A n c fs W (h.later hW) (tree_small ht))
 have HK2 := Lib.hid (fun W (hW : Below w.heap.size w W) => l03Place_any nm S m q ss W hns (hS.later hW) hm hz)
 have Hh := Lib.hid h
 have Hlen := Lib.hid h.1
 have hn : n ≤ 120 := by rw [← h.1]; exact (tree_iff.1 ht).1
 have Hs := Lib.hid (tree_small ht)
 have Hst := Lib.hid hS
 have Hz := Lib.hid hz
 rw [ht] at HK1
 rw [hth] at HK2
 have HI0 : Hid (qryI nm ss fs = idxF (qryP nm ss) (fs.drop 0) 0) := rfl
 have HQP : Hid (∀ d, qryP nm ss d = (decide (d.name = nm) && lessS ss d.subs)) := fun _ => rfl
 have HST := Lib.hid (fun k (hk : k < n) => idxF_step (qryP nm ss) fs k (by rw [h.1]; exact hk))
 have HEN : Hid (idxF (qryP nm ss) (fs.drop n) n = -1) := by unfold Hid; rw [List.drop_of_length_le (by rw [h.1]; exact Nat.le_refl _)]; rfl
 have HQ : Hid (∀ v e w', e = .returned (.tuple #[v, .bool (decide (0 ≤ qryI nm ss fs))]) → Own.SubO w' w.heap.size v (if 0 ≤ qryI nm ss fs then (fs.getD (qryI nm ss fs).toNat default).subs else []) → Below w.heap.size w w' → QryPost nm ss fs w e w') := fun v e w' h1 h2 h3 => ⟨v, h1, h2, h3⟩
 clear h ht hS hth hz
 generalize qryI nm ss fs = I at *
 generalize QryPost nm ss fs w = POST at *
 have HBX : Hid (Below w.heap.size w (w.alloc (.cells #[.slice A n c] 26))) := Below.new _ _
 go_enter Tryz.func191, Tryz.ntmps191
 go_wp2_with fail
 refine (HK1.out _ HBX.out).mono ?_
 rintro e w1 ⟨rfl, hb1⟩
 have hbx0 := (Blk.later (heap_alloc_new w (.cells #[.slice A n c] 26)) hb1 (by simp))
 have HBX1 := Lib.hid (hb1.mono (show w.heap.size + 1 ≤ (w.alloc (.cells #[.slice A n c] 26)).heap.size by simp))
 have HB1 := Lib.hid (HBX.out.later hb1)
 have HX1 := Lib.hid hbx0
 have p0 := hbx0.cell 0
 simp at p0
 clear hb1 hbx0
 go_wp2_with fail
 refine (HK2.out _ HB1.out).mono ?_
 rintro e w2 ⟨rfl, rfl⟩
 have hz1 := HX1.out.lt
 clear p0
 have p0 := HX1.out.cell 0
 simp at p0
 go_wp2_with fail
 go_loopw [8] (fun i wr => ∃ (k : Nat), k ≤ n ∧ i = .int .i64 k ∧ Below (w.heap.size + 1) w1 wr ∧ Hid (I = idxF (qryP nm ss) (fs.drop k) k)) (fun i _ => n - (intOf i).toNat)
 case atStart => exact ⟨0, Nat.zero_le _, rfl, Below.refl _ _, HI0.out⟩
 case round =>
  obtain ⟨k, hk, rfl, hb, HI⟩ := hrel
  have p0 := (HX1.out.later hb (by omega)).cell 0
  have hzz : w.heap.size < wr.heap.size := Nat.lt_of_lt_of_le hz1 hb.size
  have HB := Lib.hid hb
  have HBw := Lib.hid (HB1.out.trans (hb.mono (by omega)))
  simp at p0
  clear hb
  by_cases hlt : k < n
  · have hki : (k : Int) < (n : Int) := by omega
    obtain ⟨bb, o, rfl, hbB, hc⟩ := (Hh.out.later HBw.out).2 (by omega)
    obtain ⟨c0, c1, c2, k0, k1, k2, hr⟩ := hc k hlt
    have HSK := Lib.hid (HST.out k hlt)
    have hsm := Hs.out.2 _ (getD_memD fs k (by rw [Hlen.out]; exact hlt))
    rw [HQP.out] at HSK
    have HGD : Hid (fs.getD k default = fs.getD k default) := rfl
    generalize hdd : fs.getD k default = d at *
    have HDD := Lib.hid hdd
    clear hc HGD hdd
    obtain ⟨rfl, ⟨A1, n1, p1, rfl, s1, _⟩, rfl⟩ := hr
    have hn1 : n1 ≤ 1048576 := by rw [← s1.1]; exact hsm.2.1.1
    have HKB := Lib.hid (fun W (hW : Below wr.heap.size wr W) => specSubsBefore_any S A1 m q n1 p1 ss d.subs W (Hst.out.later (HBw.out.later hW)) (s1.later hW) hm hn1 Hz.out hsm.2.1.2)
    have HKC := Lib.hid (fun W (hW : Below wr.heap.size wr W) => l03Subs_any A1 n1 p1 d.subs W (s1.later hW) hn1)
    have HRES : Hid (I = (k : Int) → (if 0 ≤ I then (fs.getD I.toNat default).subs else []) = d.subs) := fun e => by
     rw [e, if_pos (by omega), Int.toNat_natCast, HDD.out]
    clear s1 hsm
    generalize hdn : d.name = dn at *
    generalize d.val = vl at *
    by_cases hnm : dn = nm
    · obtain rfl := hnm.symm
      rw [decide_eq_true rfl, Bool.true_and] at HSK
      generalize lessS ss d.subs = y at *
      clear hdn
      go_wp2_with fail
      refine (HKB.out _ (Below.refl _ _)).mono ?_
      rintro e w3 ⟨rfl, hb1'⟩
      have hb1 : Below wr.heap.size wr w3 := (Below.refl _ _).later hb1'
      have p2 := cell_later hb1 p0
      have l1 := cell_later hb1 k1
      have HB3 := Lib.hid hb1
      clear hb1 hb1'
      cases y
      · have HI2 : Hid (I = idxF (qryP nm ss) (fs.drop (k + 1)) (k + 1)) := by unfold Hid; rw [HI.out, HSK.out, if_neg Bool.false_ne_true]
        go_wp2_with fail
        go_roundw
        case rel => exact ⟨k + 1, by omega, by go_num, HB.out.trans (HB3.out.mono (by omega)), HI2.out⟩
        case measure => simp [intOf]; omega
      · have HE : Hid (I = (k : Int)) := by unfold Hid; rw [HI.out, HSK.out, if_pos rfl]
        go_wp2_with fail
        refine (HKC.out _ HB3.out).mono ?_
        rintro e w4 ⟨A2, c2, rfl, _, ho2, hb2⟩
        have HB4 := Lib.hid ((HBw.out.later HB3.out).later hb2)
        have HO4 := Lib.hid (Own.own_base ho2 ((HBw.out.later HB3.out).size))
        clear hb2 ho2
        go_wp2_with fail
        refine HQ.out (.slice A2 n1 c2) _ _ ?_ ?_ HB4.out
        · rw [HE.out, decide_eq_true (by omega)]
          rfl
        · rw [HRES.out HE.out]
          exact HO4.out
    · rw [decide_eq_false hnm, Bool.false_and] at HSK
      have hne1 := str_beq hnm
      have hne2 := str_bne hnm
      clear hnm hdn
      have HI2 : Hid (I = idxF (qryP nm ss) (fs.drop (k + 1)) (k + 1)) := by unfold Hid; rw [HI.out, HSK.out, if_neg Bool.false_ne_true]
      go_wp2_with fail
      go_roundw
      case rel => exact ⟨k + 1, by omega, by go_num, HB.out, HI2.out⟩
      case measure => simp [intOf]; omega
  · obtain rfl : k = n := by omega
    have HE : Hid (I = -1) := by unfold Hid; rw [HI.out, HEN.out]
    go_wp2_with fail
    refine HQ.out (.slice none 0 0) _ _ ?_ ?_ HBw.out
    · rw [HE.out]
      rfl
    · rw [HE.out]
      exact Own.sub_nil _ _
set_option maxRecDepth 100000 in
set_option maxHeartbeats 8000000 in
theorem QueryOf_true (A : Option Addr) (n c : Nat) (fs : List NodeD) (nm : ByteArray) (S : Option Addr) (m q : Nat) (ss : List ByteArray) (w : World) (htab : tabT w) (h : Nodes w w.heap.size A n fs) (ht : treeB fs = true) (hS : Strs w w.heap.size S m ss) (hm : m ≤ 1048576) (hth : thingB nm ss = true) (hns : nm.size ≤ 1048576) (hz : ∀ s ∈ ss, s.size ≤ 1048576) :
 Calls Tryz.prog 247 #[.agg #[.slice A n c], .string nm, .slice S m q] w (QryPost nm ss fs w) := by
 have HK1 := Lib.hid (fun W (hW : Below w.heap.size w W) => TreeOk_any A n c fs W (h.later hW) (tab_later htab hW) (tree_small ht))
 have HK2 := Lib.hid (fun W (hW : Below w.heap.size w W) => locationOk_any nm S m q ss W hns (hS.later hW) hm hz)
 have Hh := Lib.hid h
 have Hlen := Lib.hid h.1
 have hn : n ≤ 120 := by rw [← h.1]; exact (tree_iff.1 ht).1
 have Hs := Lib.hid (tree_small ht)
 have Hst := Lib.hid hS
 have Hz := Lib.hid hz
 have HT := Lib.hid htab
 rw [ht] at HK1
 rw [hth] at HK2
 have HI0 : Hid (qryI nm ss fs = idxF (qryP nm ss) (fs.drop 0) 0) := rfl
 have HQP : Hid (∀ d, qryP nm ss d = (decide (d.name = nm) && lessS ss d.subs)) := fun _ => rfl
 have HST := Lib.hid (fun k (hk : k < n) => idxF_step (qryP nm ss) fs k (by rw [h.1]; exact hk))
 have HEN : Hid (idxF (qryP nm ss) (fs.drop n) n = -1) := by unfold Hid; rw [List.drop_of_length_le (by rw [h.1]; exact Nat.le_refl _)]; rfl
 have HQ : Hid (∀ v e w', e = .returned (.tuple #[v, .bool (decide (0 ≤ qryI nm ss fs))]) → Own.SubO w' w.heap.size v (if 0 ≤ qryI nm ss fs then (fs.getD (qryI nm ss fs).toNat default).subs else []) → Below w.heap.size w w' → QryPost nm ss fs w e w') := fun v e w' h1 h2 h3 => ⟨v, h1, h2, h3⟩
 clear h ht hS hth hz htab
 generalize qryI nm ss fs = I at *
 generalize QryPost nm ss fs w = POST at *
 have HBX : Hid (Below w.heap.size w (w.alloc (.cells #[.slice A n c] 26))) := Below.new _ _
 go_enter Tryz.func247, Tryz.ntmps247
 go_wp2_with fail
 refine (HK1.out _ HBX.out).mono ?_
 rintro e w1 ⟨rfl, hb1⟩
 have hbx0 := (Blk.later (heap_alloc_new w (.cells #[.slice A n c] 26)) hb1 (by simp))
 have HBX1 := Lib.hid (hb1.mono (show w.heap.size + 1 ≤ (w.alloc (.cells #[.slice A n c] 26)).heap.size by simp))
 have HB1 := Lib.hid (HBX.out.later hb1)
 have HX1 := Lib.hid hbx0
 have p0 := hbx0.cell 0
 simp at p0
 clear hb1 hbx0
 go_wp2_with fail
 refine (HK2.out _ HB1.out).mono ?_
 rintro e w2 ⟨rfl, rfl⟩
 have hz1 := HX1.out.lt
 clear p0
 have p0 := HX1.out.cell 0
 simp at p0
 go_wp2_with fail
 go_loopw [22] (fun i wr => ∃ (k : Nat), k ≤ n ∧ i = .int .i64 k ∧ Below (w.heap.size + 1) w1 wr ∧ Hid (I = idxF (qryP nm ss) (fs.drop k) k)) (fun i _ => n - (intOf i).toNat)
 case atStart => exact ⟨0, Nat.zero_le _, rfl, Below.refl _ _, HI0.out⟩
 case round =>
  obtain ⟨k, hk, rfl, hb, HI⟩ := hrel
  have p0 := (HX1.out.later hb (by omega)).cell 0
  have hzz : w.heap.size < wr.heap.size := Nat.lt_of_lt_of_le hz1 hb.size
  have HB := Lib.hid hb
  have HBw := Lib.hid (HB1.out.trans (hb.mono (by omega)))
  simp at p0
  clear hb
  by_cases hlt : k < n
  · have hki : (k : Int) < (n : Int) := by omega
    obtain ⟨bb, o, rfl, hbB, hc⟩ := (Hh.out.later HBw.out).2 (by omega)
    obtain ⟨c0, c1, c2, k0, k1, k2, hr⟩ := hc k hlt
    have HSK := Lib.hid (HST.out k hlt)
    have hsm := Hs.out.2 _ (getD_memD fs k (by rw [Hlen.out]; exact hlt))
    rw [HQP.out] at HSK
    have HGD : Hid (fs.getD k default = fs.getD k default) := rfl
    generalize hdd : fs.getD k default = d at *
    have HDD := Lib.hid hdd
    clear hc HGD hdd
    obtain ⟨rfl, ⟨A1, n1, p1, rfl, s1, _⟩, rfl⟩ := hr
    have hn1 : n1 ≤ 1048576 := by rw [← s1.1]; exact hsm.2.1.1
    have HKB := Lib.hid (fun W (hW : Below wr.heap.size wr W) => implSubsBefore_any S A1 m q n1 p1 ss d.subs W (tab_later HT.out (HBw.out.later hW)) (Hst.out.later (HBw.out.later hW)) (s1.later hW) hm hn1 Hz.out hsm.2.1.2)
    have HKC := Lib.hid (fun W (hW : Below wr.heap.size wr W) => CloneS_any A1 n1 p1 d.subs W (s1.later hW) hn1)
    have HRES : Hid (I = (k : Int) → (if 0 ≤ I then (fs.getD I.toNat default).subs else []) = d.subs) := fun e => by
     rw [e, if_pos (by omega), Int.toNat_natCast, HDD.out]
    clear s1 hsm
    generalize hdn : d.name = dn at *
    generalize d.val = vl at *
    have r0 := (show Blk _ _ _ _ from heap_alloc_new wr (.cells #[.string dn, .slice A1 n1 p1, .string vl] 89)).cell
    have q0 : (wr.alloc (.cells #[.string dn, .slice A1 n1 p1, .string vl] 89)).cell? ⟨wr.heap.size, 0, none⟩ = some (.string dn) := r0 0
    have q1 : (wr.alloc (.cells #[.string dn, .slice A1 n1 p1, .string vl] 89)).cell? ⟨wr.heap.size, 1, none⟩ = some (.slice A1 n1 p1) := r0 1
    have HWn := Lib.hid (Below.new wr (.cells #[.string dn, .slice A1 n1 p1, .string vl] 89))
    clear r0
    by_cases hnm : dn = nm
    · obtain rfl := hnm.symm
      rw [decide_eq_true rfl, Bool.true_and] at HSK
      generalize lessS ss d.subs = y at *
      clear hdn
      go_wp2_with fail
      refine (HKB.out _ HWn.out).mono ?_
      rintro e w3 ⟨rfl, hb1'⟩
      have hb1 : Below wr.heap.size wr w3 := HWn.out.later hb1'
      have l1 := cell_later hb1' q1
      have HB3 := Lib.hid hb1
      clear hb1 hb1'
      cases y
      · have HI2 : Hid (I = idxF (qryP nm ss) (fs.drop (k + 1)) (k + 1)) := by unfold Hid; rw [HI.out, HSK.out, if_neg Bool.false_ne_true]
        go_wp2_with fail
        go_roundw
        case rel => exact ⟨k + 1, by omega, by go_num, HB.out.trans (HB3.out.mono (by omega)), HI2.out⟩
        case measure => simp [intOf]; omega
      · have HE : Hid (I = (k : Int)) := by unfold Hid; rw [HI.out, HSK.out, if_pos rfl]
        go_wp2_with fail
        refine (HKC.out _ HB3.out).mono ?_
        rintro e w4 ⟨v2, rfl, ho2, hb2⟩
        have HB4 := Lib.hid ((HBw.out.later HB3.out).later hb2)
        have HO4 := Lib.hid (Own.own_base ho2 ((HBw.out.later HB3.out).size))
        clear hb2 ho2
        go_wp2_with fail
        refine HQ.out v2 _ _ ?_ ?_ HB4.out
        · rw [HE.out, decide_eq_true (by omega)]
          rfl
        · rw [HRES.out HE.out]
          exact HO4.out
    · rw [decide_eq_false hnm, Bool.false_and] at HSK
      have hne1 := str_beq hnm
      have hne2 := str_bne hnm
      clear hnm hdn
      have HI2 : Hid (I = idxF (qryP nm ss) (fs.drop (k + 1)) (k + 1)) := by unfold Hid; rw [HI.out, HSK.out, if_neg Bool.false_ne_true]
      go_wp2_with fail
      go_roundw
      case rel => exact ⟨k + 1, by omega, by go_num, (HB.out.trans (HWn.out.mono (by omega))), HI2.out⟩
      case measure => simp [intOf]; omega
  · obtain rfl : k = n := by omega
    have HE : Hid (I = -1) := by unfold Hid; rw [HI.out, HEN.out]
    go_wp2_with fail
    refine HQ.out (.slice none 0 0) _ _ ?_ ?_ HBw.out
    · rw [HE.out]
      rfl
    · rw [HE.out]
      exact Own.sub_nil _ _
end Go.Proofs.YtlicffeicmoifaaGreatDoor
namespace Go.Proofs.YtlicffeicmoifaaGreatDoor
open Go.RowKit
set_option linter.unusedVariables false
theorem data_snoc (nm : ByteArray) (ss : List ByteArray) (fs : List NodeD) (k : Nat) (hk : k < fs.length) : dataF nm ss (fs.take (k + 1)) = dataN nm ss (fs.getD k default) (dataF nm ss (fs.take k)) := by
 unfold dataF
 rw [List.take_add_one, List.getElem?_eq_getElem hk, List.foldl_append, List.getD_eq_getElem?_getD, List.getElem?_eq_getElem hk]
 rfl
set_option maxRecDepth 100000 in
set_option maxHeartbeats 4000000 in
theorem l03Data_any (A : Option Addr) (n c : Nat) (fs : List NodeD) (nm : ByteArray) (S : Option Addr) (m q : Nat) (ss : List ByteArray) (w : World) (h : Nodes w w.heap.size A n fs) (hs : smallNs fs) (h' : Strs w w.heap.size S m ss) (hm : m ≤ 1048576) :
 Calls Tryz.prog 250 #[.agg #[.slice A n c], .string nm, .slice S m q] w fun e w' => e = .returned (.int .i64 (dataF nm ss fs)) ∧ Below w.heap.size w w' := by
 have Hh := Lib.hid h
 have Hlen := Lib.hid h.1
 have hn : n ≤ 1048576 := by rw [← h.1]; exact hs.1
 have hl0 : fs.length = n := h.1
 have Hst := Lib.hid h'
 have Hsl : Hid (ss.length = m) := h'.1
 have HALL : Hid (dataF nm ss (fs.take n) = dataF nm ss fs) := by unfold Hid; rw [List.take_of_length_le (by omega)]
 have HSN : Hid (∀ k, k < n → dataF nm ss (fs.take (k + 1)) = dataN nm ss (fs.getD k default) (dataF nm ss (fs.take k))) := fun k hk => data_snoc nm ss fs k (by omega)
 clear h hs h' hl0
 generalize dataF nm ss fs = OUT at *
 generalize hD : (fun k => dataF nm ss (fs.take k)) = D at *
 have HD : Hid (∀ k, dataF nm ss (fs.take k) = D k) := by subst hD; exact fun _ => rfl
 have HD0 : Hid (D 0 = 0) := by subst hD; rfl
 clear hD
 have HS2 : Hid (∀ k, k < n → D (k + 1) = dataN nm ss (fs.getD k default) (D k)) := fun k hk => by rw [← HD.out, ← HD.out]; exact HSN.out k hk
 have HA2 : Hid (D n = OUT) := by unfold Hid; rw [← HD.out]; exact HALL.out
 clear HSN HALL HD
 go_enter Tryz.func250, Tryz.ntmps250
 go_wp2_with fail
 go_loopw [7, 8] (fun o i wr => ∃ (k : Nat) (z : Int), k ≤ n ∧ o = .int .i64 z ∧ i = .int .i64 k ∧ Hid (z = D k) ∧ 0 ≤ z ∧ z ≤ 20 + k ∧ Below (w.heap.size + 1) (w.alloc (.cells #[.slice A n c] 26)) wr) (fun _ i _ => n - (intOf i).toNat)
 case atStart => exact ⟨0, 0, Nat.zero_le _, rfl, rfl, HD0.out.symm, by omega, by omega, Below.refl _ _⟩
 case round =>
  obtain ⟨k, z, hk, rfl, rfl, HZ, hz0, hz1, hb⟩ := hrel
  have p0 := (Blk.later (heap_alloc_new w _) hb (by omega)).cell 0
  have hzz : w.heap.size < wr.heap.size := by have := hb.size; simp at this; omega
  have HB := Lib.hid hb
  have HBw := Lib.hid ((Below.new _ _).trans (hb.mono (by omega)))
  simp at p0
  clear hb
  by_cases hlt : k < n
  · have hki : (k : Int) < (n : Int) := by omega
    obtain ⟨bb, o, rfl, hbB, hc⟩ := (Hh.out.later HBw.out).2 (by omega)
    obtain ⟨c0, c1, c2, k0, k1, k2, hr⟩ := hc k hlt
    have HSK := Lib.hid (HS2.out k hlt)
    clear hc
    generalize fs.getD k default = d at *
    have HKI := Lib.hid (fun W (hW : Below wr.heap.size wr W) => l03In_any c0 c1 c2 S m q d nm ss W (hr.later hW) (Hst.out.later (HBw.out.later hW)) hm)
    obtain ⟨e0, ⟨A1, n1, cap1, e1, hs1, hcap1⟩, e2⟩ := hr
    have HDN : Hid (dataN nm ss d z = if inN nm ss d = true then (if n1 = m then z + 1 else if z < 10 then z + 10 else z) else z) := by
     unfold Hid dataN
     rw [hs1.1, Hsl.out]
    have HN : Hid (D (k + 1) = dataN nm ss d z) := by unfold Hid; rw [HSK.out, ← HZ.out]
    subst e0 e1 e2
    clear hs1 HSK
    generalize inN nm ss d = y at *
    generalize dataN nm ss d z = zn at *
    go_wp2_with fail
    refine (HKI.out _ (by first | exact Below.refl _ _ | exact (Below.refl _ _).drew | exact below_drewN (Below.refl _ _) _)).mono ?_
    rintro e w1 ⟨rfl, hb1'⟩
    have hb1 : Below wr.heap.size wr w1 := by first | exact hb1' | exact undrew hb1' | exact undrewN hb1'
    have HB1 := Lib.hid (HB.out.trans (hb1.mono (by omega)))
    have p1 := cell_later hb1 p0
    have l0 := cell_later hb1 k0
    have l1 := cell_later hb1 k1
    have l2 := cell_later hb1 k2
    clear hb1 hb1' p0 k0 k1 k2 HKI
    cases y
    · have HE : Hid (z = D (k + 1)) := by unfold Hid; rw [HN.out, HDN.out, if_neg (by decide)]
      go_wp2_with fail
      go_roundw
      case rel => exact ⟨k + 1, z, by omega, rfl, by go_num, HE.out, hz0, by omega, HB1.out⟩
      case measure => simp [intOf]; omega
    · by_cases hnm : n1 = m
      · have HE : Hid (z + 1 = D (k + 1)) := by unfold Hid; rw [HN.out, HDN.out, if_pos rfl, if_pos hnm]
        subst hnm
        have hwz : IntKind.i64.wrap (z + 1) = z + 1 := by rw [IntKind.wrap_i64]; omega
        go_wp2_with fail
        go_roundw
        case rel => exact ⟨k + 1, z + 1, by omega, by go_num, by go_num, HE.out, by omega, by omega, HB1.out⟩
        case measure => simp [intOf]; omega
      · have hnb : ((n1 : Int) == (m : Int)) = false := by rw [beq_eq_false_iff_ne]; omega
        have hnb2 : (n1 == m) = false := by rw [beq_eq_false_iff_ne]; exact hnm
        by_cases hz10 : z < 10
        · have HE : Hid (z + 10 = D (k + 1)) := by unfold Hid; rw [HN.out, HDN.out, if_pos rfl, if_neg hnm, if_pos hz10]
          have hwz : IntKind.i64.wrap (z + 10) = z + 10 := by rw [IntKind.wrap_i64]; omega
          go_wp2_with fail
          go_roundw
          case rel => exact ⟨k + 1, z + 10, by omega, by go_num, by go_num, HE.out, by omega, by omega, HB1.out⟩
          case measure => simp [intOf]; omega
        · have HE : Hid (z = D (k + 1)) := by unfold Hid; rw [HN.out, HDN.out, if_pos rfl, if_neg hnm, if_neg hz10]
          go_wp2_with fail
          go_roundw
          case rel => exact ⟨k + 1, z, by omega, rfl, by go_num, HE.out, hz0, by omega, HB1.out⟩
          case measure => simp [intOf]; omega
  · obtain rfl : k = n := by omega
    have HE : Hid (z = OUT) := by unfold Hid; rw [HZ.out, HA2.out]
    go_wp2_with fail
    go_ret
    exact ⟨by first | rfl | (rw [HE.out]; rfl), HBw.out⟩
set_option maxRecDepth 100000 in
set_option maxHeartbeats 4000000 in
theorem DataOf_any (A : Option Addr) (n c : Nat) (fs : List NodeD) (nm : ByteArray) (S : Option Addr) (m q : Nat) (ss : List ByteArray) (w : World) (h : Nodes w w.heap.size A n fs) (hs : smallNs fs) (h' : Strs w w.heap.size S m ss) (hm : m ≤ 1048576) (hnm : nm.size ≤ 1048576) (hz : ∀ s ∈ ss, s.size ≤ 1048576) :
 Calls Tryz.prog 189 #[.agg #[.slice A n c], .string nm, .slice S m q] w fun e w' => e = .returned (.int .i64 (dataB fs nm ss)) ∧ Below w.heap.size w w' := by
 have HK1 := Lib.hid (fun W (hW : Below w.heap.size w W) => specTreeOk_any A n c fs W (h.later hW) hs)
 have HK2 := Lib.hid (fun W (hW : Below w.heap.size w W) => l03Place_any nm S m q ss W hnm (h'.later hW) hm hz)
 have HK3 := Lib.hid (fun W (hW : Below w.heap.size w W) => l03Data_any A n c fs nm S m q ss W (h.later hW) hs (h'.later hW) hm)
 have HR : Hid (dataB fs nm ss = if (treeB fs && thingB nm ss) = true then dataF nm ss fs else 0) := rfl
 clear h h' hs hz
 generalize dataB fs nm ss = R at *
 generalize treeB fs = x at *
 generalize thingB nm ss = y at *
 generalize dataF nm ss fs = z at *
 have HBX : Hid (Below w.heap.size w (w.alloc (.cells #[.slice A n c] 26))) := Below.new _ _
 go_enter Tryz.func189, Tryz.ntmps189
 go_wp2_with fail
 refine (HK1.out _ (by exact HBX.out)).mono ?_
 rintro e w1 ⟨rfl, hb1⟩
 have HB1 := Lib.hid (HBX.out.later hb1)
 have p0 := (Blk.later (heap_alloc_new w (.cells #[.slice A n c] 26)) hb1 (by simp)).cell 0
 simp at p0
 clear hb1
 cases x
 · go_wp2_with fail
   go_ret
   exact ⟨by rw [HR.out]; rfl, HB1.out⟩
 · go_wp2_with fail
   refine (HK2.out _ HB1.out).mono ?_
   rintro e w2 ⟨rfl, rfl⟩
   cases y
   · go_wp2_with fail
     go_ret
     exact ⟨by rw [HR.out]; rfl, HB1.out⟩
   · go_wp2_with fail
     refine (HK3.out _ HB1.out).mono ?_
     rintro e w3 ⟨rfl, hb3⟩
     go_wp2_with fail
     go_ret
     exact ⟨by rw [HR.out]; rfl, HB1.out.later hb3⟩
end Go.Proofs.YtlicffeicmoifaaGreatDoor
