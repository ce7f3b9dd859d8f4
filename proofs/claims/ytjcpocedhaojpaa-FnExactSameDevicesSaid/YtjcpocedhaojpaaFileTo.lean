/-
  What toFile, toFileS, eqFile and eqFileS compute.
-/
import Derived.Test.YtjcpocedhaojpaaFile
import Derived.Test.YtjcpocedhaojpaaBlk
namespace Go.Proofs.Ytjcpocedhaojpaa
open Go.RowKit

set_option maxHeartbeats 400000 in
theorem toFile_any (c0 c1 c2 c3 : Value) (d : FileD) (w : World) (h : FileR w w.heap.size c0 c1 c2 c3 d) (hn : d.lines.length ≤ 1048576) :
    Calls Try.prog 53 #[.agg #[c0, c1, c2, c3]] w fun e w' => ∃ g, e = .returned (.agg #[.string d.name, .slice (some ⟨g, 0, none⟩) d.lines.length d.lines.length, .string d.part, .int .i64 d.at_]) ∧
      Blk w' g 9 (strArr d.lines) ∧ w.heap.size ≤ g ∧ Below w.heap.size w w' := by
  obtain ⟨rfl, ⟨A, n, cap, rfl, hs⟩, rfl, rfl⟩ := h
  obtain rfl : d.lines.length = n := hs.1
  have K := fun W (hW : Strs W W.heap.size A d.lines.length d.lines) => toStringS_any A d.lines.length cap d.lines W hW hn
  have HK := Lib.hid K
  have Hh := Lib.hid hs
  clear K hs hn
  generalize d.lines.length = n at *
  go_enter Try.func53, Try.ntmps53
  go_wp2_with fail
  refine (HK.out _ (((Hh.out.alloc _).alloc _).alloc _)).mono ?_
  rintro e w1 ⟨rfl, rfl⟩
  go_wp2_with fail
  refine bodyPost_ret (v := .agg #[.string d.name, .slice (some ⟨w.heap.size + 1 + 1 + 1, 0, none⟩) n n, .string d.part, .int .i64 d.at_]) (by simp [results, Try.results53, go_sem]) rfl ⟨_, rfl, ?_, by omega, ?_⟩
  · exact heap_last (by simp)
  · exact ((((Below.refl _ _).alloc (Nat.le_refl _) _).alloc (by simp) _).alloc (by simp; omega) _).alloc (by simp; omega) _

theorem infoFile : (Try.prog.info? 57).map (fun i => (i.zero, i.size, i.bytes)) = some (some (.agg #[.string .empty, .slice none 0 0, .string .empty, .int .i64 0]), 4, 64) := by kernel_rfl

/-- The files that toFileS has laid so far, in the cells cs of block g. -/
def Laid (w : World) (g : Nat) (cs : Array Value) (fs : List FileD) (k : Nat) : Prop :=
  ∀ j, j < k → ∃ gj, g < gj ∧ cs[j * 4]? = some (.string (fs.getD j default).name) ∧ cs[j * 4 + 1]? = some (.slice (some ⟨gj, 0, none⟩) (fs.getD j default).lines.length (fs.getD j default).lines.length) ∧
    cs[j * 4 + 2]? = some (.string (fs.getD j default).part) ∧ cs[j * 4 + 3]? = some (.int .i64 (fs.getD j default).at_) ∧ Blk w gj 9 (strArr (fs.getD j default).lines)

set_option maxHeartbeats 1000000 in
theorem toFileS_any (A : Option Addr) (n c : Nat) (fs : List FileD) (w : World) (h : Files w w.heap.size A n fs) (hf : ∀ d ∈ fs, d.lines.length ≤ 1048576) (hn : n ≤ 1048576) :
    Calls Try.prog 35 #[.slice A n c] w fun e w' => ∃ cs, e = .returned (.slice (some ⟨w.heap.size, 0, none⟩) n n) ∧ Blk w' w.heap.size 57 cs ∧ Laid w' w.heap.size cs fs n ∧ Below w.heap.size w w' := by
  have Hh := Lib.hid h
  have Hlen := Lib.hid h.1
  have Hf := Lib.hid hf
  clear h hf
  obtain ⟨i0, hi, hz0, hz1, hz2⟩ := info_parts infoFile
  have hmk := fun W => run_make_rowN (P := Try.prog) 38 57 i0 _ Try.underlying38 hi hz0 .i64 .i64 n n (Nat.le_refl _) (by rw [hz2]; omega) (by omega) W
  simp only [hz1] at hmk
  clear hz0 hz1 hz2 hi
  go_enter Try.func35, Try.ntmps35
  go_wp2_with fail
  clear hmk
  go_loopw [4] (fun i wr => ∃ (k : Nat) (cs : Array Value), k ≤ n ∧ i = .int .i64 k ∧ Below w.heap.size w wr ∧ Blk wr w.heap.size 57 cs ∧ Hid (cs.size = n * 4) ∧ Laid wr w.heap.size cs fs k) (fun i _ => n - (intOf i).toNat)
  case atStart => exact ⟨0, _, Nat.zero_le _, rfl, Below.new _ _, heap_alloc_new _ _, size_madeCells _ _, fun j hj => absurd hj (by omega)⟩
  case round =>
    obtain ⟨k, cs, hk, rfl, hb, hblk, hsz, hlaid⟩ := hrel
    have HB := Lib.hid hb
    have HK := Lib.hid hblk
    have HL := Lib.hid hlaid
    clear hb hblk hlaid
    by_cases hlt : k < n
    · obtain ⟨b, o, rfl, hbB, hc⟩ := (Hh.out.later HB.out).2 (by omega)
      obtain ⟨c0, c1, c2, c3, k0, k1, k2, k3, hr⟩ := hc k hlt
      clear hc
      have hl' : k < fs.length := by rw [Hlen.out]; exact hlt
      have HC := Lib.hid (toFile_any c0 c1 c2 c3 (fs.getD k default) wr hr (Hf.out (fs.getD k default) (by rw [List.getD_eq_getElem?_getD, List.getElem?_eq_getElem hl']; simp)))
      clear hl' hr
      have HD := Lib.hid (rfl : fs.getD k default = fs.getD k default)
      generalize hd : fs.getD k default = d at *
      have HD := Lib.hid hd
      clear hd
      go_wp2_with fail
      refine (HC.out).mono ?_
      rintro e w1 ⟨gk, rfl, hbk, hge, hb1⟩
      have HB1 := Lib.hid (HB.out.later hb1)
      have hlt1 := HK.out.lt
      have HK1 := Lib.hid (HK.out.later hb1 hlt1)
      have HLL : Hid (Laid w1 w.heap.size cs fs k) := fun j hj => by
        obtain ⟨gj, hgj, e0, e1, e2, e3, hbj⟩ := HL.out j hj
        exact ⟨gj, hgj, e0, e1, e2, e3, hbj.later hb1 hbj.lt⟩
      have HBK := Lib.hid hbk
      have hgk : w.heap.size < gk := by omega
      clear hb1 hbk hge
      have hs4 : k * 4 + 3 < cs.size := by rw [hsz.out]; omega
      have x0 := (HK1.out.cell (k * 4)).trans (Array.getElem?_eq_getElem (show k * 4 < cs.size by omega))
      have x1 := (HK1.out.cell (k * 4 + 1)).trans (Array.getElem?_eq_getElem (show k * 4 + 1 < cs.size by omega))
      have x2 := (HK1.out.cell (k * 4 + 2)).trans (Array.getElem?_eq_getElem (show k * 4 + 2 < cs.size by omega))
      have x3 := (HK1.out.cell (k * 4 + 3)).trans (Array.getElem?_eq_getElem (show k * 4 + 3 < cs.size by omega))
      have y0 := HK1.out.frozen (k * 4)
      have y1 := HK1.out.frozen (k * 4 + 1)
      have y2 := HK1.out.frozen (k * 4 + 2)
      have y3 := HK1.out.frozen (k * 4 + 3)
      generalize cs[k * 4] = v0 at *
      generalize cs[k * 4 + 1] = v1 at *
      generalize cs[k * 4 + 2] = v2 at *
      generalize cs[k * 4 + 3] = v3 at *
      go_wp2_with fail
      go_roundw
      case rel =>
        refine ⟨k + 1, ((((cs.setIfInBounds (k * 4) (.string d.name)).setIfInBounds (k * 4 + 1) (.slice (some ⟨gk, 0, none⟩) d.lines.length d.lines.length)).setIfInBounds (k * 4 + 2) (.string d.part)).setIfInBounds (k * 4 + 3) (.int .i64 d.at_)), by omega, by go_num, ?_, (((HK1.out.set_ _ _).set_ _ _).set_ _ _).set_ _ _, ?_, ?_⟩
        · exact (((HB1.out.setCell (p := ⟨w.heap.size, k * 4, none⟩) (Nat.le_refl _) _).setCell (p := ⟨w.heap.size, k * 4 + 1, none⟩) (Nat.le_refl _) _).setCell (p := ⟨w.heap.size, k * 4 + 2, none⟩) (Nat.le_refl _) _).setCell (p := ⟨w.heap.size, k * 4 + 3, none⟩) (Nat.le_refl _) _
        · unfold Hid; simp [hsz.out]
        · intro j hj
          by_cases e : j = k
          · subst e
            refine ⟨gk, hgk, ?_, ?_, ?_, ?_, (((HBK.out.far (p := ⟨w.heap.size, _, none⟩) (by simp; omega) _).far (p := ⟨w.heap.size, _, none⟩) (by simp; omega) _).far (p := ⟨w.heap.size, _, none⟩) (by simp; omega) _).far (p := ⟨w.heap.size, _, none⟩) (by simp; omega) _ |> fun x => by rw [HD.out]; exact x⟩
            all_goals rw [HD.out]; simp only [Array.getElem?_setIfInBounds, Array.size_setIfInBounds, if_true]; repeat (first | rw [if_neg (by omega)] | rw [if_pos (by omega)])
          · obtain ⟨gj, hgj, e0, e1, e2, e3, hbj⟩ := HLL.out j (by omega)
            refine ⟨gj, hgj, ?_, ?_, ?_, ?_, (((hbj.far (p := ⟨w.heap.size, _, none⟩) (by simp; omega) _).far (p := ⟨w.heap.size, _, none⟩) (by simp; omega) _).far (p := ⟨w.heap.size, _, none⟩) (by simp; omega) _).far (p := ⟨w.heap.size, _, none⟩) (by simp; omega) _⟩
            all_goals simp only [Array.getElem?_setIfInBounds, Array.size_setIfInBounds]; repeat rw [if_neg (by omega)]
            all_goals first | exact e0 | exact e1 | exact e2 | exact e3
      case measure => simp [intOf]; omega
    · obtain rfl : k = n := by omega
      go_wp2_with fail
      go_ret
      exact ⟨cs, rfl, HK.out, HL.out, HB.out⟩

theorem Laid.files {w : World} {g : Nat} {cs : Array Value} {fs : List FileD} {t : TypeId} (hb : Blk w g t cs) (h : Laid w g cs fs fs.length) : Files w w.heap.size (some ⟨g, 0, none⟩) fs.length fs :=
  ⟨rfl, fun _ => ⟨g, 0, rfl, hb.lt, fun j hj => by
    obtain ⟨gj, hgj, e0, e1, e2, e3, hbj⟩ := h j hj
    have hc := hb.cell
    refine ⟨_, _, _, _, by rw [hc, Nat.zero_add]; exact e0, by rw [hc, Nat.zero_add]; exact e1, by rw [hc, Nat.zero_add]; exact e2, by rw [hc, Nat.zero_add]; exact e3, rfl, ⟨_, _, _, rfl, ?_⟩, rfl, rfl⟩
    exact ⟨rfl, fun _ => ⟨gj, 0, rfl, hbj.lt, fun i hi => by rw [hbj.cell, Nat.zero_add]; exact strArr_at _ i hi⟩⟩⟩⟩

def eqF (a b : FileD) : Bool := decide (a.name = b.name) && eqS a.lines b.lines && decide (a.part = b.part) && decide (a.at_ = b.at_)

theorem str_bne {a b : ByteArray} (h : a ≠ b) : (!a.toList == b.toList) = true := by
  cases hx : (!a.toList == b.toList)
  · exact absurd (str_eq hx) h
  · rfl

set_option maxHeartbeats 1000000 in
theorem eqFile_any (c0 c1 c2 c3 d0 d1 d2 d3 : Value) (a b : FileD) (w : World) (h : FileR w w.heap.size c0 c1 c2 c3 a) (h' : FileR w w.heap.size d0 d1 d2 d3 b) (hn : a.lines.length ≤ 1048576) (hn' : b.lines.length ≤ 1048576) :
    Calls Try.prog 54 #[.agg #[c0, c1, c2, c3], .agg #[d0, d1, d2, d3]] w fun e w' => e = .returned (.bool (eqF a b)) ∧ Below w.heap.size w w' := by
  obtain ⟨rfl, ⟨A, n, cap, rfl, hs⟩, rfl, rfl⟩ := h
  obtain ⟨rfl, ⟨A', n', cap', rfl, hs'⟩, rfl, rfl⟩ := h'
  rw [hs.1] at hn
  rw [hs'.1] at hn'
  have K := fun W (hW : Strs W W.heap.size A n a.lines) (hW' : Strs W W.heap.size A' n' b.lines) => eqStringS_any A A' n cap n' cap' a.lines b.lines W hW hW' hn hn'
  have HK := Lib.hid K
  have Hh := Lib.hid hs
  have Hh' := Lib.hid hs'
  have hbb : ∀ o o' q, Below w.heap.size w (((w.alloc o).alloc o').drewN q) := fun o o' q => below_drewN ((Below.new w o).later (Below.new _ o')) q
  have HB := Lib.hid hbb
  have hR : eqF a b = eqF a b := rfl
  conv at hR => rhs; unfold eqF
  clear K hs hs' hbb
  generalize eqF a b = R at *
  generalize eqS a.lines b.lines = x at *
  generalize a.name = nm at *
  generalize b.name = nm' at *
  generalize a.part = pt at *
  generalize b.part = pt' at *
  generalize a.at_ = t at *
  generalize b.at_ = t' at *
  by_cases e1 : nm = nm'
  · subst e1
    by_cases e2 : pt = pt'
    · subst e2
      by_cases e3 : t = t'
      · subst e3
        have HE : Hid (R = x) := by unfold Hid; rw [hR]; simp
        clear hR
        go_enter Try.func54, Try.ntmps54
        go_wp2_with fail
        refine (HK.out _ ((Hh.out.alloc _).alloc _) ((Hh'.out.alloc _).alloc _)).mono ?_
        rintro e w1 ⟨rfl, q, rfl⟩
        cases x
        all_goals
          go_wp2_with fail
          go_ret
          exact ⟨ret_bool HE.out.symm, HB.out _ _ _⟩
      · have HE : Hid (R = false) := by unfold Hid; rw [hR]; simp [e3]
        have hb : (t != t') = true := by rw [bne_iff_ne]; exact e3
        clear hR e3
        go_enter Try.func54, Try.ntmps54
        go_wp2_with fail
        refine (HK.out _ ((Hh.out.alloc _).alloc _) ((Hh'.out.alloc _).alloc _)).mono ?_
        rintro e w1 ⟨rfl, q, rfl⟩
        cases x
        all_goals
          go_wp2_with fail
          go_ret
          exact ⟨ret_bool HE.out.symm, HB.out _ _ _⟩
    · have HE : Hid (R = false) := by unfold Hid; rw [hR]; simp [e2]
      have hb := str_bne e2
      clear hR e2
      go_enter Try.func54, Try.ntmps54
      go_wp2_with fail
      refine (HK.out _ ((Hh.out.alloc _).alloc _) ((Hh'.out.alloc _).alloc _)).mono ?_
      rintro e w1 ⟨rfl, q, rfl⟩
      cases x
      all_goals
        go_wp2_with fail
        go_ret
        exact ⟨ret_bool HE.out.symm, HB.out _ _ _⟩
  · have HE : Hid (R = false) := by unfold Hid; rw [hR]; simp [e1]
    have hb := str_bne e1
    clear hR e1
    go_enter Try.func54, Try.ntmps54
    go_wp2_with fail
    go_ret
    exact ⟨ret_bool HE.out.symm, HB.out _ _ 0⟩

/-- Whether two slices of files are equal. -/
def eqFL : List FileD → List FileD → Bool
  | [], [] => true
  | a :: l, b :: m => eqF a b && eqFL l m
  | _, _ => false
theorem eqFL_len : ∀ (a b : List FileD), a.length ≠ b.length → eqFL a b = false
  | [], [], h => absurd rfl h
  | _ :: _, [], _ => rfl
  | [], _ :: _, _ => rfl
  | x :: l, y :: m, h => by simp only [eqFL]; rw [eqFL_len l m (by simpa using h), Bool.and_false]
theorem eqFL_step (a b : List FileD) (k : Nat) (h : k < a.length) (h' : k < b.length) : eqFL (a.drop k) (b.drop k) = (eqF (a.getD k default) (b.getD k default) && eqFL (a.drop (k + 1)) (b.drop (k + 1))) := by
  rw [List.drop_eq_getElem_cons h, List.drop_eq_getElem_cons h']
  simp [eqFL, List.getD_eq_getElem?_getD, List.getElem?_eq_getElem h, List.getElem?_eq_getElem h']
theorem eqF_self (a : FileD) : eqF a a = true := by simp [eqF, eqS]
theorem eqFL_self : ∀ (a : List FileD), eqFL a a = true
  | [] => rfl
  | x :: l => by simp only [eqFL]; rw [eqF_self, eqFL_self l]; rfl
theorem getD_mem {α : Type} [Inhabited α] (l : List α) (k : Nat) (h : k < l.length) : l.getD k default ∈ l := by
  rw [List.getD_eq_getElem?_getD, List.getElem?_eq_getElem h]; simp

set_option maxHeartbeats 1000000 in
theorem eqFileS_any (A A' : Option Addr) (n c n' c' : Nat) (fs gs : List FileD) (w : World) (h : Files w w.heap.size A n fs) (h' : Files w w.heap.size A' n' gs) (hf : ∀ d ∈ fs, d.lines.length ≤ 1048576) (hf' : ∀ d ∈ gs, d.lines.length ≤ 1048576) (hn : n ≤ 1048576) (hn' : n' ≤ 1048576) :
    Calls Try.prog 40 #[.slice A n c, .slice A' n' c'] w fun e w' => e = .returned (.bool (eqFL fs gs)) ∧ Below w.heap.size w w' := by
  have Hh := Lib.hid h
  have Hh' := Lib.hid h'
  have Hlen := Lib.hid h.1
  have Hlen' := Lib.hid h'.1
  have Hf := Lib.hid hf
  have Hf' := Lib.hid hf'
  clear h h' hf hf'
  by_cases hne : n = n'
  · subst hne
    go_enter Try.func40, Try.ntmps40
    go_wp2_with fail
    go_loopw [5] (fun i wr => ∃ (k : Nat), k ≤ n ∧ i = .int .i64 k ∧ Below w.heap.size w wr ∧ Hid (eqFL fs gs = eqFL (fs.drop k) (gs.drop k))) (fun i _ => n - (intOf i).toNat)
    case atStart => exact ⟨0, Nat.zero_le _, rfl, Below.refl _ _, rfl⟩
    case round =>
      obtain ⟨k, hk, rfl, hb, hS⟩ := hrel
      have HB := Lib.hid hb
      clear hb
      by_cases hlt : k < n
      · obtain ⟨b, o, rfl, hbB, hc⟩ := (Hh.out.later HB.out).2 (by omega)
        obtain ⟨c0, c1, c2, c3, k0, k1, k2, k3, hr⟩ := hc k hlt
        obtain ⟨b', o', rfl, hbB', hc'⟩ := (Hh'.out.later HB.out).2 (by omega)
        obtain ⟨d0, d1, d2, d3, m0, m1, m2, m3, hr'⟩ := hc' k hlt
        clear hc hc'
        have hl1 : k < fs.length := by rw [Hlen.out]; exact hlt
        have hl2 : k < gs.length := by rw [Hlen'.out]; exact hlt
        have HS := Lib.hid (eqFL_step fs gs k hl1 hl2)
        have HK := Lib.hid (fun W (hW : Below wr.heap.size wr W) => eqFile_any c0 c1 c2 c3 d0 d1 d2 d3 _ _ W (hr.later hW) (hr'.later hW) (Hf.out _ (getD_mem fs k hl1)) (Hf'.out _ (getD_mem gs k hl2)))
        clear hr hr' hl1 hl2
        generalize eqF (fs.getD k default) (gs.getD k default) = x at *
        go_wp2_with fail
        go_region_held3 (fun w' => w'.cell? ⟨b, o + k * 4, none⟩ = some c0 ∧ w'.cell? ⟨b, o + k * 4 + 1, none⟩ = some c1 ∧ w'.cell? ⟨b, o + k * 4 + 2, none⟩ = some c2 ∧ w'.cell? ⟨b, o + k * 4 + 3, none⟩ = some c3 ∧ w'.cell? ⟨b', o' + k * 4, none⟩ = some d0 ∧ w'.cell? ⟨b', o' + k * 4 + 1, none⟩ = some d1 ∧ w'.cell? ⟨b', o' + k * 4 + 2, none⟩ = some d2 ∧ w'.cell? ⟨b', o' + k * 4 + 3, none⟩ = some d3) (first | exact ⟨k0, k1, k2, k3, m0, m1, m2, m3⟩ | exact ⟨cell_later hb1 k0, cell_later hb1 k1, cell_later hb1 k2, cell_later hb1 k3, cell_later hb1 m0, cell_later hb1 m1, cell_later hb1 m2, cell_later hb1 m3⟩)
          (first
            | (go_at_call 54; refine (HK.out _ (by exact (Below.refl _ _).drew)).mono ?_; rintro e w1 ⟨rfl, hb1'⟩; have hb1 := undrew hb1'; clear hb1'))
        have HB1 := Lib.hid (HB.out.later hb1)
        clear hb1
        cases x
        · have HE2 : Hid (eqFL fs gs = false) := by unfold Hid; rw [hS.out, HS.out]; rfl
          go_wp2_with fail
          go_ret
          exact ⟨ret_bool HE2.out.symm, HB1.out⟩
        · have HE2 : Hid (eqFL fs gs = eqFL (fs.drop (k + 1)) (gs.drop (k + 1))) := by unfold Hid; rw [hS.out, HS.out]; rfl
          go_wp2_with fail
          go_roundw
          case rel => exact ⟨k + 1, by omega, by go_num, HB1.out, HE2.out⟩
          case measure => simp [intOf]; omega
      · go_wp2_with fail
        go_ret
        exact ⟨ret_bool (by rw [hS.out, List.drop_of_length_le (by rw [Hlen.out]; omega), List.drop_of_length_le (by rw [Hlen'.out]; omega)]; rfl), HB.out⟩
  · have hb : ((n : Int) != (n' : Int)) = true := by rw [bne_iff_ne]; omega
    have hb2 : (n != n') = true := by rw [bne_iff_ne]; omega
    have HE2 : Hid (eqFL fs gs = false) := eqFL_len _ _ (by rw [Hlen.out, Hlen'.out]; exact hne)
    clear hne
    go_enter Try.func40, Try.ntmps40
    go_wp2_with fail
    go_ret
    exact ⟨ret_bool HE2.out.symm, Below.refl _ _⟩
end Go.Proofs.Ytjcpocedhaojpaa
