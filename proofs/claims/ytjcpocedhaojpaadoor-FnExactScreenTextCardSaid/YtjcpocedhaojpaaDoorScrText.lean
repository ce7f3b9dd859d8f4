/-
  What ScreenText of the reference and of the program compute: one and the same text.
-/
import Derived.Test.YtjcpocedhaojpaaDoorScrImpl
namespace Go.Proofs.YtjcpocedhaojpaaDoor
open Go.RowKit

/-- Where the blanks at the end begin, among the first n bytes. -/
def endN (s : ByteArray) : Nat → Nat
  | 0 => 0
  | n + 1 => if s.data.toList.getD n 0 = 32 then endN s n else n + 1
def trimmed (s : ByteArray) : ByteArray := s.extract 0 (endN s s.size)
theorem endN_le (s : ByteArray) : ∀ n, endN s n ≤ n
  | 0 => Nat.le_refl _
  | n + 1 => by
    unfold endN
    split
    · have := endN_le s n; omega
    · omega
/-- One row more: what is out, what waits. -/
def textStep (p : ByteArray × ByteArray) (s : ByteArray) : ByteArray × ByteArray :=
  if 0 < endN s s.size then (p.1 ++ (p.2 ++ trimmed s ++ ⟨#[10]⟩), ⟨#[]⟩) else (p.1, p.2 ++ trimmed s ++ ⟨#[10]⟩)
def scrText (ss : List ByteArray) : ByteArray := (ss.foldl textStep (⟨#[]⟩, ⟨#[]⟩)).1
def textOf (r c : Int) (ss : List ByteArray) : ByteArray := if scrOk r c ss = true then scrText ss else ⟨#[]⟩

theorem ret_str {a b : ByteArray} (h : a = b) : Ending.returned (.string a) = .returned (.string b) := by rw [h]
theorem foldl_take {α β : Type} (f : β → α → β) (b : β) (l : List α) (k : Nat) (h : k < l.length) : (l.take (k + 1)).foldl f b = f ((l.take k).foldl f b) l[k] := by
  rw [List.take_succ_eq_append_getElem h, List.foldl_append]; rfl
theorem trimmed_size (s : ByteArray) : (trimmed s).size = endN s s.size := by
  unfold trimmed
  have := endN_le s s.size
  simp [ByteArray.size_extract]
  omega

/-- What trimRightByte keeps: t is a beginning of s, and the blanks behind it do not matter. -/
def TrimInv (s t : ByteArray) : Prop := t.data.toList = s.data.toList.take t.size ∧ t.size ≤ s.size ∧ endN s s.size = endN s t.size

theorem TrimInv.start (s : ByteArray) : TrimInv s s := ⟨by rw [List.take_of_length_le (by rw [← Lib.size_eq]; omega)], Nat.le_refl _, rfl⟩
theorem TrimInv.byte {s t : ByteArray} (h : TrimInv s t) (k : Nat) (hk : k < t.size) : s.data.toList.getD k 0 = t[k] := by
  have h1 : t.data.toList[k]? = some t[k] := List.getElem?_eq_getElem (by rw [← Lib.size_eq]; exact hk)
  rw [h.1, List.getElem?_take_of_lt hk] at h1
  rw [List.getD_eq_getElem?_getD, h1]; rfl
theorem byte32 {b : UInt8} : ((b.toNat : Int) == 32) = true ↔ b = 32 := by
  rw [beq_iff_eq]
  constructor
  · intro h
    apply UInt8.toNat_inj.1
    show b.toNat = 32
    omega
  · rintro rfl; rfl
theorem TrimInv.step {s t : ByteArray} (h : TrimInv s t) (h0 : 0 < t.size) (hb : ((t[t.size - 1].toNat : Int) == 32) = true) : TrimInv s (t.extract 0 (t.size - 1)) ∧ (t.extract 0 (t.size - 1)).size = t.size - 1 := by
  have hsz : (t.extract 0 (t.size - 1)).size = t.size - 1 := by rw [ByteArray.size_extract]; omega
  refine ⟨⟨?_, by rw [hsz]; have := h.2.1; omega, ?_⟩, hsz⟩
  · rw [hsz, Lib.extract_data, h.1, List.drop_zero, List.take_take]
    congr 1; omega
  · rw [hsz, h.2.2]
    have e : t.size = (t.size - 1) + 1 := by omega
    have hbt := h.byte (t.size - 1) (by omega)
    conv => lhs; rw [e]
    unfold endN
    rw [if_pos (by rw [hbt]; exact byte32.1 hb)]
    cases t.size - 1 <;> rfl
theorem TrimInv.to {s t : ByteArray} (h : TrimInv s t) (he : endN s t.size = t.size) : t = trimmed s := by
  unfold trimmed
  apply bytes_ext
  rw [toList_data, toList_data, Lib.extract_data, h.2.2, he, h.1]
  simp
theorem TrimInv.stop {s t : ByteArray} (h : TrimInv s t) (h0 : 0 < t.size) (hb : ((t[t.size - 1].toNat : Int) == 32) = false) : t = trimmed s := by
  apply h.to
  have e : t.size = (t.size - 1) + 1 := by omega
  have hbt := h.byte (t.size - 1) (by omega)
  conv => lhs; rw [e]
  unfold endN
  rw [if_neg (by
    rw [hbt]
    intro hh
    rw [byte32.2 hh] at hb
    cases hb)]
  omega
theorem TrimInv.none {s t : ByteArray} (h : TrimInv s t) (h0 : ¬ 0 < t.size) : t = trimmed s := h.to (by rw [show t.size = 0 from by omega]; rfl)

def strLen (v : Value) : Nat := match v with | .string t => t.size | _ => 0

set_option maxHeartbeats 400000 in
theorem trimRightByte_any (s : ByteArray) (w : World) (hs : s.size ≤ 1048576) :
    Calls Tryd.prog 20 #[.string s, .int .u8 32] w fun e w' => e = .returned (.string (trimmed s)) ∧ w = w' := by
  go_enter Tryd.func20, Tryd.ntmps20
  go_wp2_with fail
  go_loop [0] (fun v => ∃ t : ByteArray, v = .string t ∧ t.size ≤ s.size ∧ TrimInv s t) (fun v => strLen v)
  case atStart => exact ⟨s, rfl, Nat.le_refl _, TrimInv.start s⟩
  case round =>
    obtain ⟨t, rfl, ht, hE⟩ := hrel
    have HE := Lib.hid hE
    clear hE
    by_cases h0 : 0 < t.size
    · go_wp2_with fail
      · go_round
        case rel =>
          have hst := HE.out.step h0 (by assumption)
          exact ⟨_, rfl, hst.1.2.1, hst.1⟩
        case measure =>
          have hst := HE.out.step h0 (by assumption)
          simp only [strLen]
          show (t.extract 0 (t.size - 1)).size < t.size
          omega
      · go_ret
        exact ⟨ret_str (HE.out.stop h0 (by assumption)), rfl⟩
    · have HN := Lib.hid (HE.out.none h0)
      go_wp2_with fail
      go_ret
      exact ⟨ret_str HN.out, rfl⟩

set_option maxRecDepth 100000 in
set_option maxHeartbeats 400000 in
theorem TrimRight_any (s : ByteArray) (w : World) (hs : s.size ≤ 1048576) :
    Calls Tryd.prog 13 #[.string s, .string ⟨#[32]⟩] w fun e w' => e = .returned (.string (trimmed s)) ∧ w = w' := by
  have HK := Lib.hid (trimRightByte_any s w hs)
  by_cases h0 : s.toList.isEmpty = true
  · have hE : trimmed s = s := by
      have h1 : s.toList = [] := by simpa using h0
      apply bytes_ext
      unfold trimmed
      rw [toList_data, Lib.extract_data, ← toList_data, h1]
      simp
    have HE := Lib.hid hE
    clear hE
    go_enter Tryd.func13, Tryd.ntmps13
    go_wp2_with fail
    go_ret
    exact ⟨ret_str HE.out.symm, rfl⟩
  · have h1 : s.toList.isEmpty = false := by simpa using h0
    clear h0
    go_enter Tryd.func13, Tryd.ntmps13
    go_wp2_with fail
    generalize hx : trimmed s = x at *
    have HX := Lib.hid hx
    clear hx
    refine HK.out.mono ?_
    rintro e w' ⟨rfl, rfl⟩
    go_wp2_with fail
    go_ret
    exact ⟨ret_str HX.out.symm, rfl⟩

theorem size_mk10 : (⟨#[10]⟩ : ByteArray).size = 1 := rfl
theorem size_mk0 : (⟨#[]⟩ : ByteArray).size = 0 := rfl
theorem textStep_size (p : ByteArray × ByteArray) (s : ByteArray) : (textStep p s).1.size + (textStep p s).2.size ≤ p.1.size + p.2.size + s.size + 1 := by
  have h1 := trimmed_size s
  have h2 := endN_le s s.size
  unfold textStep
  split <;> simp only [ByteArray.size_append, size_mk10, size_mk0] <;> omega

/-- The screen's rows, 20 bytes each. -/
theorem rows_of {r c : Int} {ss : List ByteArray} (h : scrOk r c ss = true) : ss.length = 6 ∧ ∀ s ∈ ss, s.size = 20 := by
  unfold scrOk at h
  simp only [Bool.and_eq_true, decide_eq_true_eq] at h
  refine ⟨h.1.1.1, fun s hs => ?_⟩
  have := List.all_eq_true.1 h.2 s hs
  unfold rowOk at this
  simp only [Bool.and_eq_true, decide_eq_true_eq] at this
  exact this.1

theorem append_nil_line (p t : ByteArray) : p ++ (t ++ ⟨#[10]⟩) = p ++ t ++ ⟨#[10]⟩ := by rw [ByteArray.append_assoc]

theorem lineBare' {t : ByteArray} (h : t.size = 0) : (!(t ++ ⟨#[10]⟩ : ByteArray).toList == (⟨#[10]⟩ : ByteArray).toList) = false := by
  have e : t = ⟨#[]⟩ := by
    apply bytes_ext
    rw [toList_data, toList_data]
    exact List.eq_nil_of_length_eq_zero (by rw [← Lib.size_eq]; exact h)
  subst e
  have e2 : (⟨#[]⟩ ++ ⟨#[10]⟩ : ByteArray) = ⟨#[10]⟩ := by apply ByteArray.ext; simp
  rw [e2]
  simp
theorem lineFull' {t : ByteArray} (h : 0 < t.size) : (!(t ++ ⟨#[10]⟩ : ByteArray).toList == (⟨#[10]⟩ : ByteArray).toList) = true := by
  cases hx : (!(t ++ ⟨#[10]⟩ : ByteArray).toList == (⟨#[10]⟩ : ByteArray).toList)
  · have e := str_eq hx
    have := congrArg ByteArray.size e
    rw [ByteArray.size_append, size_mk10] at this
    omega
  · rfl

theorem ten_list : (⟨#[10]⟩ : ByteArray).toList = [10] := by rw [toList_data]
theorem lineBare {t : ByteArray} (h : t.size = 0) : (!(t ++ ⟨#[10]⟩ : ByteArray).toList == [10]) = false := by
  have := lineBare' h
  rwa [ten_list] at this
theorem lineFull {t : ByteArray} (h : 0 < t.size) : (!(t ++ ⟨#[10]⟩ : ByteArray).toList == [10]) = true := by
  have := lineFull' h
  rwa [ten_list] at this

set_option maxHeartbeats 1000000 in
theorem implScreenText_any (r c : Int) (A : Option Addr) (n cap : Nat) (ss : List ByteArray) (w : World) (h : Strs w w.heap.size A n ss) (hn : n ≤ 1048576) :
    Calls Tryd.prog 7 #[.agg #[.int .i64 r, .int .i64 c, .slice A n cap]] w fun e w' => e = .returned (.string (textOf r c ss)) ∧ Below w.heap.size w w' := by
  have Hh := Lib.hid h
  have HK := Lib.hid (fun W hW => implScreenOk_any r c A n cap ss W (h.later hW) hn)
  have hR := rows_of (r := r) (c := c) (ss := ss)
  have hT : textOf r c ss = textOf r c ss := rfl
  conv at hT => rhs; unfold textOf
  clear h
  generalize textOf r c ss = R at *
  generalize scrOk r c ss = y at *
  go_enter Tryd.func7, Tryd.ntmps7
  go_wp2_with fail
  refine (HK.out _ (Below.new _ _)).mono ?_
  rintro e w1 ⟨rfl, hb1⟩
  have HX1 := Lib.hid hb1
  have HB1 := Lib.hid ((Below.new _ _).later hb1)
  clear hb1 HK
  cases y
  · have HE : Hid (R = ⟨#[]⟩) := by unfold Hid; rw [hT]; rfl
    clear hT hR
    go_wp2_with fail
    go_ret
    exact ⟨ret_str HE.out.symm, HB1.out⟩
  · obtain ⟨h6, h20⟩ := hR rfl
    have H20 := Lib.hid h20
    obtain rfl : n = 6 := Hh.out.1.symm.trans h6
    have HE : Hid (R = scrText ss) := by unfold Hid; rw [hT]; rfl
    have c2 := box_at HX1.out 2
    have H6 := Lib.hid h6
    clear hT hR h20 h6
    go_wp2_with fail
    go_loop [3, 4, 14] (fun t b i => ∃ (k : Nat) (p : ByteArray × ByteArray), k ≤ 6 ∧ i = .int .i64 k ∧ t = .string p.1 ∧ b = .string p.2 ∧ p.1.size + p.2.size ≤ 21 * k ∧ Hid (p = (ss.take k).foldl textStep (⟨#[]⟩, ⟨#[]⟩))) (fun _ _ i => 6 - (intOf i).toNat)
    case atStart => exact ⟨0, (⟨#[]⟩, ⟨#[]⟩), by omega, rfl, rfl, rfl, by simp [ByteArray.size], rfl⟩
    case round =>
      obtain ⟨k, p, hk, rfl, rfl, rfl, hsz, hP⟩ := hrel
      by_cases hlt : k < 6
      · obtain ⟨b, o, rfl, hbB, hc⟩ := (Hh.out.later HB1.out).2 (by omega)
        have hck := hc k hlt
        clear hc
        have hl : k < ss.length := by rw [H6.out]; exact hlt
        have hs20 := H20.out (ss.getD k ByteArray.empty) (by rw [List.getD_eq_getElem?_getD, List.getElem?_eq_getElem hl]; simp)
        have HS : Hid ((ss.take (k + 1)).foldl textStep (⟨#[]⟩, ⟨#[]⟩) = textStep p (ss.getD k ByteArray.empty)) := by unfold Hid; rw [foldl_take _ _ _ _ hl, ← hP.out, List.getD_eq_getElem?_getD, List.getElem?_eq_getElem hl]; rfl
        clear hl
        generalize ss.getD k ByteArray.empty = s at *
        have hss := textStep_size p s
        have ht := trimmed_size s
        have he := endN_le s s.size
        have HT := Lib.hid (TrimRight_any s w1 (by omega))
        have hts : (trimmed s).size ≤ 20 := by omega
        by_cases hpos : 0 < endN s s.size
        · have hST : textStep p s = (p.1 ++ (p.2 ++ trimmed s ++ ⟨#[10]⟩), ⟨#[]⟩) := if_pos hpos
          have hLF := lineFull (t := trimmed s) (by omega)
          have hss2 : (textStep p s).1.size + (textStep p s).2.size ≤ 21 * (k + 1) := by omega
          rw [hST] at hss2
          have HST := Lib.hid hST
          have HSS := Lib.hid hss2
          clear hss hss2 hST ht he hpos hs20
          generalize trimmed s = t at *
          obtain ⟨p1, p2⟩ := p
          simp only at hsz
          go_wp2_with fail
          refine HT.out.mono ?_
          rintro e w' ⟨rfl, rfl⟩
          go_wp2_with fail
          go_round
          case rel => exact ⟨k + 1, (p1 ++ (p2 ++ t ++ ⟨#[10]⟩), ⟨#[]⟩), by omega, by go_num, by rw [← append_nil_line], rfl, HSS.out, by unfold Hid; rw [HS.out, HST.out]⟩
          case measure => simp [intOf]; omega
        · have hST : textStep p s = (p.1, p.2 ++ trimmed s ++ ⟨#[10]⟩) := if_neg hpos
          have hLF := lineBare (t := trimmed s) (by omega)
          have hss2 : (textStep p s).1.size + (textStep p s).2.size ≤ 21 * (k + 1) := by omega
          rw [hST] at hss2
          have HST := Lib.hid hST
          have HSS := Lib.hid hss2
          clear hss hss2 hST ht he hpos hs20
          generalize trimmed s = t at *
          obtain ⟨p1, p2⟩ := p
          simp only at hsz
          go_wp2_with fail
          refine HT.out.mono ?_
          rintro e w' ⟨rfl, rfl⟩
          go_wp2_with fail
          go_round
          case rel => exact ⟨k + 1, (p1, p2 ++ t ++ ⟨#[10]⟩), by omega, by go_num, rfl, by rw [← append_nil_line], HSS.out, by unfold Hid; rw [HS.out, HST.out]⟩
          case measure => simp [intOf]; omega
      · obtain rfl : k = 6 := by omega
        have HE2 : Hid (p.1 = R) := by unfold Hid; rw [HE.out, hP.out, List.take_of_length_le (by rw [H6.out]; exact Nat.le_refl _)]; rfl
        go_wp2_with fail
        go_ret
        exact ⟨ret_str HE2.out, HB1.out⟩

theorem byte_at (s : ByteArray) (k : Nat) (hk : k < s.size) : s.data.toList.getD k 0 = s[k] := (TrimInv.start s).byte k hk
theorem endN_step (s : ByteArray) (m : Nat) (h0 : 0 < m) (hm : m ≤ s.size) (hb : ((s[m - 1].toNat : Int) == 32) = true) : endN s m = endN s (m - 1) := by
  have hbt := byte_at s (m - 1) (by omega)
  obtain ⟨j, rfl⟩ : ∃ j, m = j + 1 := ⟨m - 1, by omega⟩
  conv => lhs; unfold endN
  rw [if_pos (by
    have : s.data.toList.getD j 0 = s[j] := hbt
    rw [this]; exact byte32.1 hb)]
  rfl
theorem endN_stop (s : ByteArray) (m : Nat) (h0 : 0 < m) (hm : m ≤ s.size) (hb : ((s[m - 1].toNat : Int) == 32) = false) : endN s m = m := by
  have hbt := byte_at s (m - 1) (by omega)
  obtain ⟨j, rfl⟩ : ∃ j, m = j + 1 := ⟨m - 1, by omega⟩
  unfold endN
  rw [if_neg (by
    have : s.data.toList.getD j 0 = s[j] := hbt
    rw [this]
    intro hh
    have h2 : ((s[j + 1 - 1].toNat : Int) == 32) = true := byte32.2 hh
    rw [h2] at hb
    cases hb)]

theorem text_full (p1 p2 s : ByteArray) (m : Nat) (h0 : 0 < m) (h : endN s s.size = m) : textStep (p1, p2) s = (p1 ++ (p2 ++ s.extract 0 m ++ ⟨#[10]⟩), ⟨#[]⟩) := by
  unfold textStep trimmed
  rw [h, if_pos h0]
theorem text_bare (p1 p2 s : ByteArray) (h : endN s s.size = 0) : textStep (p1, p2) s = (p1, p2 ++ ⟨#[10]⟩) := by
  unfold textStep trimmed
  rw [h, if_neg (by omega)]
  have e : p2 ++ s.extract 0 0 = p2 := by
    apply bytes_ext
    rw [toList_data, toList_data, ByteArray.data_append, Array.toList_append, Lib.extract_data]
    simp
  rw [e]

set_option maxHeartbeats 2000000 in
theorem specScreenText_any (r c : Int) (A : Option Addr) (n cap : Nat) (ss : List ByteArray) (w : World) (h : Strs w w.heap.size A n ss) (hn : n ≤ 1048576) :
    Calls Tryd.prog 5 #[.agg #[.int .i64 r, .int .i64 c, .slice A n cap]] w fun e w' => e = .returned (.string (textOf r c ss)) ∧ Below w.heap.size w w' := by
  have Hh := Lib.hid h
  have HK := Lib.hid (fun W hW => specScreenOk_any r c A n cap ss W (h.later hW) hn)
  have hR := rows_of (r := r) (c := c) (ss := ss)
  have hT : textOf r c ss = textOf r c ss := rfl
  conv at hT => rhs; unfold textOf
  clear h
  generalize textOf r c ss = R at *
  generalize scrOk r c ss = y at *
  go_enter Tryd.func5, Tryd.ntmps5
  go_wp2_with fail
  refine (HK.out _ (Below.new _ _)).mono ?_
  rintro e w1 ⟨rfl, hb1⟩
  have HX1 := Lib.hid hb1
  have HB1 := Lib.hid ((Below.new _ _).later hb1)
  clear hb1 HK
  cases y
  · have HE : Hid (R = ⟨#[]⟩) := by unfold Hid; rw [hT]; rfl
    clear hT hR
    go_wp2_with fail
    go_ret
    exact ⟨ret_str HE.out.symm, HB1.out⟩
  · obtain ⟨h6, h20⟩ := hR rfl
    have H20 := Lib.hid h20
    obtain rfl : n = 6 := Hh.out.1.symm.trans h6
    have HE : Hid (R = scrText ss) := by unfold Hid; rw [hT]; rfl
    have c2 := box_at HX1.out 2
    have H6 := Lib.hid h6
    clear hT hR h20 h6
    go_wp2_with fail
    go_loop [3, 4, 5] (fun t b i => ∃ (k : Nat) (p : ByteArray × ByteArray), k ≤ 6 ∧ i = .int .i64 k ∧ t = .string p.1 ∧ b = .string p.2 ∧ p.1.size + p.2.size ≤ 21 * k ∧ Hid (p = (ss.take k).foldl textStep (⟨#[]⟩, ⟨#[]⟩))) (fun _ _ i => 6 - (intOf i).toNat)
    case atStart => exact ⟨0, (⟨#[]⟩, ⟨#[]⟩), by omega, rfl, rfl, rfl, by simp [ByteArray.size], rfl⟩
    case round =>
      obtain ⟨k, p, hk, rfl, rfl, rfl, hsz, hP⟩ := hrel
      by_cases hlt : k < 6
      · obtain ⟨b, o, rfl, hbB, hc⟩ := (Hh.out.later HB1.out).2 (by omega)
        have hck := hc k hlt
        clear hc
        have hl : k < ss.length := by rw [H6.out]; exact hlt
        have hs20 := H20.out (ss.getD k ByteArray.empty) (by rw [List.getD_eq_getElem?_getD, List.getElem?_eq_getElem hl]; simp)
        have HS : Hid ((ss.take (k + 1)).foldl textStep (⟨#[]⟩, ⟨#[]⟩) = textStep p (ss.getD k ByteArray.empty)) := by unfold Hid; rw [foldl_take _ _ _ _ hl, ← hP.out, List.getD_eq_getElem?_getD, List.getElem?_eq_getElem hl]; rfl
        clear hl
        generalize ss.getD k ByteArray.empty = s at *
        have hss := textStep_size p s
        have hss2 : (textStep p s).1.size + (textStep p s).2.size ≤ 21 * (k + 1) := by omega
        have HSS := Lib.hid hss2
        have hsl : s.size ≤ 20 := by omega
        clear hss hss2 hs20
        obtain ⟨p1, p2⟩ := p
        simp only at hsz
        go_wp2_with fail
        go_loop [6] (fun v => ∃ m : Nat, v = .int .i64 m ∧ m ≤ s.size ∧ Hid (endN s s.size = endN s m)) (fun v => (intOf v).toNat)
        case atStart => exact ⟨s.size, rfl, Nat.le_refl _, rfl⟩
        case round =>
          obtain ⟨m, rfl, hm, hN⟩ := hrel
          by_cases h0 : 0 < m
          · go_wp2_with fail
            · go_round
              case rel => exact ⟨m - 1, by congr 1; omega, by omega, by unfold Hid; rw [hN.out]; exact endN_step s m h0 hm (by assumption)⟩
              case measure => simp [intOf]; omega
            · have hst := endN_stop s m h0 hm (by assumption)
              have hfin := text_full p1 p2 s m h0 (hN.out.trans hst)
              go_round
              case rel => exact ⟨k + 1, textStep (p1, p2) s, by omega, by go_num, by rw [hfin], by rw [hfin], HSS.out, HS.out.symm⟩
              case measure => simp [intOf]; omega
          · obtain rfl : m = 0 := by omega
            have HF := Lib.hid (text_bare p1 p2 s hN.out)
            go_wp2_with fail
            go_round
            case rel => exact ⟨k + 1, textStep (p1, p2) s, by omega, by go_num, by rw [HF.out], by rw [HF.out], HSS.out, HS.out.symm⟩
            case measure => simp [intOf]; omega
      · obtain rfl : k = 6 := by omega
        have HE2 : Hid (p.1 = R) := by unfold Hid; rw [HE.out, hP.out, List.take_of_length_le (by rw [H6.out]; exact Nat.le_refl _)]; rfl
        go_wp2_with fail
        go_ret
        exact ⟨ret_str HE2.out, HB1.out⟩
end Go.Proofs.YtjcpocedhaojpaaDoor
