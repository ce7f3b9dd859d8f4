/-
  Locks of the program, behind a pointer: what acquire makes of locks of the call's own.
-/
import Derived.Test.YtiebcdajoddkpaaGreatDoorLkIns
namespace Go.Proofs.YtiebcdajoddkpaaGreatDoor
open Go.RowKit

theorem flat_take : ∀ (fs : List ItD) (vs : List Value) (i : Nat), vs.length = fs.length → (flat fs vs).take (i * 4) = flat (fs.take i) (vs.take i)
  | f :: fs, v :: vs, 0, _ => by simp [flat]
  | f :: fs, v :: vs, i + 1, h => by
    have ih := flat_take fs vs i (by simpa using h)
    rw [show (i + 1) * 4 = i * 4 + 4 by omega]
    simp [flat, cellsIt, ih]
  | [], [], i, _ => by simp [flat]
  | _ :: _, [], _, h => by simp at h
  | [], _ :: _, _, h => by simp at h
theorem flat_drop : ∀ (fs : List ItD) (vs : List Value) (i : Nat), vs.length = fs.length → (flat fs vs).drop (i * 4) = flat (fs.drop i) (vs.drop i)
  | f :: fs, v :: vs, 0, _ => by simp [flat]
  | f :: fs, v :: vs, i + 1, h => by
    have ih := flat_drop fs vs i (by simpa using h)
    rw [show (i + 1) * 4 = i * 4 + 4 by omega]
    simp [flat, cellsIt, ih]
  | [], [], i, _ => by simp [flat]
  | _ :: _, [], _, h => by simp at h
  | [], _ :: _, _, h => by simp at h
theorem flat_bump : ∀ (fs : List ItD) (vs : List Value) (i : Nat) (b : Int), vs.length = fs.length → i < fs.length →
    (flat fs vs).set (i * 4 + 1) (.int .i64 b) = flat (fs.set i { fs.getD i default with b := b }) vs
  | f :: fs, v :: vs, 0, b, _, _ => by simp [flat, cellsIt]
  | f :: fs, v :: vs, i + 1, b, h, hi => by
    have ih := flat_bump fs vs i b (by simpa using h) (by simpa using hi)
    rw [show (i + 1) * 4 + 1 = (i * 4 + 1) + 4 by omega]
    simp only [List.getD_eq_getElem?_getD] at ih
    simp [flat, cellsIt, ih]
  | [], _, _, _, _, hi => by simp at hi
  | _ :: _, [], _, _, h, _ => by simp at h
theorem flat_one : ∀ (fs : List ItD) (vs : List Value), vs.length = fs.length → (∀ v ∈ vs, v.oneCell' = true) → ∀ u ∈ flat fs vs, u.oneCell' = true
  | f :: fs, v :: vs, h, hv, u, hu => by
    simp only [flat, List.mem_append] at hu
    rcases hu with hu | hu
    · have : v.oneCell' = true := hv v (by simp)
      simp only [cellsIt, List.mem_cons, List.not_mem_nil, or_false] at hu
      rcases hu with rfl | rfl | rfl | rfl
      · rfl
      · rfl
      · rfl
      · exact this
    · exact flat_one fs vs (by simpa using h) (fun x hx => hv x (by simp [hx])) u hu
  | [], _, _, _, u, hu => by simp [flat] at hu
  | _ :: _, [], h, _, _, _ => by simp at h

def insAt {α : Type} (l : List α) (i : Nat) (x : α) : List α := l.take i ++ [x] ++ l.drop i
theorem insAt_getD {α : Type} (l : List α) (i : Nat) (x : α) (hi : i ≤ l.length) (j : Nat) (dd : α) : (insAt l i x).getD j dd = if j < i then l.getD j dd else if j = i then x else l.getD (j - 1) dd := by
  unfold insAt
  have ht : (l.take i).length = i := by rw [List.length_take]; omega
  simp only [List.getD_eq_getElem?_getD]
  by_cases h1 : j < i
  · rw [if_pos h1, List.append_assoc, List.getElem?_append_left (by omega), List.getElem?_take, if_pos h1]
  · rw [if_neg h1, List.append_assoc, List.getElem?_append_right (by omega), ht]
    by_cases h2 : j = i
    · subst h2; simp
    · rw [if_neg h2, List.getElem?_append_right (by simp; omega), List.getElem?_drop]
      congr 2
      simp; omega
theorem insAt_len {α : Type} (l : List α) (i : Nat) (x : α) (hi : i ≤ l.length) : (insAt l i x).length = l.length + 1 := by
  unfold insAt; simp; omega

theorem OwnIts.ins {w w' : World} {base t : Nat} {v v1 v' : Value} {fs : List ItD} {vs : List Value} {d : ItD} {i : Nat} (h : OwnIts w base t v fs vs) (hi : i ≤ fs.length) (hsub : SubO w base v' d.subs) (hap : ∀ u ∈ vs, apart u v')
    (hrow : w'.ownsRow base t 4 v1 (fs.length + 1) ((flat fs vs).take (i * 4) ++ cellsIt d v' ++ (flat fs vs).drop (i * 4))) (hg : w.grownBy w' v.ownBlock) (ht : 9 ≠ t) : OwnIts w' base t v1 (insAt fs i d) (insAt vs i v') := by
  have hvl := h.len
  refine ⟨by rw [insAt_len _ _ _ hi, insAt_len _ _ _ (by omega), hvl], ?_, fun j hj => ?_, ?_⟩
  · rw [insAt_len _ _ _ hi]
    unfold insAt
    rw [flat_append _ _ _ _ (by simp [hvl]), flat_append _ _ _ _ (by simp [hvl]), ← flat_take _ _ _ hvl, ← flat_drop _ _ _ hvl]
    simpa [flat] using hrow
  · rw [insAt_len _ _ _ hi] at hj
    rw [insAt_getD _ _ _ hi, insAt_getD _ _ _ (by omega)]
    by_cases h1 : j < i
    · rw [if_pos h1, if_pos h1]
      have hs := h.subs j (by omega)
      exact kept_apart hs hg (apart_types hs h.row ht)
    · rw [if_neg h1, if_neg h1]
      by_cases h2 : j = i
      · rw [if_pos h2, if_pos h2]
        exact kept_apart hsub hg (apart_types hsub h.row ht)
      · rw [if_neg h2, if_neg h2]
        have hs := h.subs (j - 1) (by omega)
        exact kept_apart hs hg (apart_types hs h.row ht)
  · unfold insAt
    have hp : (vs.take i ++ [v'] ++ vs.drop i).Perm (v' :: vs) := by
      rw [List.append_assoc]
      have := List.perm_middle (a := v') (l₁ := vs.take i) (l₂ := vs.drop i)
      rwa [List.take_append_drop] at this
    refine (hp.symm.pairwise ?_ (fun hab => apart_symm hab))
    exact List.Pairwise.cons (fun u hu => apart_symm (hap u hu)) h.aprt

theorem OwnIts.bump {w : World} {base t g cap : Nat} {fs : List ItD} {vs : List Value} {i : Nat} (h : OwnIts w base t (.slice (some ⟨g, 0, none⟩) fs.length cap) fs vs) (hi : i < fs.length) (b : Int) (ht : 9 ≠ t) :
    OwnIts (w.setCell ⟨g, i * 4 + 1, none⟩ (.int .i64 b)) base t (.slice (some ⟨g, 0, none⟩) fs.length cap) (fs.set i { fs.getD i default with b := b }) vs := by
  obtain ⟨h1, h2⟩ := h.row.stored (i * 4 + 1) (.int .i64 b)
  refine ⟨by simpa using h.len, ?_, fun j hj => ?_, h.aprt⟩
  · rw [← flat_bump fs vs i b h.len hi]
    simpa using h1
  · have hs := h.subs j (by simpa using hj)
    have hsub : ((fs.set i { fs.getD i default with b := b }).getD j default).subs = (fs.getD j default).subs := by
      simp only [List.getD_eq_getElem?_getD, List.getElem?_set]
      by_cases he : i = j
      · subst he; simp [hi]
      · simp [he]
    rw [hsub]
    exact World.ownsRow.kept hs h2 (apart_types hs h.row ht)
theorem own_one {w : World} {base e size n : Nat} {v : Value} {xs : List Value} (h : w.ownsRow base e size v n xs) : v.oneCell' = true := by
  rcases h.2 with ⟨rfl, _⟩ | ⟨g, cap, cur, rfl, _⟩ <;> rfl
theorem OwnIts.one {w : World} {base t : Nat} {v : Value} {fs : List ItD} {vs : List Value} (h : OwnIts w base t v fs vs) : ∀ u ∈ flat fs vs, u.oneCell' = true :=
  flat_one fs vs h.len fun v hv => by
    obtain ⟨j, hj, rfl⟩ := mem_getD hv
    exact own_one (h.subs j (by rw [← h.len]; exact hj))

/-- What acquire makes of the list. -/
def acqI (held : List ItD) (t : ItD) : List ItD :=
  if foundI held t = true then held.set (posI held t) { held.getD (posI held t) default with b := (held.getD (posI held t) default).b + 1 } else insAt held (posI held t) { t with b := 1 }
/-- Blocks that are no locks, no lock's and no ask's row stay as they were. -/
def Keeps (w w' : World) : Prop := ∀ g t cs, t ≠ 37 → t ≠ 42 → t ≠ 27 → Blk w g t cs → Blk w' g t cs
theorem Keeps.refl (w : World) : Keeps w w := fun _ _ _ _ _ _ h => h
theorem Keeps.trans {a b c : World} (h : Keeps a b) (k : Keeps b c) : Keeps a c := fun g t cs h1 h2 h3 hb => k g t cs h1 h2 h3 (h g t cs h1 h2 h3 hb)
theorem Keeps.of_below {a b : World} (h : Below a.heap.size a b) : Keeps a b := fun _ _ _ _ _ _ hb => hb.later h hb.lt
theorem Keeps.grown {a b : World} {v : Value} {base e size n : Nat} {xs : List Value} (hr : a.ownsRow base e size v n xs) (hg : a.grownBy b v.ownBlock) (he : e = 37 ∨ e = 42) : Keeps a b := fun g t cs h1 h2 h3 hb => hb.grown hg (fun e1 => own_blk_ne hr hb (by rcases he with rfl | rfl; exact fun e => h1 e.symm; exact fun e => h2 e.symm) e1.symm)
theorem Keeps.setCell {a : World} {p i t : Nat} {cs : Array Value} {u : Value} (hp : Blk a p t cs) (he : t = 37 ∨ t = 42 ∨ t = 27) : Keeps a (a.setCell ⟨p, i, none⟩ u) := fun g t' cs' h1 h2 h3 hb => hb.far (p := ⟨p, i, none⟩) (hb.ne_ hp (by rcases he with rfl | rfl | rfl; exact h1; exact h2; exact h3)) u
theorem Keeps.row {a b : World} (h : Keeps a b) {base e size n : Nat} {v : Value} {xs : List Value} (hr : a.ownsRow base e size v n xs) (h1 : e ≠ 37) (h2 : e ≠ 42) (h3 : e ≠ 27) : b.ownsRow base e size v n xs := by
  obtain ⟨hl, h4⟩ := hr
  refine ⟨hl, ?_⟩
  rcases h4 with h4 | ⟨g, cap, cur, e1, e2, e3, e4⟩
  · exact .inl h4
  · exact .inr ⟨g, cap, cur, e1, e2, h g e cur h1 h2 h3 e3, e4⟩

def AcqPost (B base p : Nat) (v1 : Value) (held' asks : List ItD) (us : List Value) (w : World) (e : Ending) (w' : World) : Prop :=
  e = .returned (.tuple #[]) ∧ ∃ v0 vs, LkO w' base p v0 v1 held' asks vs us ∧ Below B w w'

/-- Blocks of asks stay as they were. -/
def KeepsA (w w' : World) : Prop := ∀ g cs, Blk w g 42 cs → Blk w' g 42 cs
def AcqPostK (B base p : Nat) (v1 : Value) (held' asks : List ItD) (us : List Value) (w : World) (e : Ending) (w' : World) : Prop := AcqPost B base p v1 held' asks us w e w' ∧ Keeps w w' ∧ KeepsA w w'
set_option maxRecDepth 100000 in
set_option maxHeartbeats 2000000 in
theorem acquire_frm (B base p : Nat) (v0 v1 : Value) (held asks : List ItD) (vs us : List Value) (job : Int) (nm : ByteArray) (S : Option Addr) (m q : Nat) (ss : List ByteArray) (w : World) (htab : tabT w) (h : LkO w base p v0 v1 held asks vs us) (hB : B ≤ base) (hBw : base ≤ w.heap.size)
    (hs : smalls held) (hS : Strs w w.heap.size S m ss) (hmq : m ≤ q) (hst : (tgt job nm ss).small) (hmono : monoI held (tgt job nm ss)) (hroom : roomI held (tgt job nm ss) = true) (hb0 : ∀ d ∈ held, 0 ≤ d.b) :
    Calls Tryz.prog 91 #[.pointer (some ⟨p, 0, none⟩), .int .i64 job, .string nm, .slice S m q] w (AcqPostK B base p v1 (acqI held (tgt job nm ss)) asks us w) := by
  have HK := Lib.hid (hold_any p held asks job nm S m q ss w htab h.view hs hS hmq hst hmono)
  have hn := hs.1
  have hm : m ≤ 1048576 := by rw [← hS.1]; exact hst.2.1
  have HKC := Lib.hid (fun W (hW : Below w.heap.size w W) => CloneS_any S m q ss W (hS.later hW) hm)
  have HO := Lib.hid h
  have HP := Lib.hid (posI_le held (tgt job nm ss))
  have HA : Hid (acqI held (tgt job nm ss) = if foundI held (tgt job nm ss) = true then held.set (posI held (tgt job nm ss)) { held.getD (posI held (tgt job nm ss)) default with b := (held.getD (posI held (tgt job nm ss)) default).b + 1 } else insAt held (posI held (tgt job nm ss)) { tgt job nm ss with b := 1 }) := rfl
  have HFL : Hid (foundI held (tgt job nm ss) = true → posI held (tgt job nm ss) < held.length ∧ (held.getD (posI held (tgt job nm ss)) default).b < 9) := fun hf => by
    have hf2 := hf
    unfold foundI at hf2
    rw [Bool.and_eq_true, decide_eq_true_iff] at hf2
    refine ⟨hf2.1, ?_⟩
    unfold roomI at hroom
    rw [if_pos hf, decide_eq_true_iff] at hroom
    exact hroom
  have HB0 := Lib.hid hb0
  clear htab h hs hS hst hmono hroom hb0
  generalize acqI held (tgt job nm ss) = R at *
  go_enter Tryz.func91, Tryz.ntmps91
  go_wp2_with fail
  refine HK.out.mono ?_
  rintro e w1 ⟨rfl, hb1⟩
  have HB1 := Lib.hid hb1
  have HO1 := Lib.hid (HO.out.later hb1)
  clear hb1 HK
  generalize posI held (tgt job nm ss) = x at *
  generalize foundI held (tgt job nm ss) = y at *
  have hsz1 := HB1.out.size
  have p0 := HO1.out.blk.cell 0
  have f0 := HO1.out.blk.frozen 0
  have zp := HO1.out.blk.lt
  simp at p0
  cases y
  · have HE : Hid (R = insAt held x { tgt job nm ss with b := 1 }) := by unfold Hid; rw [HA.out]; rfl
    obtain ⟨A, cap, rfl, hcap, hcm, hA⟩ := own_slice HO1.out.h.row
    have HRW := Lib.hid HO1.out.h.row
    have HX1 := Lib.hid HO1.out.h.one
    have HVL := Lib.hid HO1.out.h.len
    clear hA HFL HA
    unfold maxLen at hcm
    generalize hN : held.length = n at *
    have HN := Lib.hid hN
    clear hN
    go_wp2_with fail
    go_region_with (first
      | (go_at_call 81
         refine (HKC.out _ (by exact HB1.out.drew)).mono ?_
         rintro e w2 ⟨v', rfl, hsub, hb2⟩
         have HSUB := Lib.hid hsub
         have HB2 := Lib.hid (undrew hb2)
         obtain ⟨A2, cap2, rfl, hcap2, _, _⟩ := own_slice hsub
         clear hsub hb2
         have p2 := (HO1.out.blk.later HB2.out zp).cell 0
         simp at p2
         have z2 := (HO1.out.blk.later HB2.out zp).lt
         have z3 := Nat.lt_succ_of_lt z2
         have HKI := Lib.hid (Insert_any base (.slice A n cap) n x (flat held vs) w2.heap.size (.int .i64 job) (.int .i64 1) (.string nm) (.slice A2 ss.length cap2) (w2.alloc (.cells #[.int .i64 job, .int .i64 1, .string nm, .slice A2 ss.length cap2] 37))
           (own_later (own_later HRW.out HB2.out) (Below.new _ _)) hn HP.out (by have := HB2.out.size; simp; omega) HX1.out (heap_alloc_new _ _)
           (fun e => by have := (World.ownsRow.lt (own_later HRW.out HB2.out) _ e).2; omega) (by simp [Value.oneCell'])))
      | (go_at_call 123
         refine HKI.out.mono ?_
         rintro e w3 ⟨v3, rfl, hown, hgrow⟩
         have hbg := ((HO1.out.blk.later HB2.out zp).alloc (.cells #[.int .i64 job, .int .i64 1, .string nm, .slice A2 ss.length cap2] 37)).grown hgrow (fun e => own_blk_ne HRW.out HO1.out.blk (by decide) e.symm)
         have p5 := hbg.cell
         have f5 := hbg.frozen
         have z5 := hbg.lt
         have HBG := Lib.hid hbg
         have HOW := Lib.hid hown
         have HGR := Lib.hid hgrow
         obtain ⟨A3, cap3, rfl, hcap3, _, _⟩ := own_slice hown
         clear hbg hown hgrow))
    all_goals
      have HN2 := Lib.hid (Below.new w2 (.cells #[.int .i64 job, .int .i64 1, .string nm, .slice A2 ss.length cap2] 37))
      have HO2 := Lib.hid (HO1.out.later HB2.out)
      have HS2 : Hid (SubO (w2.alloc (.cells #[.int .i64 job, .int .i64 1, .string nm, .slice A2 ss.length cap2] 37)) base (.slice A2 ss.length cap2) ss) := own_later (own_base HSUB.out (by have := HB1.out.size; simp; omega)) HN2.out
      have HLN : Hid (LkO (w3.setCell ⟨p, 0, none⟩ (.slice A3 (n + 1) cap3)) base p (.slice A3 (n + 1) cap3) v1 R asks (insAt vs x (.slice A2 ss.length cap2)) us) := by
        unfold Hid
        rw [HE.out]
        refine ⟨HBG.out.set_ 0 _, HO1.out.above, ?_, ?_, ?_⟩
        · refine OwnIts.grownOther ?_ HBG.out (by decide) (by decide) (grown_set _ _ _ _)
          refine OwnIts.ins (d := { tgt job nm ss with b := 1 }) (HO2.out.h.later HN2.out) (by rw [HN.out]; exact HP.out) HS2.out (HO1.out.h.fresh HSUB.out (by simp)) ?_ HGR.out (by decide)
          rw [HN.out]
          exact HOW.out
        · refine OwnIts.grownOther ?_ HBG.out (by decide) (by decide) (grown_set _ _ _ _)
          exact (HO2.out.a.later HN2.out).keptRow (HO2.out.h.later HN2.out).row (by decide) (by decide) HGR.out
        · intro x' hx y hy
          unfold insAt at hx
          have hx2 : x' ∈ vs ∨ x' = .slice A2 ss.length cap2 := by
            rcases List.mem_append.1 hx with hx | hx
            · rcases List.mem_append.1 hx with hx | hx
              · exact .inl (List.mem_of_mem_take hx)
              · exact .inr (List.mem_singleton.1 hx)
            · exact .inl (List.mem_of_mem_drop hx)
          rcases hx2 with hx2 | hx2
          · exact HO1.out.cross x' hx2 y hy
          · rw [hx2]
            exact apart_symm (HO1.out.a.fresh HSUB.out (by simp) y hy)
      have HBN : Hid (Below B w (w3.setCell ⟨p, 0, none⟩ (.slice A3 (n + 1) cap3))) :=
        ((((HB1.out.later HB2.out).later HN2.out).mono (show B ≤ w.heap.size by omega)).grown HGR.out (by have := HB2.out.size; simp; omega) (fun g hg => Nat.le_trans hB (World.ownsRow.lt (own_later HRW.out HB2.out) g hg).1)).setCell (show B ≤ p from Nat.le_trans hB HO1.out.above) _
      have HKP : Hid (Keeps w (w3.setCell ⟨p, 0, none⟩ (.slice A3 (n + 1) cap3))) :=
        ((Keeps.of_below ((HB1.out.later HB2.out).later HN2.out)).trans (Keeps.grown (own_later (own_later HRW.out HB2.out) HN2.out) HGR.out (.inl rfl))).trans (Keeps.setCell HBG.out (.inr (.inr rfl)))
      have HKQ : Hid (KeepsA w (w3.setCell ⟨p, 0, none⟩ (.slice A3 (n + 1) cap3))) := fun g cs hb => by
        have h1 := hb.later ((HB1.out.later HB2.out).later HN2.out) hb.lt
        have h2 := h1.grown HGR.out (fun e => own_blk_ne (own_later (own_later HRW.out HB2.out) HN2.out) h1 (by decide) e.symm)
        exact h2.far (p := ⟨p, 0, none⟩) (h2.ne_ HBG.out (by decide)) _
      clear p5 f5 z5 p0 f0 p2 z2 z3
      go_wp2_with fail
      refine bodyPost_ret (v := .tuple #[]) (results_none rfl _ _ _) rfl ?_
      exact ⟨⟨rfl, _, _, HLN.out, HBN.out⟩, HKP.out, HKQ.out⟩
  · obtain ⟨hxl, hb9⟩ := HFL.out rfl
    have hge := HB0.out _ (getD_mem held x hxl)
    have HE : Hid (R = held.set x { held.getD x default with b := (held.getD x default).b + 1 }) := by unfold Hid; rw [HA.out]; rfl
    obtain ⟨A, cap, rfl, hcap, hcm, hA⟩ := own_slice HO1.out.h.row
    obtain ⟨g, rfl, hgl, hgb⟩ := hA (by omega)
    have HBU := Lib.hid (HO1.out.h.bump hxl ((held.getD x default).b + 1) (by decide))
    have HRW := Lib.hid HO1.out.h.row
    have q0 := own_cell HO1.out.h.row (x * 4 + 1) (.int .i64 (held.getD x default).b) (by omega) ((flat_at held vs x 1 HO1.out.h.len hxl (by omega)).trans rfl)
    have q1 : w1.frozen? ⟨g, x * 4 + 1, none⟩ = false := by
      rcases HRW.out.2 with ⟨h0, _⟩ | ⟨g', cap', cur, he, _, hh, _⟩
      · cases h0
      · obtain ⟨rfl, rfl⟩ : g = g' ∧ cap = cap' := by simpa using he
        exact Blk.frozen (t := 37) hh _
    have hpg : p ≠ g := fun e => own_blk_ne HRW.out HO1.out.blk (by decide) (by rw [e]; rfl)
    have HGR : Hid (w1.grownBy (w1.setCell ⟨g, x * 4 + 1, none⟩ (.int .i64 ((held.getD x default).b + 1))) (some g)) := grown_set _ _ _ _
    have HLN : Hid (LkO (w1.setCell ⟨g, x * 4 + 1, none⟩ (.int .i64 ((held.getD x default).b + 1))) base p (.slice (some ⟨g, 0, none⟩) held.length cap) v1 R asks vs us) := by
      unfold Hid
      rw [HE.out]
      refine ⟨HO1.out.blk.far hpg _, HO1.out.above, HBU.out, ?_, HO1.out.cross⟩
      exact HO1.out.a.keptRow HRW.out (by decide) (by decide) HGR.out
    have HBN : Hid (Below B w (w1.setCell ⟨g, x * 4 + 1, none⟩ (.int .i64 ((held.getD x default).b + 1)))) := (HB1.out.mono (by omega)).setCell (show B ≤ g by omega) _
    have HKP : Hid (Keeps w (w1.setCell ⟨g, x * 4 + 1, none⟩ (.int .i64 ((held.getD x default).b + 1)))) := by
      refine (Keeps.of_below HB1.out).trans ?_
      obtain ⟨cur, hcur⟩ : ∃ cur, Blk w1 g 37 cur := by
        rcases HRW.out.2 with ⟨h0, _⟩ | ⟨g', cap', cur, he, _, hh, _⟩
        · cases h0
        · obtain ⟨rfl, rfl⟩ : g = g' ∧ cap = cap' := by simpa using he
          exact ⟨cur, hh⟩
      exact Keeps.setCell hcur (.inl rfl)
    have HKQ : Hid (KeepsA w (w1.setCell ⟨g, x * 4 + 1, none⟩ (.int .i64 ((held.getD x default).b + 1)))) := fun g' cs hb => by
      have h1 := hb.later HB1.out hb.lt
      refine h1.far (p := ⟨g, x * 4 + 1, none⟩) ?_ _
      rintro rfl
      exact own_blk_ne HRW.out h1 (by decide) rfl
    clear hA hgb
    generalize hD : (held.getD x default).b = D at *
    have HD := Lib.hid hD
    clear hD
    generalize hN : held.length = n at *
    have HN := Lib.hid hN
    clear hN
    unfold maxLen at hcm
    have hw1 : IntKind.i64.wrap (D + 1) = D + 1 := by rw [IntKind.wrap_i64]; omega
    go_wp2_with fail
    refine bodyPost_ret (v := .tuple #[]) (results_none rfl _ _ _) rfl ?_
    exact ⟨⟨rfl, _, vs, HLN.out, HBN.out⟩, HKP.out, HKQ.out⟩
theorem acquire_any (B base p : Nat) (v0 v1 : Value) (held asks : List ItD) (vs us : List Value) (job : Int) (nm : ByteArray) (S : Option Addr) (m q : Nat) (ss : List ByteArray) (w : World) (htab : tabT w) (h : LkO w base p v0 v1 held asks vs us) (hB : B ≤ base) (hBw : base ≤ w.heap.size)
    (hs : smalls held) (hS : Strs w w.heap.size S m ss) (hmq : m ≤ q) (hst : (tgt job nm ss).small) (hmono : monoI held (tgt job nm ss)) (hroom : roomI held (tgt job nm ss) = true) (hb0 : ∀ d ∈ held, 0 ≤ d.b) :
    Calls Tryz.prog 91 #[.pointer (some ⟨p, 0, none⟩), .int .i64 job, .string nm, .slice S m q] w (AcqPost B base p v1 (acqI held (tgt job nm ss)) asks us w) :=
  (acquire_frm B base p v0 v1 held asks vs us job nm S m q ss w htab h hB hBw hs hS hmq hst hmono hroom hb0).mono fun _ _ h => h.1
end Go.Proofs.YtiebcdajoddkpaaGreatDoor
