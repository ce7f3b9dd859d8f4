/-
  Locks and asks in memory; what l24Ask, l24HeldUp, l24At and l24Room of the reference compute.
-/
import Derived.Test.YtalpafaflgddpaaGreatDoorLk1
namespace Go.Proofs.YtalpafaflgddpaaGreatDoor
open Go.RowKit

/-- A lock (job, count, thing) or an ask (job, until, thing). -/
structure ItD where
  a : Int
  b : Int
  name : ByteArray
  subs : List ByteArray
deriving Inhabited

def ItR (w : World) (B : Nat) (c0 c1 c2 c3 : Value) (d : ItD) : Prop :=
  c0 = .int .i64 d.a ∧ c1 = .int .i64 d.b ∧ c2 = .string d.name ∧ ∃ A n cap, c3 = .slice A n cap ∧ Strs w B A n d.subs ∧ n ≤ cap
def Its (w : World) (B : Nat) (A : Option Addr) (n : Nat) (fs : List ItD) : Prop :=
  fs.length = n ∧ (0 < n → ∃ b o, A = some ⟨b, o, none⟩ ∧ b < B ∧ ∀ j, j < n → ∃ c0 c1 c2 c3, w.cell? ⟨b, o + j * 4, none⟩ = some c0 ∧ w.cell? ⟨b, o + j * 4 + 1, none⟩ = some c1 ∧ w.cell? ⟨b, o + j * 4 + 2, none⟩ = some c2 ∧ w.cell? ⟨b, o + j * 4 + 3, none⟩ = some c3 ∧ ItR w B c0 c1 c2 c3 (fs.getD j default))

theorem ItR.keep {w w' : World} {B : Nat} {c0 c1 c2 c3 : Value} {d : ItD} (h : ItR w B c0 c1 c2 c3 d) (hk : ∀ p : Addr, p.block < B → w'.cell? p = w.cell? p) : ItR w' B c0 c1 c2 c3 d := by
  obtain ⟨e0, e1, e2, A, n, cap, e3, hs, hc⟩ := h
  exact ⟨e0, e1, e2, A, n, cap, e3, hs.keep hk, hc⟩
theorem ItR.more {w : World} {B B' : Nat} {c0 c1 c2 c3 : Value} {d : ItD} (h : ItR w B c0 c1 c2 c3 d) (hB : B ≤ B') : ItR w B' c0 c1 c2 c3 d := by
  obtain ⟨e0, e1, e2, A, n, cap, e3, hs, hc⟩ := h
  exact ⟨e0, e1, e2, A, n, cap, e3, hs.more hB, hc⟩
theorem ItR.later {w w' : World} {c0 c1 c2 c3 : Value} {d : ItD} (h : ItR w w.heap.size c0 c1 c2 c3 d) (hb : Below w.heap.size w w') : ItR w' w'.heap.size c0 c1 c2 c3 d :=
  (h.keep fun _ hp => hb.cell hp).more hb.size
section
variable {w w' : World} {B B' n : Nat} {A : Option Addr} {fs : List ItD}
theorem Its.keep (h : Its w B A n fs) (hk : ∀ p : Addr, p.block < B → w'.cell? p = w.cell? p) : Its w' B A n fs :=
  ⟨h.1, fun hn => by
    obtain ⟨b, o, e, hb, hc⟩ := h.2 hn
    refine ⟨b, o, e, hb, fun j hj => ?_⟩
    obtain ⟨c0, c1, c2, c3, h0, h1, h2, h3, hr⟩ := hc j hj
    exact ⟨c0, c1, c2, c3, (hk _ hb).trans h0, (hk _ hb).trans h1, (hk _ hb).trans h2, (hk _ hb).trans h3, hr.keep hk⟩⟩
theorem Its.more (h : Its w B A n fs) (hB : B ≤ B') : Its w B' A n fs :=
  ⟨h.1, fun hn => by
    obtain ⟨b, o, e, hb, hc⟩ := h.2 hn
    refine ⟨b, o, e, by omega, fun j hj => ?_⟩
    obtain ⟨c0, c1, c2, c3, h0, h1, h2, h3, hr⟩ := hc j hj
    exact ⟨c0, c1, c2, c3, h0, h1, h2, h3, hr.more hB⟩⟩
theorem Its.later (h : Its w w.heap.size A n fs) (hb : Below w.heap.size w w') : Its w' w'.heap.size A n fs := (h.keep fun _ hp => hb.cell hp).more hb.size
theorem Its.alloc (h : Its w w.heap.size A n fs) (o : Obj) : Its (w.alloc o) (w.alloc o).heap.size A n fs := h.later (Below.new _ _)
end

def ItD.small (d : ItD) : Prop := d.name.size ≤ 1048576 ∧ d.subs.length ≤ 1048576 ∧ ∀ s ∈ d.subs, s.size ≤ 1048576
def smalls (l : List ItD) : Prop := l.length ≤ 1048576 ∧ ∀ d ∈ l, d.small

theorem getD_mem {α : Type} [Inhabited α] (l : List α) (k : Nat) (h : k < l.length) : l.getD k default ∈ l := by
  rw [List.getD_eq_getElem?_getD, List.getElem?_eq_getElem h]; simp

/-- The place of the first one of which p holds, from k on; -1 where there is none. -/
def idxF {α : Type} (p : α → Bool) : List α → Nat → Int
  | [], _ => -1
  | d :: r, k => if p d = true then k else idxF p r (k + 1)
theorem idxF_step {α : Type} [Inhabited α] (p : α → Bool) (l : List α) (k : Nat) (h : k < l.length) : idxF p (l.drop k) k = if p (l.getD k default) = true then (k : Int) else idxF p (l.drop (k + 1)) (k + 1) := by
  rw [List.drop_eq_getElem_cons h]
  simp [idxF, List.getD_eq_getElem?_getD, List.getElem?_eq_getElem h]
theorem idxF_bd {α : Type} (p : α → Bool) : ∀ (l : List α) (k : Nat), -1 ≤ idxF p l k ∧ idxF p l k < k + l.length
  | [], k => by simp [idxF]; omega
  | d :: r, k => by
    have := idxF_bd p r (k + 1)
    unfold idxF
    simp only [List.length_cons]
    split <;> omega
theorem any_step {α : Type} [Inhabited α] (p : α → Bool) (l : List α) (k : Nat) (h : k < l.length) : (l.drop k).any p = (p (l.getD k default) || (l.drop (k + 1)).any p) := by
  rw [List.drop_eq_getElem_cons h, List.any_cons, List.getD_eq_getElem?_getD, List.getElem?_eq_getElem h]
  rfl

def jobP (job : Int) (d : ItD) : Bool := decide (d.a = job)
def askAt (asks : List ItD) (job : Int) : Int := idxF (jobP job) asks 0

def heldP (job : Int) (nm : ByteArray) (ss : List ByteArray) (d : ItD) : Bool := decide (d.a = job) && wayB d.name d.subs nm ss
def heldUp (held : List ItD) (job : Int) (nm : ByteArray) (ss : List ByteArray) : Bool := held.any (heldP job nm ss)

def atP (job : Int) (nm : ByteArray) (ss : List ByteArray) (d : ItD) : Bool := decide (d.a = job) && decide (d.name = nm) && eqS d.subs ss
def lockAt (held : List ItD) (job : Int) (nm : ByteArray) (ss : List ByteArray) : Int := idxF (atP job nm ss) held 0

def roomB (held : List ItD) (job : Int) (nm : ByteArray) (ss : List ByteArray) : Bool :=
  if 0 ≤ lockAt held job nm ss then decide ((held.getD (lockAt held job nm ss).toNat default).b < 9) else decide (held.length < 16)

end Go.Proofs.YtalpafaflgddpaaGreatDoor
