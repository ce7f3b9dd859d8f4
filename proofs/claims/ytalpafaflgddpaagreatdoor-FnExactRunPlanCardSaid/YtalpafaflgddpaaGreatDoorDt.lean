/-
  Data of struct types that the laws hand over: structures, how they are read in memory, what is kept where the heap only grows. (Printed by gen_data.py.)
-/
import Derived.Test.YtalpafaflgddpaaGreatDoorSz
import Derived.Test.YtalpafaflgddpaaGreatDoorBlk
namespace Go.Proofs.YtalpafaflgddpaaGreatDoor
open Go.RowKit
set_option linter.unusedVariables false

structure NodeD where
  name : ByteArray
  subs : List ByteArray
  val : ByteArray
deriving Inhabited
def NodeR (w : World) (B : Nat) (c0 c1 c2 : Value) (d : NodeD) : Prop :=
  c0 = .string d.name ∧ (∃ A n cap, c1 = .slice A n cap ∧ Strs w B A n d.subs ∧ n ≤ cap) ∧ c2 = .string d.val
theorem NodeR.keep {w w' : World} {B : Nat} {c0 c1 c2 : Value} {d : NodeD} (h : NodeR w B c0 c1 c2 d) (hk : ∀ p : Addr, p.block < B → w'.cell? p = w.cell? p) : NodeR w' B c0 c1 c2 d := by
  obtain ⟨e0, ⟨A1, n1, p1, e1, s1, k1⟩, e2⟩ := h
  exact ⟨e0, ⟨A1, n1, p1, e1, s1.keep hk, k1⟩, e2⟩
theorem NodeR.more {w : World} {B B' : Nat} {c0 c1 c2 : Value} {d : NodeD} (h : NodeR w B c0 c1 c2 d) (hB : B ≤ B') : NodeR w B' c0 c1 c2 d := by
  obtain ⟨e0, ⟨A1, n1, p1, e1, s1, k1⟩, e2⟩ := h
  exact ⟨e0, ⟨A1, n1, p1, e1, s1.more hB, k1⟩, e2⟩
theorem NodeR.later {w w' : World} {c0 c1 c2 : Value} {d : NodeD} (h : NodeR w w.heap.size c0 c1 c2 d) (hb : Below w.heap.size w w') : NodeR w' w'.heap.size c0 c1 c2 d :=
  (h.keep fun _ hp => hb.cell hp).more hb.size
def Nodes (w : World) (B : Nat) (A : Option Addr) (n : Nat) (fs : List NodeD) : Prop :=
  fs.length = n ∧ (0 < n → ∃ b o, A = some ⟨b, o, none⟩ ∧ b < B ∧ ∀ j, j < n → ∃ c0 c1 c2, w.cell? ⟨b, o + j * 3, none⟩ = some c0 ∧ w.cell? ⟨b, o + j * 3 + 1, none⟩ = some c1 ∧ w.cell? ⟨b, o + j * 3 + 2, none⟩ = some c2 ∧ NodeR w B c0 c1 c2 (fs.getD j default))
section
variable {w w' : World} {B B' n : Nat} {A : Option Addr} {fs : List NodeD}
theorem Nodes.keep (h : Nodes w B A n fs) (hk : ∀ p : Addr, p.block < B → w'.cell? p = w.cell? p) : Nodes w' B A n fs :=
  ⟨h.1, fun hn => by
    obtain ⟨b, o, e, hb, hc⟩ := h.2 hn
    refine ⟨b, o, e, hb, fun j hj => ?_⟩
    obtain ⟨c0, c1, c2, h0, h1, h2, hr⟩ := hc j hj
    exact ⟨c0, c1, c2, (hk _ hb).trans h0, (hk _ hb).trans h1, (hk _ hb).trans h2, hr.keep hk⟩⟩
theorem Nodes.more (h : Nodes w B A n fs) (hB : B ≤ B') : Nodes w B' A n fs :=
  ⟨h.1, fun hn => by
    obtain ⟨b, o, e, hb, hc⟩ := h.2 hn
    refine ⟨b, o, e, by omega, fun j hj => ?_⟩
    obtain ⟨c0, c1, c2, h0, h1, h2, hr⟩ := hc j hj
    exact ⟨c0, c1, c2, h0, h1, h2, hr.more hB⟩⟩
theorem Nodes.later (h : Nodes w w.heap.size A n fs) (hb : Below w.heap.size w w') : Nodes w' w'.heap.size A n fs := (h.keep fun _ hp => hb.cell hp).more hb.size
end
def NodeD.fine (d : NodeD) : Prop := d.name.size ≤ maxLen ∧ ((∀ s ∈ d.subs, s.size ≤ maxLen) ∧ d.subs.length ≤ maxLen) ∧ d.val.size ≤ maxLen
def NodeD.small (d : NodeD) : Prop := d.name.size ≤ 1048576 ∧ (d.subs.length ≤ 1048576 ∧ ∀ s ∈ d.subs, s.size ≤ 1048576) ∧ d.val.size ≤ 1048576

structure CondD where
  col : ByteArray
  op : Int
  val : ByteArray
deriving Inhabited
def CondR (w : World) (B : Nat) (c0 c1 c2 : Value) (d : CondD) : Prop :=
  c0 = .string d.col ∧ c1 = .int .i64 d.op ∧ c2 = .string d.val
theorem CondR.keep {w w' : World} {B : Nat} {c0 c1 c2 : Value} {d : CondD} (h : CondR w B c0 c1 c2 d) (hk : ∀ p : Addr, p.block < B → w'.cell? p = w.cell? p) : CondR w' B c0 c1 c2 d := by
  obtain ⟨e0, e1, e2⟩ := h
  exact ⟨e0, e1, e2⟩
theorem CondR.more {w : World} {B B' : Nat} {c0 c1 c2 : Value} {d : CondD} (h : CondR w B c0 c1 c2 d) (hB : B ≤ B') : CondR w B' c0 c1 c2 d := by
  obtain ⟨e0, e1, e2⟩ := h
  exact ⟨e0, e1, e2⟩
theorem CondR.later {w w' : World} {c0 c1 c2 : Value} {d : CondD} (h : CondR w w.heap.size c0 c1 c2 d) (hb : Below w.heap.size w w') : CondR w' w'.heap.size c0 c1 c2 d :=
  (h.keep fun _ hp => hb.cell hp).more hb.size
def Conds (w : World) (B : Nat) (A : Option Addr) (n : Nat) (fs : List CondD) : Prop :=
  fs.length = n ∧ (0 < n → ∃ b o, A = some ⟨b, o, none⟩ ∧ b < B ∧ ∀ j, j < n → ∃ c0 c1 c2, w.cell? ⟨b, o + j * 3, none⟩ = some c0 ∧ w.cell? ⟨b, o + j * 3 + 1, none⟩ = some c1 ∧ w.cell? ⟨b, o + j * 3 + 2, none⟩ = some c2 ∧ CondR w B c0 c1 c2 (fs.getD j default))
section
variable {w w' : World} {B B' n : Nat} {A : Option Addr} {fs : List CondD}
theorem Conds.keep (h : Conds w B A n fs) (hk : ∀ p : Addr, p.block < B → w'.cell? p = w.cell? p) : Conds w' B A n fs :=
  ⟨h.1, fun hn => by
    obtain ⟨b, o, e, hb, hc⟩ := h.2 hn
    refine ⟨b, o, e, hb, fun j hj => ?_⟩
    obtain ⟨c0, c1, c2, h0, h1, h2, hr⟩ := hc j hj
    exact ⟨c0, c1, c2, (hk _ hb).trans h0, (hk _ hb).trans h1, (hk _ hb).trans h2, hr.keep hk⟩⟩
theorem Conds.more (h : Conds w B A n fs) (hB : B ≤ B') : Conds w B' A n fs :=
  ⟨h.1, fun hn => by
    obtain ⟨b, o, e, hb, hc⟩ := h.2 hn
    refine ⟨b, o, e, by omega, fun j hj => ?_⟩
    obtain ⟨c0, c1, c2, h0, h1, h2, hr⟩ := hc j hj
    exact ⟨c0, c1, c2, h0, h1, h2, hr.more hB⟩⟩
theorem Conds.later (h : Conds w w.heap.size A n fs) (hb : Below w.heap.size w w') : Conds w' w'.heap.size A n fs := (h.keep fun _ hp => hb.cell hp).more hb.size
end
def CondD.fine (d : CondD) : Prop := d.col.size ≤ maxLen ∧ d.val.size ≤ maxLen
def CondD.small (d : CondD) : Prop := d.col.size ≤ 1048576 ∧ d.val.size ≤ 1048576

structure TreeD where
  nodes : List NodeD
deriving Inhabited
def TreeR (w : World) (B : Nat) (c0 : Value) (d : TreeD) : Prop :=
  (∃ A n cap, c0 = .slice A n cap ∧ Nodes w B A n d.nodes ∧ n ≤ cap)
theorem TreeR.keep {w w' : World} {B : Nat} {c0 : Value} {d : TreeD} (h : TreeR w B c0 d) (hk : ∀ p : Addr, p.block < B → w'.cell? p = w.cell? p) : TreeR w' B c0 d := by
  obtain ⟨A0, n0, p0, e0, s0, k0⟩ := h
  exact ⟨A0, n0, p0, e0, s0.keep hk, k0⟩
theorem TreeR.more {w : World} {B B' : Nat} {c0 : Value} {d : TreeD} (h : TreeR w B c0 d) (hB : B ≤ B') : TreeR w B' c0 d := by
  obtain ⟨A0, n0, p0, e0, s0, k0⟩ := h
  exact ⟨A0, n0, p0, e0, s0.more hB, k0⟩
theorem TreeR.later {w w' : World} {c0 : Value} {d : TreeD} (h : TreeR w w.heap.size c0 d) (hb : Below w.heap.size w w') : TreeR w' w'.heap.size c0 d :=
  (h.keep fun _ hp => hb.cell hp).more hb.size
def TreeD.fine (d : TreeD) : Prop := ((∀ x ∈ d.nodes, x.fine) ∧ d.nodes.length ≤ maxLen)
def TreeD.small (d : TreeD) : Prop := (d.nodes.length ≤ 1048576 ∧ ∀ x ∈ d.nodes, x.small)

structure TableD where
  name : ByteArray
  glob : ByteArray
  cols : List ByteArray
  idx : List ByteArray
deriving Inhabited
def TableR (w : World) (B : Nat) (c0 c1 c2 c3 : Value) (d : TableD) : Prop :=
  c0 = .string d.name ∧ c1 = .string d.glob ∧ (∃ A n cap, c2 = .slice A n cap ∧ Strs w B A n d.cols ∧ n ≤ cap) ∧ (∃ A n cap, c3 = .slice A n cap ∧ Strs w B A n d.idx ∧ n ≤ cap)
theorem TableR.keep {w w' : World} {B : Nat} {c0 c1 c2 c3 : Value} {d : TableD} (h : TableR w B c0 c1 c2 c3 d) (hk : ∀ p : Addr, p.block < B → w'.cell? p = w.cell? p) : TableR w' B c0 c1 c2 c3 d := by
  obtain ⟨e0, e1, ⟨A2, n2, p2, e2, s2, k2⟩, ⟨A3, n3, p3, e3, s3, k3⟩⟩ := h
  exact ⟨e0, e1, ⟨A2, n2, p2, e2, s2.keep hk, k2⟩, ⟨A3, n3, p3, e3, s3.keep hk, k3⟩⟩
theorem TableR.more {w : World} {B B' : Nat} {c0 c1 c2 c3 : Value} {d : TableD} (h : TableR w B c0 c1 c2 c3 d) (hB : B ≤ B') : TableR w B' c0 c1 c2 c3 d := by
  obtain ⟨e0, e1, ⟨A2, n2, p2, e2, s2, k2⟩, ⟨A3, n3, p3, e3, s3, k3⟩⟩ := h
  exact ⟨e0, e1, ⟨A2, n2, p2, e2, s2.more hB, k2⟩, ⟨A3, n3, p3, e3, s3.more hB, k3⟩⟩
theorem TableR.later {w w' : World} {c0 c1 c2 c3 : Value} {d : TableD} (h : TableR w w.heap.size c0 c1 c2 c3 d) (hb : Below w.heap.size w w') : TableR w' w'.heap.size c0 c1 c2 c3 d :=
  (h.keep fun _ hp => hb.cell hp).more hb.size
def TableD.fine (d : TableD) : Prop := d.name.size ≤ maxLen ∧ d.glob.size ≤ maxLen ∧ ((∀ s ∈ d.cols, s.size ≤ maxLen) ∧ d.cols.length ≤ maxLen) ∧ ((∀ s ∈ d.idx, s.size ≤ maxLen) ∧ d.idx.length ≤ maxLen)
def TableD.small (d : TableD) : Prop := d.name.size ≤ 1048576 ∧ d.glob.size ≤ 1048576 ∧ (d.cols.length ≤ 1048576 ∧ ∀ s ∈ d.cols, s.size ≤ 1048576) ∧ (d.idx.length ≤ 1048576 ∧ ∀ s ∈ d.idx, s.size ≤ 1048576)

structure QueryD where
  table : ByteArray
  cols : List ByteArray
  wher : List CondD
  order : ByteArray
  desc : Bool
  limit : Int
deriving Inhabited
def QueryR (w : World) (B : Nat) (c0 c1 c2 c3 c4 c5 : Value) (d : QueryD) : Prop :=
  c0 = .string d.table ∧ (∃ A n cap, c1 = .slice A n cap ∧ Strs w B A n d.cols ∧ n ≤ cap) ∧ (∃ A n cap, c2 = .slice A n cap ∧ Conds w B A n d.wher ∧ n ≤ cap) ∧ c3 = .string d.order ∧ c4 = .bool d.desc ∧ c5 = .int .i64 d.limit
theorem QueryR.keep {w w' : World} {B : Nat} {c0 c1 c2 c3 c4 c5 : Value} {d : QueryD} (h : QueryR w B c0 c1 c2 c3 c4 c5 d) (hk : ∀ p : Addr, p.block < B → w'.cell? p = w.cell? p) : QueryR w' B c0 c1 c2 c3 c4 c5 d := by
  obtain ⟨e0, ⟨A1, n1, p1, e1, s1, k1⟩, ⟨A2, n2, p2, e2, s2, k2⟩, e3, e4, e5⟩ := h
  exact ⟨e0, ⟨A1, n1, p1, e1, s1.keep hk, k1⟩, ⟨A2, n2, p2, e2, s2.keep hk, k2⟩, e3, e4, e5⟩
theorem QueryR.more {w : World} {B B' : Nat} {c0 c1 c2 c3 c4 c5 : Value} {d : QueryD} (h : QueryR w B c0 c1 c2 c3 c4 c5 d) (hB : B ≤ B') : QueryR w B' c0 c1 c2 c3 c4 c5 d := by
  obtain ⟨e0, ⟨A1, n1, p1, e1, s1, k1⟩, ⟨A2, n2, p2, e2, s2, k2⟩, e3, e4, e5⟩ := h
  exact ⟨e0, ⟨A1, n1, p1, e1, s1.more hB, k1⟩, ⟨A2, n2, p2, e2, s2.more hB, k2⟩, e3, e4, e5⟩
theorem QueryR.later {w w' : World} {c0 c1 c2 c3 c4 c5 : Value} {d : QueryD} (h : QueryR w w.heap.size c0 c1 c2 c3 c4 c5 d) (hb : Below w.heap.size w w') : QueryR w' w'.heap.size c0 c1 c2 c3 c4 c5 d :=
  (h.keep fun _ hp => hb.cell hp).more hb.size
def QueryD.fine (d : QueryD) : Prop := d.table.size ≤ maxLen ∧ ((∀ s ∈ d.cols, s.size ≤ maxLen) ∧ d.cols.length ≤ maxLen) ∧ ((∀ x ∈ d.wher, x.fine) ∧ d.wher.length ≤ maxLen) ∧ d.order.size ≤ maxLen
def QueryD.small (d : QueryD) : Prop := d.table.size ≤ 1048576 ∧ (d.cols.length ≤ 1048576 ∧ ∀ s ∈ d.cols, s.size ≤ 1048576) ∧ (d.wher.length ≤ 1048576 ∧ ∀ x ∈ d.wher, x.small) ∧ d.order.size ≤ 1048576

structure PlanD where
  kind : Int
  col : ByteArray
  val : ByteArray
deriving Inhabited
def PlanR (w : World) (B : Nat) (c0 c1 c2 : Value) (d : PlanD) : Prop :=
  c0 = .int .i64 d.kind ∧ c1 = .string d.col ∧ c2 = .string d.val
theorem PlanR.keep {w w' : World} {B : Nat} {c0 c1 c2 : Value} {d : PlanD} (h : PlanR w B c0 c1 c2 d) (hk : ∀ p : Addr, p.block < B → w'.cell? p = w.cell? p) : PlanR w' B c0 c1 c2 d := by
  obtain ⟨e0, e1, e2⟩ := h
  exact ⟨e0, e1, e2⟩
theorem PlanR.more {w : World} {B B' : Nat} {c0 c1 c2 : Value} {d : PlanD} (h : PlanR w B c0 c1 c2 d) (hB : B ≤ B') : PlanR w B' c0 c1 c2 d := by
  obtain ⟨e0, e1, e2⟩ := h
  exact ⟨e0, e1, e2⟩
theorem PlanR.later {w w' : World} {c0 c1 c2 : Value} {d : PlanD} (h : PlanR w w.heap.size c0 c1 c2 d) (hb : Below w.heap.size w w') : PlanR w' w'.heap.size c0 c1 c2 d :=
  (h.keep fun _ hp => hb.cell hp).more hb.size
def PlanD.fine (d : PlanD) : Prop := d.col.size ≤ maxLen ∧ d.val.size ≤ maxLen
def PlanD.small (d : PlanD) : Prop := d.col.size ≤ 1048576 ∧ d.val.size ≤ 1048576
end Go.Proofs.YtalpafaflgddpaaGreatDoor
