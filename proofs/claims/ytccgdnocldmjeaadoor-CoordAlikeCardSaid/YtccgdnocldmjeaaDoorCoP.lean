/- The coordinator as a plain function: what each operation answers, marks and leaves behind. -/
import Derived.Test.YtccgdnocldmjeaaDoorCo1
namespace Go.Proofs.YtccgdnocldmjeaaDoor
open Go
set_option maxHeartbeats 4000000
set_option linter.unusedSimpArgs false
set_option linter.unusedVariables false
set_option maxRecDepth 20000

def prod0 : Prod := ⟨[], 0, 0, false, [], 0⟩
def addD (ds : List Mark) (m : Mark) : List Mark := if m ∈ ds then ds else ds ++ [m]
def addI (xs : List Int) (x : Int) : List Int := if x ∈ xs then xs else xs ++ [x]
theorem alook_keys {κ : Type} [DecidableEq κ] (ds : List κ) (v : Value) (m : κ) : alook (ds.map fun k => (k, v)) m = if m ∈ ds then some v else none := by
  induction ds with
  | nil => rfl
  | cons a ds ih =>
    simp only [List.map_cons, alook, ih, List.mem_cons]
    by_cases h : a = m
    · subst h; simp
    · rw [if_neg h]
      simp [Ne.symm h]
theorem aset_keys {κ : Type} [DecidableEq κ] (ds : List κ) (v : Value) (m : κ) : aset (ds.map fun k => (k, v)) m v = (if m ∈ ds then ds else ds ++ [m]).map fun k => (k, v) := by
  by_cases h : m ∈ ds
  · rw [if_pos h]
    have hs : (aidx (ds.map fun k => (k, v)) m).isSome = true := by rw [aidx_look, alook_keys, if_pos h]; rfl
    obtain ⟨i, hi⟩ := Option.isSome_iff_exists.1 hs
    rw [aset_at hi]
    obtain ⟨u, h1, h2⟩ := aidx_some hi
    rw [alook_keys, if_pos h] at h2
    cases h2
    apply List.ext_getElem?
    intro j
    by_cases hj : i = j
    · subst hj
      rw [List.getElem?_set_self (List.getElem?_eq_some_iff.1 h1).1, h1]
    · rw [List.getElem?_set_ne hj]
  · rw [if_neg h, aset_new (by rw [alook_keys, if_neg h])]
    simp

abbrev nameAt (ps : List Prod) (s : List UInt8) : Option Nat := ps.findIdx? (fun p => decide (p.name = s))
/-- A producer's open transaction is decided. -/
def CoS.decide (c : CoS) (i : Nat) (p : Prod) (kind : Int) : CoS :=
  { c with prods := c.prods.set i { p with opn := false, parts := [] }, marks := c.marks ++ [⟨kind, i, p.epoch, p.last⟩], decided := addD c.decided ⟨kind, i, p.epoch, p.last⟩ }
def CoS.lay (c : CoS) (m : Mark) : CoS := { c with marks := c.marks ++ [m] }
def CoS.put (c : CoS) (i : Nat) (p : Prod) : CoS := { c with prods := c.prods.set i p }
/-- A producer has another epoch. -/
def CoS.again (c : CoS) (i : Nat) (p : Prod) : Rep × List Mark × CoS :=
  if 100 ≤ p.epoch then (⟨7, 0, 0⟩, [], c)
  else if p.opn = true then (⟨0, i, p.epoch + 1⟩, [⟨3, i, p.epoch, p.last⟩, ⟨1, i, p.epoch + 1, 0⟩], ((c.decide i p 3).put i { p with opn := false, parts := [], epoch := p.epoch + 1, last := 0 }).lay ⟨1, i, p.epoch + 1, 0⟩)
  else (⟨0, i, p.epoch + 1⟩, [⟨1, i, p.epoch + 1, 0⟩], (c.put i { p with epoch := p.epoch + 1, last := 0 }).lay ⟨1, i, p.epoch + 1, 0⟩)
def CoS.begins (c : CoS) (s : List UInt8) : Rep × List Mark × CoS :=
  match nameAt c.prods s with
  | none =>
    if 8 ≤ c.prods.length then (⟨3, 0, 0⟩, [], c)
    else (⟨0, c.prods.length, 0⟩, [⟨1, c.prods.length, 0, 0⟩], { c with prods := c.prods ++ [⟨s, 0, 0, false, [], 0⟩], marks := c.marks ++ [⟨1, c.prods.length, 0, 0⟩] })
  | some i => c.again i (c.prods.getD i prod0)
/-- A part is a transaction's. -/
def CoS.adds (c : CoS) (o : Go.Proofs.YtccgdnocldmjeaaDoor.Op) (i : Nat) (p : Prod) : Int × CoS :=
  if p.opn = true then if o.txn = p.last then (0, c.put i { p with parts := addI p.parts o.part }) else (6, c)
  else if 100 ≤ p.last then (7, c)
  else if o.txn - 1 = p.last then (0, c.put i { p with opn := true, last := o.txn, began := c.now, parts := [o.part] })
  else (6, c)
def kindOf (cm : Bool) : Int := if cm = true then 2 else 3
/-- A transaction is decided. -/
def CoS.ends (c : CoS) (o : Go.Proofs.YtccgdnocldmjeaaDoor.Op) (i : Nat) (p : Prod) : Int × List Mark × CoS :=
  if p.opn = true ∧ o.txn = p.last then (0, [⟨kindOf o.commit, i, p.epoch, p.last⟩], c.decide i p (kindOf o.commit))
  else if (⟨kindOf o.commit, o.producer, o.epoch, o.txn⟩ : Mark) ∈ c.decided then (0, [], c)
  else (6, [], c)
/-- What one producer is by a tick. -/
def CoS.ages (c : CoS) (p : Prod) : Bool := p.opn && Decidable.decide (5 ≤ c.now - p.began)
/-- One producer by a tick. -/
def CoS.tick1 (r : CoS × List Mark) (i : Nat) : CoS × List Mark :=
  if r.1.ages (r.1.prods.getD i prod0) = true then (r.1.decide i (r.1.prods.getD i prod0) 3, r.2 ++ [⟨3, i, (r.1.prods.getD i prod0).epoch, (r.1.prods.getD i prod0).last⟩]) else r
/-- So many producers by a tick. -/
def CoS.tickN (c : CoS) (n : Nat) : CoS × List Mark := (List.range n).foldl CoS.tick1 ({ c with now := c.now + 1 }, [])
theorem CoS.tickN_succ (c : CoS) (n : Nat) : c.tickN (n + 1) = CoS.tick1 (c.tickN n) n := by
  unfold CoS.tickN
  rw [List.range_succ, List.foldl_append]
  rfl
def CoS.ticks (c : CoS) : List Mark × CoS := ((c.tickN c.prods.length).2, (c.tickN c.prods.length).1)
theorem CoS.tickN_spec (c : CoS) (n : Nat) : (c.tickN n).1.prods.length = c.prods.length ∧ (c.tickN n).1.now = c.now + 1 ∧ (c.tickN n).1.answers = c.answers ∧ (c.tickN n).1.marks = c.marks ++ (c.tickN n).2 ∧ (c.tickN n).2.length ≤ n := by
  induction n with
  | zero => simp [CoS.tickN]
  | succ n ih =>
    rw [CoS.tickN_succ]
    unfold CoS.tick1
    obtain ⟨h1, h2, h3, h4, h5⟩ := ih
    split
    · refine ⟨by simp [CoS.decide, h1], by simp [CoS.decide, h2], by simp [CoS.decide, h3], by simp [CoS.decide, h4], by simp; omega⟩
    · exact ⟨h1, h2, h3, h4, by omega⟩
theorem CoS.tickN_at (c : CoS) (n i : Nat) (h : n ≤ i) : (c.tickN n).1.prods[i]? = c.prods[i]? := by
  induction n with
  | zero => simp [CoS.tickN]
  | succ n ih =>
    rw [CoS.tickN_succ]
    unfold CoS.tick1
    split
    · simp only [CoS.decide]
      rw [List.getElem?_set_ne (by omega)]
      exact ih (by omega)
    · exact ih (by omega)
/-- An operation that was not applied ahead. -/
def CoS.does (c : CoS) (o : Go.Proofs.YtccgdnocldmjeaaDoor.Op) : Rep × List Mark × CoS :=
  if o.kind = 1 then c.begins o.name
  else if o.kind = 4 then (⟨0, 0, 0⟩, c.ticks)
  else if 0 ≤ o.producer ∧ o.producer < c.prods.length then
    let i := o.producer.toNat
    let p := c.prods.getD i prod0
    if o.epoch = p.epoch then
      if o.kind = 2 then (⟨(c.adds o i p).1, 0, 0⟩, [], (c.adds o i p).2) else (⟨(c.ends o i p).1, 0, 0⟩, (c.ends o i p).2)
    else (⟨5, 0, 0⟩, [], c)
  else (⟨4, 0, 0⟩, [], c)
def small_ (b : UInt8) : Bool := decide (97 ≤ b.toNat ∧ b.toNat ≤ 122)
/-- An operation that may be. -/
structure okOp (o : Go.Proofs.YtccgdnocldmjeaaDoor.Op) : Prop where
  kind : 1 ≤ o.kind ∧ o.kind ≤ 4
  client : 0 ≤ o.client ∧ o.client ≤ 15
  seq : 0 ≤ o.seq ∧ o.seq ≤ 1048576
  name : if o.kind = 1 then o.name ≠ [] ∧ o.name.length ≤ 8 ∧ ∀ b ∈ o.name, small_ b = true else o.name = []
  producer : 0 ≤ o.producer ∧ o.producer ≤ 7
  epoch : 0 ≤ o.epoch ∧ o.epoch ≤ 100
  txn : 0 ≤ o.txn ∧ o.txn ≤ 100
  part : 0 ≤ o.part ∧ o.part ≤ 3
  rest : (o.kind = 1 ∨ o.kind = 4 → o.producer = 0 ∧ o.epoch = 0 ∧ o.txn = 0 ∧ o.part = 0 ∧ o.commit = false) ∧ (o.kind = 2 → o.commit = false) ∧ (o.kind = 3 → o.part = 0)
instance (o : Go.Proofs.YtccgdnocldmjeaaDoor.Op) : Decidable (okOp o) :=
  decidable_of_iff ((1 ≤ o.kind ∧ o.kind ≤ 4) ∧ (0 ≤ o.client ∧ o.client ≤ 15) ∧ (0 ≤ o.seq ∧ o.seq ≤ 1048576) ∧ (if o.kind = 1 then o.name ≠ [] ∧ o.name.length ≤ 8 ∧ ∀ b ∈ o.name, small_ b = true else o.name = []) ∧ (0 ≤ o.producer ∧ o.producer ≤ 7) ∧ (0 ≤ o.epoch ∧ o.epoch ≤ 100) ∧ (0 ≤ o.txn ∧ o.txn ≤ 100) ∧ (0 ≤ o.part ∧ o.part ≤ 3) ∧
    (o.kind = 1 ∨ o.kind = 4 → o.producer = 0 ∧ o.epoch = 0 ∧ o.txn = 0 ∧ o.part = 0 ∧ o.commit = false) ∧ (o.kind = 2 → o.commit = false) ∧ (o.kind = 3 → o.part = 0))
    ⟨fun ⟨a, b, c, d, e, f, g, h, i⟩ => ⟨a, b, c, d, e, f, g, h, i⟩, fun ⟨a, b, c, d, e, f, g, h, i⟩ => ⟨a, b, c, d, e, f, g, h, i⟩⟩
/-- What an operation is answered, what it marks, and what it leaves. -/
def CoS.apply (c : CoS) (o : Go.Proofs.YtccgdnocldmjeaaDoor.Op) : Rep × List Mark × CoS :=
  if okOp o then
    match alook c.answers (o.client, o.seq) with
    | some a => (a, [], c)
    | none => ((c.does o).1, (c.does o).2.1, { (c.does o).2.2 with answers := (c.does o).2.2.answers ++ [((o.client, o.seq), (c.does o).1)] })
  else (⟨6, 0, 0⟩, [], c)
end Go.Proofs.YtccgdnocldmjeaaDoor
