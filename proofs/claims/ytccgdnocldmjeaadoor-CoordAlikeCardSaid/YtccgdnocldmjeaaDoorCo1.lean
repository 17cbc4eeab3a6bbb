/- The coordinator: its data, its memory. -/
import Derived.Test.YtccgdnocldmjeaaDoorHoldprod
import Derived.Test.YtccgdnocldmjeaaDoorKeyS
import Derived.Test.YtccgdnocldmjeaaDoorTyE
namespace Go.Proofs.YtccgdnocldmjeaaDoor
open Go
set_option maxHeartbeats 4000000
set_option linter.unusedSimpArgs false
set_option linter.unusedVariables false
set_option maxRecDepth 20000

/-- An operation. -/
structure Op where
  kind : Int
  client : Int
  seq : Int
  name : List UInt8
  producer : Int
  epoch : Int
  txn : Int
  part : Int
  commit : Bool
  deriving DecidableEq
abbrev opC (o : Go.Proofs.YtccgdnocldmjeaaDoor.Op) : List Value := [vi o.kind, vi o.client, vi o.seq, vs o.name, vi o.producer, vi o.epoch, vi o.txn, vi o.part, vb o.commit]
abbrev op0 : Go.Proofs.YtccgdnocldmjeaaDoor.Op := ⟨0, 0, 0, [], 0, 0, 0, 0, false⟩

structure Mark where
  kind : Int
  producer : Int
  epoch : Int
  txn : Int
  deriving DecidableEq
structure Rep where
  err : Int
  producer : Int
  epoch : Int
  deriving DecidableEq
structure Prod where
  name : List UInt8
  epoch : Int
  last : Int
  opn : Bool
  parts : List Int
  began : Int
abbrev markC (m : Mark) : List Value := [vi m.kind, vi m.producer, vi m.epoch, vi m.txn]
abbrev markV (m : Mark) : Value := .agg (markC m).toArray
abbrev askC (k : Int × Int) : List Value := [vi k.1, vi k.2]
abbrev askV (k : Int × Int) : Value := .agg (askC k).toArray
theorem markC_inj (a b : Mark) : markC a = markC b ↔ a = b := by
  constructor
  · intro h
    obtain ⟨a1, a2, a3, a4⟩ := a
    obtain ⟨b1, b2, b3, b4⟩ := b
    simpa [markC] using h
  · rintro rfl
    rfl
theorem askC_inj (a b : Int × Int) : askC a = askC b ↔ a = b := by
  constructor
  · intro h
    obtain ⟨a1, a2⟩ := a
    obtain ⟨b1, b2⟩ := b
    simpa [askC] using h
  · rintro rfl
    rfl
instance keyMark : KeyT Tryd.prog 36 markV := keyS (inferInstance : CKS Tryd.prog 36 _) (fun k => rfl) markC_inj (by kernel_rfl) (fun e k w => by rfl) (fun k => by simp [Instr.sameBits])
instance keyAsk : KeyT Tryd.prog 68 askV := keyS (inferInstance : CKS Tryd.prog 68 _) (fun k => rfl) askC_inj (by kernel_rfl) (fun e k w => by rfl) (fun k => by simp [Instr.sameBits])
/-- The table of producers. -/
def tabE (k : Nat) : List Nat → List (Int × Value)
  | [] => []
  | q :: qs => ((k : Int), vp q 0) :: tabE (k + 1) qs

theorem tabE_append (k : Nat) (qs : List Nat) (q : Nat) : tabE k (qs ++ [q]) = tabE k qs ++ [(((k + qs.length : Nat) : Int), vp q 0)] := by
  induction qs generalizing k with
  | nil => simp [tabE]
  | cons a qs ih => simp [tabE, ih, Nat.add_assoc, Nat.add_comm 1]
theorem tabE_look (k : Nat) (qs : List Nat) (n : Int) : alook (tabE k qs) n = if k ≤ n ∧ n < k + qs.length then (qs[n.toNat - k]?).map fun q => vp q 0 else none := by
  induction qs generalizing k with
  | nil =>
    rw [if_neg (by simp)]
    rfl
  | cons q qs ih =>
    simp only [tabE, alook]
    by_cases h : (k : Int) = n
    · subst h
      rw [if_pos rfl, if_pos (by simp; omega)]
      simp
    · rw [if_neg h, ih]
      by_cases h2 : (k : Int) ≤ n ∧ n < k + (q :: qs).length
      · have h3 : ((k + 1 : Nat) : Int) ≤ n ∧ n < ((k + 1 : Nat) : Int) + qs.length := by simp at h2 ⊢; omega
        rw [if_pos h2, if_pos h3]
        have h4 : n.toNat - k = (n.toNat - (k + 1)) + 1 := by omega
        rw [h4]
        simp
      · rw [if_neg h2, if_neg (by simp at h2 ⊢; omega)]
theorem tabE_set (qs : List Nat) (q : Nat) : aset (tabE 0 qs) (qs.length : Int) (vp q 0) = tabE 0 (qs ++ [q]) := by
  rw [aset_new, tabE_append]
  · simp
  · rw [tabE_look, if_neg (by omega)]
theorem tabE_keys (k : Nat) (qs : List Nat) : (akeys (tabE k qs)).Pairwise (· ≤ ·) := by
  induction qs generalizing k with
  | nil => exact List.Pairwise.nil
  | cons q qs ih =>
    simp only [tabE, akeys, List.map_cons, List.pairwise_cons]
    refine ⟨fun x hx => ?_, ih (k + 1)⟩
    have : alook (tabE (k + 1) qs) x ≠ none := fun h => alook_none.1 h hx
    rw [tabE_look] at this
    by_cases h : ((k + 1 : Nat) : Int) ≤ x ∧ x < ((k + 1 : Nat) : Int) + qs.length
    · omega
    · rw [if_neg h] at this; exact absurd rfl this
theorem tabE_length (k : Nat) (qs : List Nat) : (tabE k qs).length = qs.length := by
  induction qs generalizing k with
  | nil => rfl
  | cons q qs ih => simp [tabE, ih]

abbrev prodC (p : Prod) (v : Value) : List Value := [vs p.name, vi p.epoch, vi p.last, vb p.opn, v, vi p.began]
def pmA (v : Value) (opn : Bool) (parts : List Int) : HP :=
  if opn then exH fun mb : Nat => starH [pureH (v = .map (some mb)), mapA i64 mb (parts.map fun k => (k, vb true))] else pureH (v = .map none)
def prodA (q : Nat) (p : Prod) : HP := exH fun v : Value => starH [cel q 74 (prodC p v), pmA v p.opn p.parts]
def prodsA (qs : List Nat) (ps : List Prod) : HP := starH ((qs.zip ps).map fun x => prodA x.1 x.2)

structure CoS where
  prods : List Prod
  marks : List Mark
  decided : List Mark
  answers : List ((Int × Int) × Rep)
  now : Int
def CoS.new : CoS := ⟨[], [], [], [], 0⟩
abbrev repC (r : Rep) : List Value := [vi r.err, vi r.producer, vi r.epoch]
structure CoM where
  tb : Nat
  mb : Nat
  db : Nat
  ab : Nat
  qs : List Nat
  mv : Value
abbrev coC (c : CoS) (m : CoM) : List Value := [vp m.tb 0, m.mv, .map (some m.db), .map (some m.ab), vi c.now]
abbrev coL (b : Nat) (c : CoS) (m : CoM) : List HP :=
  [cel b 64 (coC c m), cel m.tb 83 [.map (some m.mb)], mapA i64 m.mb (tabE 0 m.qs), prodsA m.qs c.prods,
   rowA 36 4 m.mv c.marks.length (c.marks.map markC).flatten, mapA markV m.db (c.decided.map fun k => (k, vb true)), mapA askV m.ab (c.answers.map fun x => (x.1, .agg (repC x.2).toArray)), pureH (m.qs.length = c.prods.length)]
def coA (b : Nat) (c : CoS) : HP := exH fun m : CoM => starH (coL b c m)
end Go.Proofs.YtccgdnocldmjeaaDoor
