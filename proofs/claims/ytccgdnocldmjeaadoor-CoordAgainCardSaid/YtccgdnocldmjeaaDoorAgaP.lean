/- The coordinator as a plain function: what was applied ahead is answered as then, and changes nothing. -/
import Derived.Test.YtccgdnocldmjeaaDoorOpsA
namespace Go.Proofs.YtccgdnocldmjeaaDoor
open Go
set_option maxHeartbeats 4000000
set_option linter.unusedSimpArgs false
set_option linter.unusedVariables false
set_option maxRecDepth 20000

theorem alook_snoc {κ β : Type} [DecidableEq κ] (l : List (κ × β)) (k k' : κ) (v : β) : alook (l ++ [(k', v)]) k = (alook l k).or (if k' = k then some v else none) := by
  induction l with
  | nil => simp [alook]
  | cons x l ih =>
    obtain ⟨a, b⟩ := x
    simp only [List.cons_append, alook, ih]
    split <;> simp
theorem apply_keeps {c : CoS} {k : Int × Int} {a : Rep} (h : alook c.answers k = some a) (o : Go.Proofs.YtccgdnocldmjeaaDoor.Op) : alook (c.apply o).2.2.answers k = some a := by
  unfold CoS.apply
  split
  · split
    · exact h
    · simp only [does_answers, alook_snoc, h, Option.some_or]
  · exact h
theorem apply_tells {c : CoS} {o : Go.Proofs.YtccgdnocldmjeaaDoor.Op} (ho : okOp o) : alook (c.apply o).2.2.answers (o.client, o.seq) = some (c.apply o).1 := by
  unfold CoS.apply
  rw [if_pos ho]
  cases ha : alook c.answers (o.client, o.seq) with
  | some a => exact ha
  | none => simp [does_answers, alook_snoc, ha]
theorem run_keeps (ops : List Go.Proofs.YtccgdnocldmjeaaDoor.Op) : ∀ {c : CoS} {k : Int × Int} {a : Rep}, alook c.answers k = some a → alook (run c ops).answers k = some a := by
  induction ops with
  | nil => intro c k a h; exact h
  | cons o ops ih =>
    intro c k a h
    exact ih (apply_keeps h o)
/-- What was applied ahead. -/
theorem again_plain (ops : List Go.Proofs.YtccgdnocldmjeaaDoor.Op) (c : CoS) (i : Nat) (o : Go.Proofs.YtccgdnocldmjeaaDoor.Op) (h : ops[i]? = some o) : (run c ops).apply o = (((run c (ops.take i)).apply o).1, [], run c ops) := by
  obtain ⟨hi, he⟩ := List.getElem?_eq_some_iff.1 h
  have hs : ops = ops.take i ++ o :: ops.drop (i + 1) := by rw [← he, ← List.drop_eq_getElem_cons hi, List.take_append_drop]
  by_cases ho : okOp o
  · have h1 := apply_tells (c := run c (ops.take i)) ho
    have h2 := run_keeps (ops.drop (i + 1)) h1
    have h3 : run ((run c (ops.take i)).apply o).2.2 (ops.drop (i + 1)) = run c ops := by
      conv => rhs; rw [hs]
      simp [run]
    rw [h3] at h2
    conv => lhs; unfold CoS.apply
    rw [if_pos ho, h2]
  · have e : ∀ c : CoS, c.apply o = (⟨6, 0, 0⟩, [], c) := fun c => by
      unfold CoS.apply
      rw [if_neg ho]
    rw [e, e]
end Go.Proofs.YtccgdnocldmjeaaDoor
