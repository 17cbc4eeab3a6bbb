/- The coordinator: parts stay in bounds. -/
import Derived.Test.YtccgdnocldmjeaaDoorCo15
namespace Go.Proofs.YtccgdnocldmjeaaDoor
open Go
set_option maxHeartbeats 4000000
set_option linter.unusedSimpArgs false
set_option linter.unusedVariables false
set_option maxRecDepth 20000

def PaL (ps : List Prod) : Prop := ∀ p ∈ ps, partsOk p.parts
theorem partsOk_nil : partsOk [] := ⟨List.nodup_nil, by simp⟩
theorem partsOk_one {x : Int} (h : 0 ≤ x ∧ x ≤ 3) : partsOk [x] := ⟨by simp, by simpa using h⟩
theorem partsOk_add {xs : List Int} {x : Int} (h : partsOk xs) (hx : 0 ≤ x ∧ x ≤ 3) : partsOk (addI xs x) := by
  unfold addI
  split
  · exact h
  · rename_i hn
    refine ⟨?_, ?_⟩
    · rw [List.nodup_append]
      exact ⟨h.1, by simp, fun a ha b hb e => hn (by simp only [List.mem_singleton] at hb; rw [← hb, ← e]; exact ha)⟩
    · intro y hy
      rcases List.mem_append.1 hy with hy | hy
      · exact h.2 y hy
      · simp only [List.mem_singleton] at hy; rw [hy]; exact hx
theorem PaL.set {ps : List Prod} {i : Nat} {p : Prod} (h : PaL ps) (hp : partsOk p.parts) : PaL (ps.set i p) := by
  intro x hx
  rcases mem_set_cases hx with hx | rfl
  · exact h x hx
  · exact hp
theorem again_Pa {c : CoS} (h : PaL c.prods) (i : Nat) (p : Prod) (hp : p ∈ c.prods) : PaL (c.again i p).2.2.prods := by
  unfold CoS.again
  split
  · exact h
  · split
    · simp only [CoS.lay, CoS.put, CoS.decide, List.set_set]
      exact h.set partsOk_nil
    · exact h.set (h p hp)
theorem begins_Pa {c : CoS} (h : PaL c.prods) (s : List UInt8) : PaL (c.begins s).2.2.prods := by
  unfold CoS.begins
  split
  · split
    · exact h
    · intro x hx
      simp only [List.mem_append, List.mem_singleton] at hx
      rcases hx with hx | rfl
      · exact h x hx
      · exact partsOk_nil
  · rename_i i hi
    obtain ⟨p, hpi, _⟩ := nameAt_get hi
    exact again_Pa h i _ (getD_mem (List.getElem?_eq_some_iff.1 hpi).1)
theorem adds_Pa {c : CoS} (h : PaL c.prods) (o : Go.Proofs.YtccgdnocldmjeaaDoor.Op) (ho : okOp o) (i : Nat) (p : Prod) (hp : p ∈ c.prods) : PaL (c.adds o i p).2.prods := by
  unfold CoS.adds
  split
  · split
    · exact h.set (partsOk_add (h p hp) ho.part)
    · exact h
  · split
    · exact h
    · split
      · exact h.set (partsOk_one ho.part)
      · exact h
theorem ends_Pa {c : CoS} (h : PaL c.prods) (o : Go.Proofs.YtccgdnocldmjeaaDoor.Op) (i : Nat) (p : Prod) : PaL (c.ends o i p).2.2.prods := by
  unfold CoS.ends
  split
  · exact h.set partsOk_nil
  · split <;> exact h
theorem ticks_Pa {c : CoS} (h : PaL c.prods) : PaL c.ticks.2.prods := by
  have : ∀ n, PaL (c.tickN n).1.prods := by
    intro n
    induction n with
    | zero => exact h
    | succ n ih =>
      rw [CoS.tickN_succ]
      unfold CoS.tick1
      split
      · exact ih.set partsOk_nil
      · exact ih
  exact this _
theorem does_Pa {c : CoS} (h : PaL c.prods) (o : Go.Proofs.YtccgdnocldmjeaaDoor.Op) (ho : okOp o) : PaL (c.does o).2.2.prods := by
  unfold CoS.does
  split
  · exact begins_Pa h _
  · split
    · exact ticks_Pa h
    · split
      · rename_i h3
        have hp : c.prods.getD o.producer.toNat prod0 ∈ c.prods := getD_mem (by omega)
        simp only
        split
        · split
          · exact adds_Pa h o ho _ _ hp
          · exact ends_Pa h o _ _
        · exact h
      · exact h
theorem apply_Pa {c : CoS} (h : PaL c.prods) (o : Go.Proofs.YtccgdnocldmjeaaDoor.Op) : PaL (c.apply o).2.2.prods := by
  unfold CoS.apply
  split
  · rename_i ho
    split
    · exact h
    · exact does_Pa h o ho
  · exact h
end Go.Proofs.YtccgdnocldmjeaaDoor
