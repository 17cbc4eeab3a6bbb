/- The coordinator: what holds of it behind so many operations; an operation that was not applied ahead, whatever it is. -/
import Derived.Test.YtccgdnocldmjeaaDoorCo12
namespace Go.Proofs.YtccgdnocldmjeaaDoor
open Go
set_option maxHeartbeats 4000000
set_option linter.unusedSimpArgs false
set_option linter.unusedVariables false
set_option maxRecDepth 20000

/-- What holds behind k operations. -/
structure CoS.Ok (k : Nat) (c : CoS) : Prop where
  n8 : c.prods.length ≤ 8
  ml : c.marks.length ≤ 9 * k
  al : c.answers.length ≤ k
  now : 0 ≤ c.now ∧ c.now ≤ k
  pr : ∀ p ∈ c.prods, (0 ≤ p.epoch ∧ p.epoch ≤ 100) ∧ (0 ≤ p.last ∧ p.last ≤ 100) ∧ (0 ≤ p.began ∧ p.began ≤ k)
theorem CoS.Ok.new : CoS.new.Ok 0 := ⟨by simp [CoS.new], by simp [CoS.new], by simp [CoS.new], by simp [CoS.new], by simp [CoS.new]⟩
theorem CoS.Ok.mono {k k' : Nat} {c : CoS} (h : c.Ok k) (hk : k ≤ k') : c.Ok k' :=
  ⟨h.n8, by have := h.ml; omega, by have := h.al; omega, by have := h.now; omega, fun p hp => by have := h.pr p hp; omega⟩
theorem mem_set_cases {α : Type} {l : List α} {i : Nat} {a x : α} (h : x ∈ l.set i a) : x ∈ l ∨ x = a := by
  obtain ⟨j, hj, hx⟩ := List.mem_iff_getElem.1 h
  rw [List.getElem_set] at hx
  split at hx
  · exact .inr hx.symm
  · exact .inl (hx ▸ List.getElem_mem _)
theorem getD_mem {ps : List Prod} {i : Nat} (h : i < ps.length) : ps.getD i prod0 ∈ ps := by
  rw [List.getD_eq_getElem?_getD, List.getElem?_eq_getElem h]
  exact List.getElem_mem _
theorem getD_get {ps : List Prod} {i : Nat} (h : i < ps.length) : ps[i]? = some (ps.getD i prod0) := by
  rw [List.getD_eq_getElem?_getD, List.getElem?_eq_getElem h]
  rfl

theorem again_Ok {k : Nat} {c : CoS} (h : c.Ok k) (i : Nat) (p : Prod) (hp : p ∈ c.prods) : (c.again i p).2.2.Ok (k + 1) := by
  have hpp := h.pr p hp
  have hml := h.ml
  have hal := h.al
  have hn := h.now
  unfold CoS.again
  split
  · exact h.mono (by omega)
  · split
    · refine ⟨by simpa [CoS.lay, CoS.put, CoS.decide] using h.n8, by simp [CoS.lay, CoS.put, CoS.decide]; omega, by simp [CoS.lay, CoS.put, CoS.decide]; omega, by simp [CoS.lay, CoS.put, CoS.decide]; omega, ?_⟩
      intro x hx
      simp only [CoS.lay, CoS.put, CoS.decide, List.set_set] at hx
      rcases mem_set_cases hx with hx | rfl
      · have := h.pr x hx; omega
      · simp only; omega
    · refine ⟨by simpa [CoS.lay, CoS.put, CoS.decide] using h.n8, by simp [CoS.lay, CoS.put, CoS.decide]; omega, by simp [CoS.lay, CoS.put, CoS.decide]; omega, by simp [CoS.lay, CoS.put, CoS.decide]; omega, ?_⟩
      intro x hx
      simp only [CoS.lay, CoS.put] at hx
      rcases mem_set_cases hx with hx | rfl
      · have := h.pr x hx; omega
      · simp only; omega
theorem begins_Ok {k : Nat} {c : CoS} (h : c.Ok k) (s : List UInt8) : (c.begins s).2.2.Ok (k + 1) := by
  have hml := h.ml
  have hal := h.al
  have hn := h.now
  have h8 := h.n8
  unfold CoS.begins
  split
  · split
    · exact h.mono (by omega)
    · refine ⟨by simp; omega, by simp; omega, by simp; omega, by simp; omega, ?_⟩
      intro x hx
      simp only [List.mem_append, List.mem_singleton] at hx
      rcases hx with hx | rfl
      · have := h.pr x hx; omega
      · simp only; omega
  · rename_i i hi
    obtain ⟨p, hpi, _⟩ := nameAt_get hi
    have hlt := (List.getElem?_eq_some_iff.1 hpi).1
    exact again_Ok h i _ (getD_mem hlt)
theorem adds_Ok {k : Nat} {c : CoS} (h : c.Ok k) (o : Go.Proofs.YtccgdnocldmjeaaDoor.Op) (ho : okOp o) (i : Nat) (p : Prod) (hp : p ∈ c.prods) : (c.adds o i p).2.Ok (k + 1) := by
  have hpp := h.pr p hp
  have hml := h.ml
  have hal := h.al
  have hn := h.now
  have ht := ho.txn
  unfold CoS.adds
  split
  · split
    · refine ⟨by simpa [CoS.put] using h.n8, by simp [CoS.put]; omega, by simp [CoS.put]; omega, by simp [CoS.put]; omega, ?_⟩
      intro x hx
      simp only [CoS.put] at hx
      rcases mem_set_cases hx with hx | rfl
      · have := h.pr x hx; omega
      · simp only; omega
    · exact h.mono (by omega)
  · split
    · exact h.mono (by omega)
    · split
      · refine ⟨by simpa [CoS.put] using h.n8, by simp [CoS.put]; omega, by simp [CoS.put]; omega, by simp [CoS.put]; omega, ?_⟩
        intro x hx
        simp only [CoS.put] at hx
        rcases mem_set_cases hx with hx | rfl
        · have := h.pr x hx; omega
        · simp only; omega
      · exact h.mono (by omega)
theorem decide_Ok {k n : Nat} {c : CoS} (h8 : c.prods.length ≤ 8) (hm : c.marks.length ≤ n) (hp : ∀ p ∈ c.prods, (0 ≤ p.epoch ∧ p.epoch ≤ 100) ∧ (0 ≤ p.last ∧ p.last ≤ 100) ∧ (0 ≤ p.began ∧ p.began ≤ k)) (i : Nat) (p : Prod) (kind : Int) (hpp : p ∈ c.prods) :
    (c.decide i p kind).prods.length ≤ 8 ∧ (c.decide i p kind).marks.length ≤ n + 1 ∧ ∀ p' ∈ (c.decide i p kind).prods, (0 ≤ p'.epoch ∧ p'.epoch ≤ 100) ∧ (0 ≤ p'.last ∧ p'.last ≤ 100) ∧ (0 ≤ p'.began ∧ p'.began ≤ k) := by
  refine ⟨by simpa [CoS.decide] using h8, by simp [CoS.decide]; omega, ?_⟩
  intro x hx
  simp only [CoS.decide] at hx
  rcases mem_set_cases hx with hx | rfl
  · exact hp x hx
  · exact hp p hpp
theorem ends_Ok {k : Nat} {c : CoS} (h : c.Ok k) (o : Go.Proofs.YtccgdnocldmjeaaDoor.Op) (i : Nat) (p : Prod) (hp : p ∈ c.prods) : (c.ends o i p).2.2.Ok (k + 1) := by
  unfold CoS.ends
  split
  · obtain ⟨h1, h2, h3⟩ := decide_Ok h.n8 h.ml h.pr i p (kindOf o.commit) hp
    have hal := h.al
    have hn := h.now
    exact ⟨h1, by simp only; omega, by simp [CoS.decide]; omega, by simp [CoS.decide]; omega, fun x hx => by have := h3 x hx; omega⟩
  · split
    · exact h.mono (by omega)
    · exact h.mono (by omega)
theorem tickN_prods {k : Nat} {c : CoS} (h : c.Ok k) (n : Nat) (hn : n ≤ c.prods.length) : ∀ p ∈ (c.tickN n).1.prods, (0 ≤ p.epoch ∧ p.epoch ≤ 100) ∧ (0 ≤ p.last ∧ p.last ≤ 100) ∧ (0 ≤ p.began ∧ p.began ≤ k) := by
  induction n with
  | zero => exact h.pr
  | succ n ih =>
    obtain ⟨h1, _⟩ := c.tickN_spec n
    rw [CoS.tickN_succ]
    unfold CoS.tick1
    split
    · intro x hx
      simp only [CoS.decide] at hx
      rcases mem_set_cases hx with hx | rfl
      · exact ih (by omega) x hx
      · exact ih (by omega) ((c.tickN n).1.prods.getD n prod0) (getD_mem (ps := (c.tickN n).1.prods) (i := n) (by omega))
    · exact ih (by omega)
theorem ticks_Ok {k : Nat} {c : CoS} (h : c.Ok k) : c.ticks.2.Ok (k + 1) := by
  obtain ⟨h1, h2, h3, h4, h5⟩ := c.tickN_spec c.prods.length
  have h6 := tickN_prods h c.prods.length (Nat.le_refl _)
  have h7 := h.n8
  have h8 := h.ml
  have h9 := h.al
  have h10 := h.now
  unfold CoS.ticks
  refine ⟨by simp only; omega, by simp only [h4, List.length_append]; omega, by simp only [h3]; omega, by simp only [h2]; omega, fun x hx => by have := h6 x hx; omega⟩
theorem does_Ok {k : Nat} {c : CoS} (h : c.Ok k) (o : Go.Proofs.YtccgdnocldmjeaaDoor.Op) (ho : okOp o) : (c.does o).2.2.Ok (k + 1) := by
  unfold CoS.does
  split
  · exact begins_Ok h _
  · split
    · exact ticks_Ok h
    · split
      · rename_i h3
        have hp : c.prods.getD o.producer.toNat prod0 ∈ c.prods := getD_mem (by omega)
        simp only
        split
        · split
          · exact adds_Ok h o ho _ _ hp
          · exact ends_Ok h o _ _ hp
        · exact h.mono (by omega)
      · exact h.mono (by omega)
theorem does_answers (c : CoS) (o : Go.Proofs.YtccgdnocldmjeaaDoor.Op) : (c.does o).2.2.answers = c.answers := by
  unfold CoS.does
  split
  · unfold CoS.begins
    split
    · split <;> rfl
    · unfold CoS.again
      split
      · rfl
      · split <;> rfl
  · split
    · exact (c.tickN_spec _).2.2.1
    · split
      · simp only
        split
        · split
          · unfold CoS.adds
            split
            · split <;> rfl
            · split
              · rfl
              · split <;> rfl
          · unfold CoS.ends
            split
            · rfl
            · split <;> rfl
        · rfl
      · rfl
theorem apply_Ok {k : Nat} {c : CoS} (h : c.Ok k) (o : Go.Proofs.YtccgdnocldmjeaaDoor.Op) : (c.apply o).2.2.Ok (k + 1) := by
  unfold CoS.apply
  split
  · rename_i ho
    split
    · exact h.mono (by omega)
    · have h1 := does_Ok h o ho
      have h2 := does_answers c o
      have h3 := h.al
      exact ⟨h1.n8, h1.ml, by simp only [h2, List.length_append, List.length_singleton]; omega, h1.now, h1.pr⟩
  · exact h.mono (by omega)

theorem does_ok (b : Nat) (c : CoS) (o : Go.Proofs.YtccgdnocldmjeaaDoor.Op) (k : Nat) (hk : k ≤ 1000) (h : c.Ok k) (ho : okOp o) :
    Trip Tryd.prog 25 [vp b 0, .agg (opC o).toArray] [coA b c] (fun r l => ∃ v, r = .tuple #[.agg (repC (c.does o).1).toArray, v] ∧ l = [coA b (c.does o).2.2, markA v (c.does o).2.1]) := by
  have h8 := h.n8
  have hml := h.ml
  have hn := h.now
  have ht := ho.txn
  unfold CoS.does
  by_cases h1 : o.kind = 1
  · simp only [if_pos h1]
    exact does_init b c o h8 (by omega) (fun p hp => (h.pr p hp).1.1) h1
  · simp only [if_neg h1]
    by_cases h4 : o.kind = 4
    · simp only [if_pos h4]
      exact does_tick b c o h8 (by omega) (by omega) (fun p hp => by have := h.pr p hp; omega) h4
    · simp only [if_neg h4]
      by_cases hp : 0 ≤ o.producer ∧ o.producer < c.prods.length
      · simp only [if_pos hp]
        have hpi := getD_get (ps := c.prods) (i := o.producer.toNat) (by omega)
        by_cases he : o.epoch = (c.prods.getD o.producer.toNat prod0).epoch
        · simp only [if_pos he]
          by_cases h2 : o.kind = 2
          · simp only [if_pos h2]
            unfold CoS.adds
            cases hopn : (c.prods.getD o.producer.toNat prod0).opn with
            | true =>
              by_cases h5 : o.txn = (c.prods.getD o.producer.toNat prod0).last
              · simp only [if_pos h5, if_true]
                have h7 := does_addI b c o _ h1 h4 hp.1 hpi he h2 hopn h5
                rw [hopn] at h7
                exact h7
              · simp only [if_neg h5, if_true]
                exact does_add6 b c o _ h1 h4 hp.1 hpi he h2 hopn h5
            | false =>
              by_cases h5 : 100 ≤ (c.prods.getD o.producer.toNat prod0).last
              · simp only [if_pos h5, Bool.false_eq_true, if_false]
                exact does_add7 b c o _ h1 h4 hp.1 hpi he h2 hopn h5
              · by_cases h6 : o.txn - 1 = (c.prods.getD o.producer.toNat prod0).last
                · simp only [if_neg h5, if_pos h6, Bool.false_eq_true, if_false]
                  exact does_addN b c o _ h1 h4 hp.1 hpi he h2 hopn h5 h6 (by omega)
                · simp only [if_neg h5, if_neg h6, Bool.false_eq_true, if_false]
                  exact does_addB b c o _ h1 h4 hp.1 hpi he h2 hopn h5 h6 (by omega)
          · simp only [if_neg h2]
            have h3 : o.kind = 3 := by have := ho.kind; omega
            unfold CoS.ends
            by_cases h5 : (c.prods.getD o.producer.toNat prod0).opn = true ∧ o.txn = (c.prods.getD o.producer.toNat prod0).last
            · simp only [if_pos h5]
              exact does_endN b c o _ h1 h4 hp.1 hpi he h3 h5.1 h5.2 (by omega)
            · simp only [if_neg h5]
              have h7 := does_endE b c o _ h1 h4 hp.1 hpi he h3 h5
              by_cases h6 : (⟨kindOf o.commit, o.producer, o.epoch, o.txn⟩ : Mark) ∈ c.decided
              · simp only [if_pos h6] at h7 ⊢
                exact h7
              · simp only [if_neg h6] at h7 ⊢
                exact h7
        · simp only [if_neg he]
          exact does_fenced b c o _ h1 h4 hp.1 hpi he
      · simp only [if_neg hp]
        exact does_none b c o h1 h4 hp
end Go.Proofs.YtccgdnocldmjeaaDoor
