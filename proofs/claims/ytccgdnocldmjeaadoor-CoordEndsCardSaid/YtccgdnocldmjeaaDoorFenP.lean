/- The coordinator as a plain function: a new epoch fences the elder one. -/
import Derived.Test.YtccgdnocldmjeaaDoorOpsA
namespace Go.Proofs.YtccgdnocldmjeaaDoor
open Go
set_option maxHeartbeats 4000000
set_option linter.unusedSimpArgs false
set_option linter.unusedVariables false
set_option maxRecDepth 20000

theorem nameAt_set {ps : List Prod} {s : List UInt8} {i : Nat} {p : Prod} (h : nameAt ps s = some i) (hp : p.name = s) : nameAt (ps.set i p) s = some i := by
  obtain ⟨h1, h2, h3⟩ := List.findIdx?_eq_some_iff_getElem.1 h
  refine List.findIdx?_eq_some_iff_getElem.2 ⟨by simpa using h1, by simp [hp], fun j hj => ?_⟩
  have h4 := h3 j hj
  rw [List.getElem_set_ne (by omega)]
  exact h4
theorem nameAt_new {ps : List Prod} {s : List UInt8} {p : Prod} (h : nameAt ps s = none) (hp : p.name = s) : nameAt (ps ++ [p]) s = some ps.length := by
  have h1 := List.findIdx?_eq_none_iff.1 h
  refine List.findIdx?_eq_some_iff_getElem.2 ⟨by simp, by simp [hp], fun j hj => ?_⟩
  rw [List.getElem_append_left (by omega)]
  have := h1 _ (List.getElem_mem (by omega : j < ps.length))
  simpa using this
theorem begins_spec {k : Nat} {c : CoS} (h : c.Ok k) (s : List UInt8) :
    ((c.begins s).1.err = 3 ∨ (c.begins s).1.err = 7) ∨ ∃ (i : Nat) (q : Prod), i < 8 ∧ (c.begins s).1 = ⟨0, i, q.epoch⟩ ∧ (c.begins s).2.2.prods[i]? = some q ∧ q.last = 0 ∧ q.opn = false ∧ nameAt (c.begins s).2.2.prods s = some i ∧ (0 ≤ q.epoch ∧ q.epoch ≤ 100) := by
  have h8 := h.n8
  unfold CoS.begins
  cases hi : nameAt c.prods s with
  | none =>
    by_cases h1 : 8 ≤ c.prods.length
    · simp only [if_pos h1]
      exact .inl (.inl trivial)
    · simp only [if_neg h1]
      exact .inr ⟨c.prods.length, ⟨s, 0, 0, false, [], 0⟩, by omega, rfl, by simp, rfl, rfl, nameAt_new hi rfl, by simp⟩
  | some i =>
    obtain ⟨p, hpi, hpn⟩ := nameAt_get hi
    have hlt := (List.getElem?_eq_some_iff.1 hpi).1
    have hp := h.pr p (List.mem_of_getElem? hpi)
    have hgd : c.prods.getD i prod0 = p := by rw [List.getD_eq_getElem?_getD, hpi]; rfl
    simp only [hgd]
    unfold CoS.again
    by_cases h1 : 100 ≤ p.epoch
    · rw [if_pos h1]
      exact .inl (.inr rfl)
    · rw [if_neg h1]
      by_cases h2 : p.opn = true
      · rw [if_pos h2]
        refine .inr ⟨i, { p with opn := false, parts := [], epoch := p.epoch + 1, last := 0 }, by omega, rfl, ?_, rfl, rfl, ?_, by simp only; omega⟩
        · simp [CoS.lay, CoS.put, CoS.decide, hlt]
        · simp only [CoS.lay, CoS.put, CoS.decide, List.set_set]
          exact nameAt_set hi hpn
      · rw [if_neg h2]
        have h3 : p.opn = false := by simpa using h2
        refine .inr ⟨i, { p with epoch := p.epoch + 1, last := 0 }, by omega, rfl, ?_, rfl, h3, ?_, by simp only; omega⟩
        · simp [CoS.lay, CoS.put, hlt]
        · simp only [CoS.lay, CoS.put]
          exact nameAt_set hi hpn
theorem does_init_eq {c : CoS} {o : Go.Proofs.YtccgdnocldmjeaaDoor.Op} (hk : o.kind = 1) : c.does o = c.begins o.name := by
  unfold CoS.does
  rw [if_pos hk]
theorem does_add_eq {c : CoS} {o : Go.Proofs.YtccgdnocldmjeaaDoor.Op} {i : Nat} {q : Prod} (hk : o.kind = 2) (hp : o.producer = i) (hq : c.prods[i]? = some q) (he : o.epoch = q.epoch) :
    c.does o = (⟨(c.adds o i q).1, 0, 0⟩, [], (c.adds o i q).2) := by
  have hlt := (List.getElem?_eq_some_iff.1 hq).1
  have hi : o.producer.toNat = i := by omega
  have hgd : c.prods.getD i prod0 = q := by rw [List.getD_eq_getElem?_getD, hq]; rfl
  unfold CoS.does
  rw [if_neg (by omega), if_neg (by omega), if_pos (by omega)]
  simp only [hi, hgd, if_pos he, if_pos hk]
theorem does_end_eq {c : CoS} {o : Go.Proofs.YtccgdnocldmjeaaDoor.Op} {i : Nat} {q : Prod} (hk : o.kind = 3) (hp : o.producer = i) (hq : c.prods[i]? = some q) (he : o.epoch = q.epoch) :
    c.does o = (⟨(c.ends o i q).1, 0, 0⟩, (c.ends o i q).2) := by
  have hlt := (List.getElem?_eq_some_iff.1 hq).1
  have hi : o.producer.toNat = i := by omega
  have hgd : c.prods.getD i prod0 = q := by rw [List.getD_eq_getElem?_getD, hq]; rfl
  unfold CoS.does
  rw [if_neg (by omega), if_neg (by omega), if_pos (by omega)]
  simp only [hi, hgd, if_pos he, if_neg (show ¬ o.kind = 2 by omega)]
theorem does_old_eq {c : CoS} {o : Go.Proofs.YtccgdnocldmjeaaDoor.Op} {i : Nat} {q : Prod} (hk : o.kind = 2 ∨ o.kind = 3) (hp : o.producer = i) (hq : c.prods[i]? = some q) (he : ¬ o.epoch = q.epoch) : c.does o = (⟨5, 0, 0⟩, [], c) := by
  have hlt := (List.getElem?_eq_some_iff.1 hq).1
  have hi : o.producer.toNat = i := by omega
  have hgd : c.prods.getD i prod0 = q := by rw [List.getD_eq_getElem?_getD, hq]; rfl
  unfold CoS.does
  rw [if_neg (by omega), if_neg (by omega), if_pos (by omega)]
  simp only [hi, hgd, if_neg he]

/-- Nothing of a client's was answered from a number on. -/
def NoAns (c : CoS) (cl s : Int) : Prop := ∀ x ∈ c.answers, ¬ (x.1.1 = cl ∧ s ≤ x.1.2)
theorem NoAns.look {c : CoS} {cl s t : Int} (h : NoAns c cl s) (ht : s ≤ t) : alook c.answers (cl, t) = none := by
  rw [alook_none]
  intro hm
  obtain ⟨x, hx, hk⟩ := List.mem_map.1 hm
  exact h x hx (by rw [hk]; exact ⟨rfl, ht⟩)
theorem NoAns.apply {c : CoS} {cl s : Int} (h : NoAns c cl s) (o : Go.Proofs.YtccgdnocldmjeaaDoor.Op) (ho : ¬ (o.client = cl ∧ s ≤ o.seq)) : NoAns (c.apply o).2.2 cl s := by
  unfold CoS.apply
  split
  · split
    · exact h
    · intro x hx
      simp only [does_answers, List.mem_append, List.mem_singleton] at hx
      rcases hx with hx | rfl
      · exact h x hx
      · exact ho
  · exact h
theorem NoAns.mono {c : CoS} {cl s t : Int} (h : NoAns c cl s) (ht : s ≤ t) : NoAns c cl t := fun x hx hh => h x hx ⟨hh.1, by omega⟩

abbrev fO1 : Go.Proofs.YtccgdnocldmjeaaDoor.Op := ⟨1, 15, 1, [102], 0, 0, 0, 0, false⟩
abbrev fO2 (p e : Int) : Go.Proofs.YtccgdnocldmjeaaDoor.Op := ⟨2, 15, 2, [], p, e, 1, 0, false⟩
abbrev fO3 : Go.Proofs.YtccgdnocldmjeaaDoor.Op := ⟨1, 15, 3, [102], 0, 0, 0, 0, false⟩
abbrev fO4 (p e t : Int) : Go.Proofs.YtccgdnocldmjeaaDoor.Op := ⟨2, 15, 4, [], p, e, t, 0, false⟩
abbrev fO5 (p e t : Int) (cm : Bool) : Go.Proofs.YtccgdnocldmjeaaDoor.Op := ⟨3, 15, 5, [], p, e, t, 0, cm⟩
theorem fences_plain {k : Nat} {c : CoS} (h : c.Ok k) (ha : NoAns c 15 1) (t : Int) (ht : 1 ≤ t ∧ t ≤ 3) (cm : Bool) (R1 R2 R3 R4 R5 : Rep × List Mark × CoS)
    (e1 : R1 = c.apply fO1) (e2 : R2 = R1.2.2.apply (fO2 R1.1.producer R1.1.epoch)) (e3 : R3 = R2.2.2.apply fO3) (e4 : R4 = R3.2.2.apply (fO4 R1.1.producer R1.1.epoch t)) (e5 : R5 = R4.2.2.apply (fO5 R1.1.producer R1.1.epoch t cm)) :
    (R1.1.err = 3 ∨ R1.1.err = 7) ∨ (R1.1.err = 0 ∧ R2.1.err = 0 ∧ (R3.1.err = 7 ∨ (R3.1 = ⟨0, R1.1.producer, R1.1.epoch + 1⟩ ∧ R3.2.1 = [⟨3, R1.1.producer, R1.1.epoch, 1⟩, ⟨1, R1.1.producer, R1.1.epoch + 1, 0⟩] ∧ R4.1.err = 5 ∧ R4.2.1 = [] ∧ R5.1.err = 5 ∧ R5.2.1 = [] ∧ (0 ≤ R1.1.epoch ∧ R1.1.epoch ≤ 100)))) := by
  have ok1 : okOp fO1 := by decide
  have ok3 : okOp fO3 := by decide
  rw [apply_new_eq ok1 (ha.look (Int.le_refl _)), does_init_eq rfl] at e1
  rcases begins_spec h [102] with hb | ⟨i, q, hi, hb1, hb2, hb3, hb4, hb5, hb6⟩
  · left
    rw [e1]
    exact hb
  right
  have hR1 : R1.1 = ⟨0, i, q.epoch⟩ := by rw [e1]; exact hb1
  have hP1 : R1.2.2.prods[i]? = some q := by rw [e1]; exact hb2
  have hN1 : nameAt R1.2.2.prods [102] = some i := by rw [e1]; exact hb5
  have hA1 : NoAns R1.2.2 15 2 := by
    rw [e1]
    intro x hx
    simp only [List.mem_append, List.mem_singleton] at hx
    rcases hx with hx | rfl
    · exact (ha.mono (by decide)) x hx
    · simp
  clear e1 hb1 hb2 hb5
  refine ⟨by rw [hR1], ?_⟩
  rw [hR1] at e2 e4 e5 ⊢
  simp only at e2 e4 e5 ⊢
  have ok2 : okOp (fO2 i q.epoch) := ⟨by simp, by simp, by simp, by simp, by simp only; omega, hb6, by simp, by simp, by simp⟩
  rw [apply_new_eq ok2 (hA1.look (Int.le_refl _)), does_add_eq (i := i) (q := q) rfl rfl hP1 rfl] at e2
  have had : R1.2.2.adds (fO2 i q.epoch) i q = (0, R1.2.2.put i { q with opn := true, last := 1, began := R1.2.2.now, parts := [0] }) := by
    unfold CoS.adds
    rw [if_neg (by simp [hb4]), if_neg (by omega), if_pos (by rw [hb3]; rfl)]
  rw [had] at e2
  have hR2 : R2.1.err = 0 := by rw [e2]
  have hlt : i < R1.2.2.prods.length := (List.getElem?_eq_some_iff.1 hP1).1
  have hP2 : R2.2.2.prods[i]? = some { q with opn := true, last := 1, began := R1.2.2.now, parts := [0] } := by
    rw [e2]
    simp [CoS.put, hlt]
  have hN2 : nameAt R2.2.2.prods [102] = some i := by
    rw [e2]
    obtain ⟨p', hp', hn'⟩ := nameAt_get hN1
    rw [hP1] at hp'
    cases hp'
    exact nameAt_set hN1 hn'
  have hA2 : NoAns R2.2.2 15 3 := by
    rw [e2]
    intro x hx
    simp only [List.mem_append, List.mem_singleton] at hx
    rcases hx with hx | rfl
    · exact (hA1.mono (by decide)) x hx
    · simp
  clear e2 had
  refine ⟨hR2, ?_⟩
  rw [apply_new_eq ok3 (hA2.look (Int.le_refl _)), does_init_eq rfl] at e3
  generalize hq2 : ({ q with opn := true, last := 1, began := R1.2.2.now, parts := [0] } : Prod) = q2 at hP2
  have f1 : q2.opn = true := by rw [← hq2]
  have f2 : q2.last = 1 := by rw [← hq2]
  have f3 : q2.epoch = q.epoch := by rw [← hq2]
  have hbe : R2.2.2.begins [102] = R2.2.2.again i q2 := by
    unfold CoS.begins
    simp only [hN2]
    rw [List.getD_eq_getElem?_getD, hP2]
    rfl
  rw [hbe] at e3
  unfold CoS.again at e3
  by_cases h100 : 100 ≤ q2.epoch
  · rw [if_pos h100] at e3
    left
    rw [e3]
  right
  rw [if_neg h100, if_pos f1, f2, f3] at e3
  have hlt2 : i < R2.2.2.prods.length := (List.getElem?_eq_some_iff.1 hP2).1
  have hP3 : R3.2.2.prods[i]? = some { q2 with opn := false, parts := [], epoch := q.epoch + 1, last := 0 } := by
    rw [e3]
    simp [CoS.lay, CoS.put, CoS.decide, hlt2]
  have hA3 : NoAns R3.2.2 15 4 := by
    rw [e3]
    intro x hx
    simp only [List.mem_append, List.mem_singleton] at hx
    rcases hx with hx | rfl
    · exact (hA2.mono (by decide)) x hx
    · simp
  refine ⟨by rw [e3], by rw [e3], ?_⟩
  clear e3 hbe
  have ok4 : okOp (fO4 i q.epoch t) := ⟨by simp, by simp, by simp, by simp, by simp only; omega, hb6, by simp only; omega, by simp, by simp⟩
  have ok5 : okOp (fO5 i q.epoch t cm) := ⟨by simp, by simp, by simp, by simp, by simp only; omega, hb6, by simp only; omega, by simp, by simp⟩
  rw [apply_new_eq ok4 (hA3.look (Int.le_refl _)), does_old_eq (i := i) (.inl rfl) rfl hP3 (by simp only; omega)] at e4
  have hP4 : R4.2.2.prods[i]? = some { q2 with opn := false, parts := [], epoch := q.epoch + 1, last := 0 } := by rw [e4]; exact hP3
  have hA4 : NoAns R4.2.2 15 5 := by
    rw [e4]
    intro x hx
    simp only [List.mem_append, List.mem_singleton] at hx
    rcases hx with hx | rfl
    · exact (hA3.mono (by decide)) x hx
    · simp
  refine ⟨by rw [e4], by rw [e4], ?_⟩
  clear e4
  rw [apply_new_eq ok5 (hA4.look (Int.le_refl _)), does_old_eq (i := i) (.inr rfl) rfl hP4 (by simp only; omega)] at e5
  exact ⟨by rw [e5], by rw [e5], hb6⟩
end Go.Proofs.YtccgdnocldmjeaaDoor
