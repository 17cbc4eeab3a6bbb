/- The coordinator as a plain function: no transaction is decided twice, no epoch is marked twice, what is decided is never open. -/
import Derived.Test.YtccgdnocldmjeaaDoorOpsA
namespace Go.Proofs.YtccgdnocldmjeaaDoor
open Go
set_option maxHeartbeats 4000000
set_option linter.unusedSimpArgs false
set_option linter.unusedVariables false
set_option maxRecDepth 20000

def fits (m : Mark) (p : Prod) : Prop := 0 ≤ m.txn ∧ m.epoch ≤ p.epoch ∧ (m.epoch = p.epoch → m.txn ≤ p.last ∧ (p.opn = true → m.txn < p.last))
def sameM (a b : Mark) : Prop := a.producer = b.producer ∧ a.epoch = b.epoch ∧ a.txn = b.txn
structure OnceL (ps : List Prod) (ms : List Mark) : Prop where
  inn : ∀ m ∈ ms, ∃ (i : Nat) (p : Prod), m.producer = i ∧ ps[i]? = some p ∧ fits m p
  dis : ms.Pairwise fun a b => ¬ sameM a b
theorem OnceL.nil : OnceL [] [] := ⟨by simp, List.Pairwise.nil⟩
theorem OnceL.mem {ps : List Prod} {ms : List Mark} (h : OnceL ps ms) {i : Nat} {p : Prod} (hp : ps[i]? = some p) {m : Mark} (hm : m ∈ ms) (hi : m.producer = i) : fits m p := by
  obtain ⟨j, q, h1, h2, h3⟩ := h.inn m hm
  obtain rfl : j = i := by omega
  rw [hp] at h2
  cases h2
  exact h3
theorem OnceL.set {ps : List Prod} {ms : List Mark} (h : OnceL ps ms) {i : Nat} {p p' : Prod} (hp : ps[i]? = some p) (hf : ∀ m, fits m p → fits m p') : OnceL (ps.set i p') ms := by
  refine ⟨fun m hm => ?_, h.dis⟩
  obtain ⟨j, q, h1, h2, h3⟩ := h.inn m hm
  by_cases hj : i = j
  · subst hj
    rw [hp] at h2
    cases h2
    exact ⟨i, p', h1, List.getElem?_set_self (List.getElem?_eq_some_iff.1 hp).1, hf m h3⟩
  · exact ⟨j, q, h1, by rw [List.getElem?_set_ne hj]; exact h2, h3⟩
theorem OnceL.mark {ps : List Prod} {ms : List Mark} (h : OnceL ps ms) {i : Nat} {p : Prod} (hp : ps[i]? = some p) (m : Mark) (hi : m.producer = i) (hf : fits m p) (hd : ∀ m' ∈ ms, m'.producer = i → ¬ (m'.epoch = m.epoch ∧ m'.txn = m.txn)) : OnceL ps (ms ++ [m]) := by
  refine ⟨fun x hx => ?_, ?_⟩
  · rcases List.mem_append.1 hx with hx | hx
    · exact h.inn x hx
    · rw [List.mem_singleton.1 hx]
      exact ⟨i, p, hi, hp, hf⟩
  · rw [List.pairwise_append]
    refine ⟨h.dis, by simp, fun a ha b hb => ?_⟩
    rw [List.mem_singleton.1 hb]
    intro hs
    exact hd a ha (by rw [hs.1, hi]) ⟨hs.2.1, hs.2.2⟩
theorem OnceL.snoc {ps : List Prod} {ms : List Mark} (h : OnceL ps ms) (p : Prod) : OnceL (ps ++ [p]) ms := by
  refine ⟨fun m hm => ?_, h.dis⟩
  obtain ⟨j, q, h1, h2, h3⟩ := h.inn m hm
  exact ⟨j, q, h1, by rw [List.getElem?_append_left (List.getElem?_eq_some_iff.1 h2).1]; exact h2, h3⟩
theorem OnceL.decide {ps : List Prod} {ms : List Mark} (h : OnceL ps ms) {i : Nat} {p : Prod} (hp : ps[i]? = some p) (ho : p.opn = true) (h0 : 0 ≤ p.last) (kind : Int) :
    OnceL (ps.set i { p with opn := false, parts := [] }) (ms ++ [⟨kind, i, p.epoch, p.last⟩]) := by
  have h1 : OnceL (ps.set i { p with opn := false, parts := [] }) ms := h.set hp fun m hm => ⟨hm.1, hm.2.1, fun he => ⟨(hm.2.2 he).1, by simp⟩⟩
  refine h1.mark (i := i) (List.getElem?_set_self (List.getElem?_eq_some_iff.1 hp).1) _ rfl ⟨h0, by simp, fun _ => ⟨by simp, by simp⟩⟩ fun m' hm' hi hh => ?_
  have h2 := h.mem hp hm' hi
  have h3 := (h2.2.2 hh.1).2 ho
  have h4 := hh.2
  simp only at h4
  omega
theorem OnceL.epoch {ps : List Prod} {ms : List Mark} (h : OnceL ps ms) {i : Nat} {p p' : Prod} (hp : ps[i]? = some p) (he : p'.epoch = p.epoch + 1) (hl : p'.last = 0) (ho : p'.opn = false) :
    OnceL (ps.set i p') (ms ++ [⟨1, i, p.epoch + 1, 0⟩]) := by
  have h1 : OnceL (ps.set i p') ms := h.set hp fun m hm => ⟨hm.1, by have := hm.2.1; omega, fun hh => by have := hm.2.1; omega⟩
  refine h1.mark (i := i) (List.getElem?_set_self (List.getElem?_eq_some_iff.1 hp).1) _ rfl ⟨by simp, by simp [he], fun _ => ⟨by simp [hl], by simp [ho]⟩⟩ fun m' hm' hi hh => ?_
  have h2 := (h.mem hp hm' hi).2.1
  have h4 := hh.1
  simp only at h4
  omega
abbrev OnceC (c : CoS) : Prop := OnceL c.prods c.marks
theorem again_Once {c : CoS} (h : OnceC c) {i : Nat} {p : Prod} (hp : c.prods[i]? = some p) (h0 : 0 ≤ p.last) : OnceC (c.again i p).2.2 := by
  unfold CoS.again
  split
  · exact h
  · split
    · rename_i _ ho
      have h1 := h.decide hp ho h0 3
      have h2 := h1.epoch (i := i) (p' := { p with opn := false, parts := [], epoch := p.epoch + 1, last := 0 }) (List.getElem?_set_self (List.getElem?_eq_some_iff.1 hp).1) rfl rfl rfl
      simpa [OnceC, CoS.lay, CoS.put, CoS.decide] using h2
    · rename_i _ ho
      exact h.epoch hp rfl rfl (by simpa using ho)
theorem begins_Once {k : Nat} {c : CoS} (hk : c.Ok k) (h : OnceC c) (s : List UInt8) : OnceC (c.begins s).2.2 := by
  unfold CoS.begins
  split
  · split
    · exact h
    · refine (h.snoc _).mark (i := c.prods.length) (p := ⟨s, 0, 0, false, [], 0⟩) (by simp) _ rfl ⟨by simp, by simp, by simp⟩ fun m' hm' hi hh => ?_
      obtain ⟨j, q, h1, h2, _⟩ := h.inn m' hm'
      have := (List.getElem?_eq_some_iff.1 h2).1
      omega
  · rename_i i hi
    obtain ⟨p, hpi, _⟩ := nameAt_get hi
    have hgd : c.prods.getD i prod0 = p := by rw [List.getD_eq_getElem?_getD, hpi]; rfl
    rw [hgd]
    exact again_Once h hpi (hk.pr p (List.mem_of_getElem? hpi)).2.1.1
theorem adds_Once {c : CoS} (h : OnceC c) (o : Go.Proofs.YtccgdnocldmjeaaDoor.Op) (i : Nat) (p : Prod) (hp : c.prods[i]? = some p) : OnceC (c.adds o i p).2 := by
  unfold CoS.adds
  split
  · split
    · exact h.set hp fun m hm => hm
    · exact h
  · split
    · exact h
    · split
      · rename_i h1 h2 h3
        exact h.set hp fun m hm => ⟨hm.1, hm.2.1, fun he => by have := (hm.2.2 he).1; simp only; exact ⟨by omega, fun _ => by omega⟩⟩
      · exact h
theorem ends_Once {c : CoS} (h : OnceC c) (o : Go.Proofs.YtccgdnocldmjeaaDoor.Op) (i : Nat) (p : Prod) (hp : c.prods[i]? = some p) (h0 : 0 ≤ p.last) : OnceC (c.ends o i p).2.2 := by
  unfold CoS.ends
  split
  · rename_i h1
    exact h.decide hp h1.1 h0 _
  · split <;> exact h
theorem tickN_Once {k : Nat} {c : CoS} (hk : c.Ok k) (h : OnceC c) (n : Nat) (hn : n ≤ c.prods.length) : OnceC (c.tickN n).1 := by
  induction n with
  | zero => exact h
  | succ n ih =>
    obtain ⟨h1, _⟩ := c.tickN_spec n
    have h2 := tickN_prods hk n (by omega)
    rw [CoS.tickN_succ]
    unfold CoS.tick1
    split
    · rename_i ha
      unfold CoS.ages at ha
      simp only [Bool.and_eq_true] at ha
      exact (ih (by omega)).decide (getD_get (by omega)) ha.1 (h2 _ (getD_mem (by omega))).2.1.1 3
    · exact ih (by omega)
theorem does_Once {k : Nat} {c : CoS} (hk : c.Ok k) (h : OnceC c) (o : Go.Proofs.YtccgdnocldmjeaaDoor.Op) : OnceC (c.does o).2.2 := by
  unfold CoS.does
  split
  · exact begins_Once hk h _
  · split
    · exact tickN_Once hk h _ (Nat.le_refl _)
    · split
      · rename_i h3
        have hp : c.prods[o.producer.toNat]? = some (c.prods.getD o.producer.toNat prod0) := getD_get (by omega)
        have h0 := (hk.pr _ (getD_mem (by omega : o.producer.toNat < c.prods.length))).2.1.1
        simp only
        split
        · split
          · exact adds_Once h o _ _ hp
          · exact ends_Once h o _ _ hp h0
        · exact h
      · exact h
theorem apply_Once {k : Nat} {c : CoS} (hk : c.Ok k) (h : OnceC c) (o : Go.Proofs.YtccgdnocldmjeaaDoor.Op) : OnceC (c.apply o).2.2 := by
  unfold CoS.apply
  split
  · split
    · exact h
    · exact does_Once hk h o
  · exact h
theorem run_Once (ops : List Go.Proofs.YtccgdnocldmjeaaDoor.Op) : ∀ {k : Nat} {c : CoS}, c.Ok k → OnceC c → OnceC (run c ops) := by
  induction ops with
  | nil => intro k c _ h; exact h
  | cons o ops ih =>
    intro k c hk h
    exact ih (apply_Ok hk o) (apply_Once hk h o)
/-- What is told of a mark. -/
theorem once_plain {c : CoS} (h : OnceC c) {m : Mark} (hm : m ∈ c.marks) : (c.epoch m.producer).2 = true ∧ m.epoch ≤ (c.epoch m.producer).1 ∧ ¬ ((c.open_ m.producer).2.2 = true ∧ m.epoch = (c.epoch m.producer).1 ∧ m.txn = (c.open_ m.producer).1) := by
  obtain ⟨i, p, h1, h2, h3⟩ := h.inn m hm
  have hlt := (List.getElem?_eq_some_iff.1 h2).1
  have hi : m.producer.toNat = i := by omega
  have hgd : c.prods.getD i prod0 = p := by rw [List.getD_eq_getElem?_getD, h2]; rfl
  have he : c.epoch m.producer = (p.epoch, true) := by
    unfold CoS.epoch
    rw [if_pos (by omega), hi, hgd]
  rw [he]
  refine ⟨rfl, h3.2.1, fun ⟨k1, k2, k3⟩ => ?_⟩
  unfold CoS.open_ at k1 k3
  rw [hi, hgd] at k1 k3
  by_cases ho : p.opn = true
  · rw [if_pos ⟨by omega, by omega, ho⟩] at k3
    have := (h3.2.2 k2).2 ho
    simp only at k3
    omega
  · rw [if_neg (fun hh => ho hh.2.2)] at k1
    cases k1
end Go.Proofs.YtccgdnocldmjeaaDoor
