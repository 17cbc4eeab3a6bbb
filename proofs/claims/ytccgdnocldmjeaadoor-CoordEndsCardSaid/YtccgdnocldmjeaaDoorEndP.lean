/- The coordinator as a plain function: a transaction's parts, and its end. -/
import Derived.Test.YtccgdnocldmjeaaDoorFenP
namespace Go.Proofs.YtccgdnocldmjeaaDoor
open Go
set_option maxHeartbeats 4000000
set_option linter.unusedSimpArgs false
set_option linter.unusedVariables false
set_option maxRecDepth 20000

def dist (ks : List Int) : List Int := ks.foldl addI []
theorem dist_snoc (ks : List Int) (k : Int) : dist (ks ++ [k]) = addI (dist ks) k := by simp [dist]
theorem addI_len (xs : List Int) (x : Int) : (addI xs x).length = if x ∈ xs then xs.length else xs.length + 1 := by
  unfold addI
  split <;> simp
theorem mem_addI {xs : List Int} {x y : Int} : y ∈ addI xs x ↔ y ∈ xs ∨ y = x := by
  unfold addI
  split
  · rename_i h
    constructor
    · exact .inl
    · rintro (h2 | rfl)
      · exact h2
      · exact h
  · simp
abbrev aO (s k : Int) : Go.Proofs.YtccgdnocldmjeaaDoor.Op := ⟨2, 0, s, [], 0, 0, 1, k, false⟩
abbrev aO2 (s : Int) : Go.Proofs.YtccgdnocldmjeaaDoor.Op := ⟨2, 0, s, [], 0, 0, 2, 0, false⟩
abbrev eO (s : Int) (cm : Bool) : Go.Proofs.YtccgdnocldmjeaaDoor.Op := ⟨3, 0, s, [], 0, 0, 1, 0, cm⟩
def enQ (ks : List Int) : Prod := ⟨[97], 0, if ks.isEmpty = true then 0 else 1, !ks.isEmpty, dist ks, 0⟩
structure EnI (c : CoS) (ks : List Int) (s : Int) : Prop where
  pr : c.prods = [enQ ks]
  mk_ : c.marks = [⟨1, 0, 0, 0⟩]
  de : c.decided = []
  nw : c.now = 0
  na : NoAns c 0 s
theorem EnI.new : EnI ck1 [] 1 := ⟨rfl, rfl, rfl, rfl, by
  intro x hx
  have h : ck1.answers = [((0, 0), ⟨0, 0, 0⟩)] := rfl
  rw [h] at hx
  rw [List.mem_singleton.1 hx]
  simp⟩
theorem NoAns.snoc {c : CoS} {cl s : Int} {l : List ((Int × Int) × Rep)} {r : Rep} {c' : CoS} (h : NoAns c cl s) (hc : c'.answers = c.answers ++ [((cl, s), r)]) : NoAns c' cl (s + 1) := by
  intro x hx
  rw [hc] at hx
  rcases List.mem_append.1 hx with hx | hx
  · exact (h.mono (by omega)) x hx
  · rw [List.mem_singleton.1 hx]
    intro hh
    have := hh.2
    simp only at this
    omega
theorem EnI.add {c : CoS} {ks : List Int} {s k : Int} (h : EnI c ks s) (hs : 0 ≤ s ∧ s ≤ 100) (hk : 0 ≤ k ∧ k ≤ 3) : (c.apply (aO s k)).1 = ⟨0, 0, 0⟩ ∧ EnI (c.apply (aO s k)).2.2 (ks ++ [k]) (s + 1) := by
  have ok : okOp (aO s k) := ⟨by simp, by simp, by simp only; omega, by simp, by simp, by simp, by simp, hk, by simp⟩
  have hq : c.prods[0]? = some (enQ ks) := by rw [h.pr]; rfl
  rw [apply_new_eq ok (h.na.look (Int.le_refl _)), does_add_eq (i := 0) (q := enQ ks) rfl rfl hq rfl]
  have hadd : c.adds (aO s k) 0 (enQ ks) = (0, c.put 0 (enQ (ks ++ [k]))) := by
    unfold CoS.adds
    cases ks with
    | nil =>
      rw [if_neg (by simp [enQ]), if_neg (by simp [enQ]), if_pos (by simp [enQ])]
      simp only [h.nw]
      rfl
    | cons x ks =>
      rw [if_pos (by simp [enQ]), if_pos (by simp [enQ])]
      have e : (enQ (x :: ks ++ [k])) = { enQ (x :: ks) with parts := addI (enQ (x :: ks)).parts k } := by
        unfold enQ
        rw [dist_snoc]
        simp
      rw [e]
  rw [hadd]
  refine ⟨rfl, ⟨?_, h.mk_, h.de, h.nw, h.na.snoc (l := []) rfl⟩⟩
  simp [CoS.put, h.pr]
theorem ends_plain {c : CoS} {ks : List Int} {s : Int} (h : EnI c ks s) (hs : 0 ≤ s ∧ s ≤ 100) (cm : Bool) (R1 R2 R3 R4 R5 : Rep × List Mark × CoS)
    (e1 : R1 = c.apply (eO s cm)) (e2 : R2 = R1.2.2.apply (eO (s + 1) cm)) (e3 : R3 = R2.2.2.apply (eO (s + 2) (!cm))) (e4 : R4 = R3.2.2.apply (aO (s + 3) 0)) (e5 : R5 = R4.2.2.apply (aO2 (s + 4))) :
    (ks = [] → R1.1.err = 6) ∧ (ks ≠ [] → R1.1.err = 0 ∧ R2.1.err = 0 ∧ R3.1.err = 6 ∧ R4.1.err = 6 ∧ R5.1.err = 0 ∧ R5.2.2.marks.length = 2) := by
  have okE : ∀ t b, 0 ≤ t ∧ t ≤ 200 → okOp (eO t b) := fun t b ht => ⟨by simp, by simp, by simp only; omega, by simp, by simp, by simp, by simp, by simp, by simp⟩
  have hq : c.prods[0]? = some (enQ ks) := by rw [h.pr]; rfl
  rw [apply_new_eq (okE s cm (by omega)) (h.na.look (Int.le_refl _)), does_end_eq (i := 0) (q := enQ ks) rfl rfl hq rfl] at e1
  cases ks with
  | nil =>
    refine ⟨fun _ => ?_, fun hh => absurd rfl hh⟩
    rw [e1]
    unfold CoS.ends
    rw [if_neg (by simp [enQ]), h.de, if_neg (by simp)]
  | cons x ks =>
    refine ⟨fun hh => (by cases hh), fun _ => ?_⟩
    have hend : c.ends (eO s cm) 0 (enQ (x :: ks)) = (0, [⟨kindOf cm, 0, 0, 1⟩], c.decide 0 (enQ (x :: ks)) (kindOf cm)) := by
      unfold CoS.ends
      rw [if_pos (by simp [enQ])]
      rfl
    rw [hend] at e1
    have p1 : R1.2.2.prods[0]? = some { enQ (x :: ks) with opn := false, parts := [] } := by rw [e1]; simp [CoS.decide, h.pr]
    have d1 : R1.2.2.decided = [⟨kindOf cm, 0, 0, 1⟩] := by
      rw [e1]
      simp only [CoS.decide, h.de]
      rfl
    have m1 : R1.2.2.marks.length = 2 := by rw [e1]; simp [CoS.decide, h.mk_]
    have n1 : NoAns R1.2.2 0 (s + 1) := h.na.snoc (l := []) (by rw [e1])
    have r1 : R1.1.err = 0 := by rw [e1]
    clear e1 hend
    generalize hQ : ({ enQ (x :: ks) with opn := false, parts := [] } : Prod) = Q at p1
    have q1 : Q.opn = false := by rw [← hQ]
    have q2 : Q.last = 1 := by rw [← hQ]; rfl
    have q3 : Q.epoch = 0 := by rw [← hQ]; rfl
    rw [apply_new_eq (okE (s + 1) cm (by omega)) (n1.look (Int.le_refl _)), does_end_eq (i := 0) (q := Q) rfl rfl p1 q3.symm] at e2
    have hend2 : R1.2.2.ends (eO (s + 1) cm) 0 Q = (0, [], R1.2.2) := by
      unfold CoS.ends
      rw [if_neg (by simp [q1]), d1, if_pos (by simp)]
    rw [hend2] at e2
    have p2 : R2.2.2.prods[0]? = some Q := by rw [e2]; exact p1
    have d2 : R2.2.2.decided = [⟨kindOf cm, 0, 0, 1⟩] := by rw [e2]; exact d1
    have m2 : R2.2.2.marks.length = 2 := by rw [e2]; exact m1
    have n2 : NoAns R2.2.2 0 (s + 1 + 1) := n1.snoc (l := []) (by rw [e2])
    have r2 : R2.1.err = 0 := by rw [e2]
    clear e2 hend2
    rw [show s + 2 = s + 1 + 1 by omega, apply_new_eq (okE (s + 1 + 1) (!cm) (by omega)) (n2.look (Int.le_refl _)), does_end_eq (i := 0) (q := Q) rfl rfl p2 q3.symm] at e3
    have hend3 : R2.2.2.ends (eO (s + 1 + 1) (!cm)) 0 Q = (6, [], R2.2.2) := by
      unfold CoS.ends
      rw [if_neg (by simp [q1]), d2, if_neg (by cases cm <;> simp [kindOf])]
    rw [hend3] at e3
    have p3 : R3.2.2.prods[0]? = some Q := by rw [e3]; exact p2
    have m3 : R3.2.2.marks.length = 2 := by rw [e3]; exact m2
    have n3 : NoAns R3.2.2 0 (s + 1 + 1 + 1) := n2.snoc (l := []) (by rw [e3])
    have r3 : R3.1.err = 6 := by rw [e3]
    clear e3 hend3
    have okA : okOp (aO (s + 1 + 1 + 1) 0) := ⟨by simp, by simp, by simp only; omega, by simp, by simp, by simp, by simp, by simp, by simp⟩
    rw [show s + 3 = s + 1 + 1 + 1 by omega, apply_new_eq okA (n3.look (Int.le_refl _)), does_add_eq (i := 0) (q := Q) rfl rfl p3 q3.symm] at e4
    have hadd4 : R3.2.2.adds (aO (s + 1 + 1 + 1) 0) 0 Q = (6, R3.2.2) := by
      unfold CoS.adds
      rw [if_neg (by simp [q1]), if_neg (by omega), if_neg (by rw [q2]; simp)]
    rw [hadd4] at e4
    have p4 : R4.2.2.prods[0]? = some Q := by rw [e4]; exact p3
    have m4 : R4.2.2.marks.length = 2 := by rw [e4]; exact m3
    have n4 : NoAns R4.2.2 0 (s + 1 + 1 + 1 + 1) := n3.snoc (l := []) (by rw [e4])
    have r4 : R4.1.err = 6 := by rw [e4]
    clear e4 hadd4
    have okB : okOp (aO2 (s + 1 + 1 + 1 + 1)) := ⟨by simp, by simp, by simp only; omega, by simp, by simp, by simp, by simp, by simp, by simp⟩
    rw [show s + 4 = s + 1 + 1 + 1 + 1 by omega, apply_new_eq okB (n4.look (Int.le_refl _)), does_add_eq (i := 0) (q := Q) rfl rfl p4 q3.symm] at e5
    have hadd5 : R4.2.2.adds (aO2 (s + 1 + 1 + 1 + 1)) 0 Q = (0, R4.2.2.put 0 { Q with opn := true, last := 2, began := R4.2.2.now, parts := [0] }) := by
      unfold CoS.adds
      rw [if_neg (by simp [q1]), if_neg (by omega), if_pos (by rw [q2]; simp)]
    rw [hadd5] at e5
    exact ⟨r1, r2, r3, r4, by rw [e5], by rw [e5]; exact m4⟩
end Go.Proofs.YtccgdnocldmjeaaDoor
