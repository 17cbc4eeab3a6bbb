/- The coordinator: a producer taken out of all; a name looked for. -/
import Derived.Test.YtccgdnocldmjeaaDoorCo5
namespace Go.Proofs.YtccgdnocldmjeaaDoor
open Go
set_option maxHeartbeats 4000000
set_option linter.unusedSimpArgs false
set_option linter.unusedVariables false
set_option maxRecDepth 20000
open Tabprod

def holeA (qs : List Nat) (ps : List Prod) (i : Nat) : HP := starH (((qs.zip ps).eraseIdx i).map fun x => prodA x.1 x.2)
theorem zip_split {α β : Type} {qs : List α} {ps : List β} {i : Nat} {q : α} {p : β} (h1 : qs[i]? = some q) (h2 : ps[i]? = some p) : qs.zip ps = (qs.zip ps).take i ++ (q, p) :: (qs.zip ps).drop (i + 1) := by
  have h := zip_at h1 h2
  obtain ⟨hi, he⟩ := List.getElem?_eq_some_iff.1 h
  rw [← he, ← List.drop_eq_getElem_cons hi, List.take_append_drop]
theorem hole_split {α β : Type} {qs : List α} {ps : List β} {i : Nat} : (qs.zip ps).eraseIdx i = (qs.zip ps).take i ++ (qs.zip ps).drop (i + 1) := List.eraseIdx_eq_take_drop_succ _ _
theorem Gh.star1 {l : List HP} {A B : List HP} {x : HP} : Gh (starH (A ++ x :: B) :: l) (x :: starH (A ++ B) :: l) := Gh.mk fun F w hl => by
  have h1 := hl.open_star
  have h2 : Holds (x :: ((A ++ B) ++ l)) F w := h1.perm (by simp)
  obtain ⟨G, h3, h4⟩ := Holds.frameR (l1 := [x]) (l2 := (A ++ B) ++ l) h2
  exact h4 _ _ (Holds.shut_star h3)
theorem Gh.star2 {l : List HP} {A B : List HP} {x : HP} : Gh (x :: starH (A ++ B) :: l) (starH (A ++ x :: B) :: l) := Gh.mk fun F w hl => by
  obtain ⟨G, h3, h4⟩ := Holds.frameR (l1 := [x]) (l2 := starH (A ++ B) :: l) hl
  have h2 : Holds ([x] ++ ((A ++ B) ++ l)) F w := h4 _ _ h3.open_star
  exact Holds.shut_star (h2.perm (by simp only [List.cons_append, List.nil_append, List.append_assoc]; exact List.perm_middle.symm))
/-- One is taken out. -/
theorem Gh.part1 {l : List HP} {qs : List Nat} {ps : List Prod} {i : Nat} {q : Nat} {p : Prod} (h1 : qs[i]? = some q) (h2 : ps[i]? = some p) : Gh (prodsA qs ps :: l) (prodA q p :: holeA qs ps i :: l) := by
  unfold prodsA holeA
  rw [hole_split]
  conv => lhs; rw [zip_split h1 h2]
  rw [List.map_append, List.map_append, List.map_cons]
  exact Gh.star1
/-- One is put back. -/
theorem Gh.part2 {l : List HP} {qs : List Nat} {ps : List Prod} {i : Nat} {q : Nat} {p : Prod} (h1 : qs[i]? = some q) (h2 : i < ps.length) : Gh (prodA q p :: holeA qs ps i :: l) (prodsA qs (ps.set i p) :: l) := by
  unfold prodsA holeA
  have h3 : (ps.set i p)[i]? = some p := by simp [h2]
  have e1 : (qs.zip (ps.set i p)).take i = (qs.zip ps).take i := by
    apply List.ext_getElem?
    intro j
    by_cases hj : j < i
    · simp only [List.getElem?_take, if_pos hj, List.zip, List.getElem?_zipWith, List.getElem?_set_ne (show i ≠ j by omega)]
    · simp only [List.getElem?_take, if_neg hj]
  have e2 : (qs.zip (ps.set i p)).drop (i + 1) = (qs.zip ps).drop (i + 1) := by
    apply List.ext_getElem?
    intro j
    simp only [List.getElem?_drop, List.zip, List.getElem?_zipWith, List.getElem?_set_ne (show i ≠ i + 1 + j by omega)]
  rw [hole_split, zip_split h1 h3, e1, e2, List.map_append, List.map_append, List.map_cons]
  exact Gh.star2
theorem set_same {α : Type} {ps : List α} {i : Nat} {p : α} (h : ps[i]? = some p) : ps.set i p = ps := List.ext_getElem? fun j => by
  by_cases hj : i = j
  · subst hj; rw [h, List.getElem?_set_self (List.getElem?_eq_some_iff.1 h).1]
  · rw [List.getElem?_set_ne hj]
theorem Gh.part0 {l : List HP} {qs : List Nat} {ps : List Prod} {i : Nat} {q : Nat} {p : Prod} (h1 : qs[i]? = some q) (h2 : ps[i]? = some p) : Gh (prodA q p :: holeA qs ps i :: l) (prodsA qs ps :: l) := by
  have h3 := Gh.part2 (l := l) (p := p) h1 (List.getElem?_eq_some_iff.1 h2).1
  rwa [set_same h2] at h3
theorem prodA_open {l : List HP} {q : Nat} {p : Prod} : GhE (prodA q p :: l) (fun _ : Value => True) (fun v => cel q 74 (prodC p v) :: pmA v p.opn p.parts :: l) := by
  unfold prodA
  exact GhE.open_ Pk.here
theorem prodA_shut {l : List HP} {q : Nat} {p : Prod} {v : Value} : Gh (cel q 74 (prodC p v) :: pmA v p.opn p.parts :: l) (prodA q p :: l) := by
  unfold prodA
  exact Gh.shut (f := fun v => [cel q 74 (prodC p v), pmA v p.opn p.parts]) v (Tk.cons Pk.here (Tk.cons Pk.here (Tk.mk fun F w h => h)))
/-- A new one behind all. -/
theorem Gh.partN {l : List HP} {qs : List Nat} {ps : List Prod} {q : Nat} {p : Prod} (h : qs.length = ps.length) : Gh (prodA q p :: prodsA qs ps :: l) (prodsA (qs ++ [q]) (ps ++ [p]) :: l) := by
  unfold prodsA
  rw [List.zip_append h, List.map_append]
  have h2 := Gh.star2 (l := l) (x := prodA q p) (A := (qs.zip ps).map fun x => prodA x.1 x.2) (B := [])
  rw [List.append_nil] at h2
  exact h2
theorem tabE_get (k : Nat) (qs : List Nat) (i : Nat) : (tabE k qs)[i]? = (qs[i]?).map fun q => (((k + i : Nat) : Int), vp q 0) := by
  induction qs generalizing k i with
  | nil => simp [tabE]
  | cons q qs ih =>
    cases i with
    | zero => simp [tabE]
    | succ i => simp [tabE, ih, Nat.add_assoc, Nat.add_comm 1]

theorem len_ok (b mb : Nat) (es : List (Int × Value)) (hl : es.length ≤ 1000) : Trip Tryd.prog 74 [vp b 0] (tabA b mb es) (fun r l => r = vi es.length ∧ l = tabA b mb es) := by
  refine Trip.of_body Tryd.func74 rfl Tryd.ntmps74 Tryd.results74 rfl ?_
  refine Wp.seq ?_
  refine Wp.region ?_
  refine WpL.step (Stp.rd (Rdo.assign rfl) rfl ?_)
  refine WpL.nil ?_
  refine Thn.n ?_
  refine Wp.seq ?_
  refine Wp.seq ?_
  refine Wp.region ?_
  refine WpL.step (Stp.rd (Rdo.move rfl) rfl ?_)
  refine WpL.step (Stp.rd (Rdo.eqnil rfl rfl) rfl ?_)
  refine WpL.nil ?_
  refine Thn.n ?_
  refine Wp.condF rfl ?_
  refine Wp.skip ?_
  refine Thn.n ?_
  refine Wp.seq ?_
  refine Wp.region ?_
  refine WpL.step (Stp.rd (Rdo.move rfl) rfl ?_)
  refine WpL.step (Stp.rd (Rdo.nilCheck rfl) rfl ?_)
  refine WpL.step (Stp.rd (Rdo.fieldAddr0 rfl) rfl ?_)
  refine WpL.step (Stp.rd (Rdo.load rfl (Lds.one rfl)) rfl ?_)
  refine WpL.step (Stp.rd (Rdo.lenMap rfl (Mps.next Mps.here)) rfl ?_)
  refine WpL.step (Stp.rd (Rdo.assign rfl) rfl ?_)
  refine WpL.nil ?_
  refine Thn.n ?_
  refine Wp.ret ?_
  refine Ret.now (ResV.tmp rfl ResV.nil) (Gh.tk (by repeat (first | exact Tk.nil | apply Tk.cons (by repeat (first | exact Pk.here | apply Pk.next))))) ⟨rfl, rfl⟩
end Go.Proofs.YtccgdnocldmjeaaDoor
