/- The coordinator: a transaction is ended. -/
import Derived.Test.YtccgdnocldmjeaaDoorCo8
namespace Go.Proofs.YtccgdnocldmjeaaDoor
open Go
set_option maxHeartbeats 4000000
set_option linter.unusedSimpArgs false
set_option linter.unusedVariables false
set_option maxRecDepth 20000

theorem ends_now (b q db : Nat) (v0 v1 v3 v4 pv : Value) (ms ds : List Mark) (o : Go.Proofs.YtccgdnocldmjeaaDoor.Op) (p : Prod) (hl : ms.length ≤ 1000000) (h1 : p.opn = true) (h2 : o.txn = p.last) :
    Trip Tryd.prog 40 [vp b 0, .agg (opC o).toArray, vp q 0] [cel b 64 [v0, v1, .map (some db), v3, v4], rowA 36 4 v1 ms.length (ms.map markC).flatten, mapA markV db (ds.map fun k => (k, vb true)), cel q 74 (prodC p pv)]
      (fun r l => ∃ v1' nb, r = .tuple #[vi 0, .slice (some ⟨nb, 0, none⟩) 1 1] ∧ l = [cel b 64 [v0, v1', .map (some db), v3, v4], rowA 36 4 v1' (ms ++ [(⟨kindOf o.commit, o.producer, p.epoch, p.last⟩ : Mark)]).length ((ms ++ [(⟨kindOf o.commit, o.producer, p.epoch, p.last⟩ : Mark)]).map markC).flatten, cel nb 36 (markC ⟨kindOf o.commit, o.producer, p.epoch, p.last⟩),
        mapA markV db (aset (ds.map fun k => (k, vb true)) ⟨kindOf o.commit, o.producer, p.epoch, p.last⟩ (vb true)), cel q 74 (prodC { p with opn := false } (.map none))]) := by
  have s1 := fun kind => decides_ok b q 64 v0 v1 v3 v4 pv db ms ds o.producer kind p hl
  cases hc : o.commit with
  | true =>
    have s2 := s1 2
    clear s1
    simp only [kindOf, if_true]
    refine Trip.of_body Tryd.func40 rfl Tryd.ntmps40 Tryd.results40 rfl ?_
    refine Wp.seq ?_
    refine Wp.region ?_
    (refine WpL.step (Stp.boxV rfl (VC.ag _) rfl ?_); intro nb2)
    refine WpL.step (Stp.rd (Rdo.assign rfl) rfl ?_)
    refine WpL.step (Stp.rd (Rdo.assign rfl) rfl ?_)
    refine WpL.nil ?_
    refine Thn.n ?_
    refine Wp.seq ?_
    refine Wp.region ?_
    refine WpL.step (Stp.rd (Rdo.assign rfl) rfl ?_)
    refine WpL.nil ?_
    refine Thn.n ?_
    refine Wp.seq ?_
    refine Wp.seq ?_
    refine Wp.region ?_
    refine WpL.step (Stp.rd (Rdo.fieldAddr0 rfl) rfl ?_)
    refine WpL.step (Stp.rd (Rdo.load rfl (Lds.one rfl)) rfl ?_)
    refine WpL.nil ?_
    refine Thn.n ?_
    refine Wp.condK rfl (by first | rfl | assumption | (simp only [decide_eq_true_eq, decide_eq_false_iff_not, Bool.not_eq_true', Bool.not_eq_false', List.length_cons, List.length_nil]; first | assumption | omega) | (simp <;> done) | (simp <;> omega)) ?_
    refine Wp.region ?_
    refine WpL.step (Stp.rd (Rdo.assign rfl) rfl ?_)
    refine WpL.nil ?_
    refine Thn.n ?_
    refine Wp.seq ?_
    refine Wp.block ?_
    refine Wp.seq ?_
    refine Wp.draw (by kernel_rfl) ?_
    refine WpR.take (i := 0) rfl (by kernel_rfl) (by kernel_rfl) (by kernel_rfl) (Rdo.move rfl) rfl ?_
    refine WpR.take (i := 1) rfl (by kernel_rfl) (by kernel_rfl) (by kernel_rfl) (Rdo.nilCheck rfl) rfl ?_
    refine WpR.take (i := 2) rfl (by kernel_rfl) (by kernel_rfl) (by kernel_rfl) (Rdo.fieldAddr0 rfl) rfl ?_
    refine WpR.one (i := 3) rfl (by kernel_rfl) (Stp.rd (Rdo.load rfl (Lds.next (Lds.next (Lds.next (Lds.next (Lds.one rfl)))))) rfl ?_)
    refine WpR.take (i := 4) rfl (by kernel_rfl) (by kernel_rfl) (by kernel_rfl) (Rdo.move rfl) rfl ?_
    refine WpR.tT 16 rfl (by first | rfl | assumption | (simp only [decide_eq_true_eq, decide_eq_false_iff_not, Bool.not_eq_true', Bool.not_eq_false', List.length_cons, List.length_nil]; first | assumption | omega) | (simp <;> done) | (simp <;> omega)) ?_
    refine WpR.want (i := 5) rfl rfl rfl rfl (by kernel_rfl) (by kernel_rfl) (by kernel_rfl) (Rdo.fieldAddr0 rfl) rfl ?_
    refine WpR.want (i := 7) rfl rfl rfl rfl (by kernel_rfl) (by kernel_rfl) (by kernel_rfl) (Rdo.move rfl) rfl ?_
    refine WpR.want (i := 8) rfl rfl rfl rfl (by kernel_rfl) (by kernel_rfl) (by kernel_rfl) (Rdo.nilCheck rfl) rfl ?_
    refine WpR.want (i := 9) rfl rfl rfl rfl (by kernel_rfl) (by kernel_rfl) (by kernel_rfl) (Rdo.fieldAddr0 rfl) rfl ?_
    refine WpR.phaseL (m := 0) #[true, true, true, true, true, true, true, true, true, true, true, true, true, true] 5 _ rfl (by kernel_rfl) (Tk.cons Pk.here (Tk.cons (Pk.next (Pk.next (Pk.next Pk.here))) Tk.nil)) ?_
    refine WpA.want (i := 6) rfl rfl rfl rfl rfl (by kernel_rfl) (by kernel_rfl) (by kernel_rfl) (Rdo.load rfl (Lds.one rfl)) rfl ?_
    refine WpA.want (i := 10) rfl rfl rfl rfl rfl (by kernel_rfl) (by kernel_rfl) (by kernel_rfl) (Rdo.load rfl (Lds.next (Lds.one rfl))) rfl ?_
    refine WpA.want (i := 11) rfl rfl rfl rfl rfl (by kernel_rfl) (by kernel_rfl) (by kernel_rfl) (Rdo.eqi rfl rfl) rfl ?_
    refine WpA.take (i := 12) rfl rfl (by kernel_rfl) (by kernel_rfl) (by kernel_rfl) (Rdo.pick_t rfl rfl) rfl ?_
    refine WpA.take (i := 13) rfl rfl (by kernel_rfl) (by kernel_rfl) (by kernel_rfl) (Rdo.assign rfl) rfl ?_
    refine WpA.stop (by kernel_rfl) ?_
    refine WpR.lst (by simp only [List.cons_append, List.nil_append]; exact rfl) ?_
    refine WpR.done (by kernel_rfl) ?_
    refine Thn.n ?_
    refine Wp.condK rfl (by first | rfl | assumption | (simp only [decide_eq_true_eq, decide_eq_false_iff_not, Bool.not_eq_true', Bool.not_eq_false', List.length_cons, List.length_nil]; first | assumption | omega) | (simp <;> done) | (simp <;> omega)) ?_
    refine Wp.seq ?_
    refine Wp.region ?_
    refine WpL.step (Stp.rd (Rdo.move rfl) rfl ?_)
    refine WpL.step (Stp.rd (Rdo.fieldAddr0 rfl) rfl ?_)
    refine WpL.step (Stp.rd (Rdo.load rfl (Lds.one rfl)) rfl ?_)
    refine WpL.step (Stp.rd (Rdo.move rfl) rfl ?_)
    refine WpL.step (Stp.rd (Rdo.move rfl) rfl ?_)
    refine WpL.step (Stp.call (s2) (by kernel_rfl) rfl (by repeat (first | exact Tk.nil | apply Tk.cons (by repeat (first | exact Pk.here | apply Pk.next)))) rfl ?_)
    rintro _ _ ⟨v57_0, ⟨v57_1, ⟨rfl, rfl⟩⟩⟩
    refine WpL.lst (by simp only [List.cons_append, List.nil_append]; exact rfl) ?_
    refine WpL.step (Stp.rd (Rdo.assign rfl) rfl ?_)
    refine WpL.step (Stp.rd (Rdo.assign rfl) rfl ?_)
    refine WpL.nil ?_
    refine Thn.n ?_
    refine Wp.ret ?_
    refine Blk.r ?_
    refine Thn.r ?_
    refine Ret.now (ResV.tmp rfl (ResV.tmp rfl ResV.nil)) (Gh.tk (by repeat (first | exact Tk.nil | apply Tk.cons (by repeat (first | exact Pk.here | apply Pk.next))))) ⟨_, ⟨_, ⟨rfl, rfl⟩⟩⟩
  | false =>
    have s2 := s1 3
    clear s1
    simp only [kindOf, Bool.false_eq_true, if_false]
    refine Trip.of_body Tryd.func40 rfl Tryd.ntmps40 Tryd.results40 rfl ?_
    refine Wp.seq ?_
    refine Wp.region ?_
    (refine WpL.step (Stp.boxV rfl (VC.ag _) rfl ?_); intro nb2)
    refine WpL.step (Stp.rd (Rdo.assign rfl) rfl ?_)
    refine WpL.step (Stp.rd (Rdo.assign rfl) rfl ?_)
    refine WpL.nil ?_
    refine Thn.n ?_
    refine Wp.seq ?_
    refine Wp.region ?_
    refine WpL.step (Stp.rd (Rdo.assign rfl) rfl ?_)
    refine WpL.nil ?_
    refine Thn.n ?_
    refine Wp.seq ?_
    refine Wp.seq ?_
    refine Wp.region ?_
    refine WpL.step (Stp.rd (Rdo.fieldAddr0 rfl) rfl ?_)
    refine WpL.step (Stp.rd (Rdo.load rfl (Lds.one rfl)) rfl ?_)
    refine WpL.nil ?_
    refine Thn.n ?_
    refine Wp.condL rfl (by first | rfl | assumption | (simp only [decide_eq_true_eq, decide_eq_false_iff_not, Bool.not_eq_true', Bool.not_eq_false', List.length_cons, List.length_nil]; first | assumption | omega) | (simp <;> done) | (simp <;> omega)) ?_
    refine Wp.skip ?_
    refine Thn.n ?_
    refine Wp.seq ?_
    refine Wp.block ?_
    refine Wp.seq ?_
    refine Wp.draw (by kernel_rfl) ?_
    refine WpR.take (i := 0) rfl (by kernel_rfl) (by kernel_rfl) (by kernel_rfl) (Rdo.move rfl) rfl ?_
    refine WpR.take (i := 1) rfl (by kernel_rfl) (by kernel_rfl) (by kernel_rfl) (Rdo.nilCheck rfl) rfl ?_
    refine WpR.take (i := 2) rfl (by kernel_rfl) (by kernel_rfl) (by kernel_rfl) (Rdo.fieldAddr0 rfl) rfl ?_
    refine WpR.one (i := 3) rfl (by kernel_rfl) (Stp.rd (Rdo.load rfl (Lds.next (Lds.next (Lds.next (Lds.next (Lds.one rfl)))))) rfl ?_)
    refine WpR.take (i := 4) rfl (by kernel_rfl) (by kernel_rfl) (by kernel_rfl) (Rdo.move rfl) rfl ?_
    refine WpR.tT 16 rfl (by first | rfl | assumption | (simp only [decide_eq_true_eq, decide_eq_false_iff_not, Bool.not_eq_true', Bool.not_eq_false', List.length_cons, List.length_nil]; first | assumption | omega) | (simp <;> done) | (simp <;> omega)) ?_
    refine WpR.want (i := 5) rfl rfl rfl rfl (by kernel_rfl) (by kernel_rfl) (by kernel_rfl) (Rdo.fieldAddr0 rfl) rfl ?_
    refine WpR.want (i := 7) rfl rfl rfl rfl (by kernel_rfl) (by kernel_rfl) (by kernel_rfl) (Rdo.move rfl) rfl ?_
    refine WpR.want (i := 8) rfl rfl rfl rfl (by kernel_rfl) (by kernel_rfl) (by kernel_rfl) (Rdo.nilCheck rfl) rfl ?_
    refine WpR.want (i := 9) rfl rfl rfl rfl (by kernel_rfl) (by kernel_rfl) (by kernel_rfl) (Rdo.fieldAddr0 rfl) rfl ?_
    refine WpR.phaseL (m := 0) #[true, true, true, true, true, true, true, true, true, true, true, true, true, true] 5 _ rfl (by kernel_rfl) (Tk.cons Pk.here (Tk.cons (Pk.next (Pk.next (Pk.next Pk.here))) Tk.nil)) ?_
    refine WpA.want (i := 6) rfl rfl rfl rfl rfl (by kernel_rfl) (by kernel_rfl) (by kernel_rfl) (Rdo.load rfl (Lds.one rfl)) rfl ?_
    refine WpA.want (i := 10) rfl rfl rfl rfl rfl (by kernel_rfl) (by kernel_rfl) (by kernel_rfl) (Rdo.load rfl (Lds.next (Lds.one rfl))) rfl ?_
    refine WpA.want (i := 11) rfl rfl rfl rfl rfl (by kernel_rfl) (by kernel_rfl) (by kernel_rfl) (Rdo.eqi rfl rfl) rfl ?_
    refine WpA.take (i := 12) rfl rfl (by kernel_rfl) (by kernel_rfl) (by kernel_rfl) (Rdo.pick_t rfl rfl) rfl ?_
    refine WpA.take (i := 13) rfl rfl (by kernel_rfl) (by kernel_rfl) (by kernel_rfl) (Rdo.assign rfl) rfl ?_
    refine WpA.stop (by kernel_rfl) ?_
    refine WpR.lst (by simp only [List.cons_append, List.nil_append]; exact rfl) ?_
    refine WpR.done (by kernel_rfl) ?_
    refine Thn.n ?_
    refine Wp.condK rfl (by first | rfl | assumption | (simp only [decide_eq_true_eq, decide_eq_false_iff_not, Bool.not_eq_true', Bool.not_eq_false', List.length_cons, List.length_nil]; first | assumption | omega) | (simp <;> done) | (simp <;> omega)) ?_
    refine Wp.seq ?_
    refine Wp.region ?_
    refine WpL.step (Stp.rd (Rdo.move rfl) rfl ?_)
    refine WpL.step (Stp.rd (Rdo.fieldAddr0 rfl) rfl ?_)
    refine WpL.step (Stp.rd (Rdo.load rfl (Lds.one rfl)) rfl ?_)
    refine WpL.step (Stp.rd (Rdo.move rfl) rfl ?_)
    refine WpL.step (Stp.rd (Rdo.move rfl) rfl ?_)
    refine WpL.step (Stp.call (s2) (by kernel_rfl) rfl (by repeat (first | exact Tk.nil | apply Tk.cons (by repeat (first | exact Pk.here | apply Pk.next)))) rfl ?_)
    rintro _ _ ⟨v55_0, ⟨v55_1, ⟨rfl, rfl⟩⟩⟩
    refine WpL.lst (by simp only [List.cons_append, List.nil_append]; exact rfl) ?_
    refine WpL.step (Stp.rd (Rdo.assign rfl) rfl ?_)
    refine WpL.step (Stp.rd (Rdo.assign rfl) rfl ?_)
    refine WpL.nil ?_
    refine Thn.n ?_
    refine Wp.ret ?_
    refine Blk.r ?_
    refine Thn.r ?_
    refine Ret.now (ResV.tmp rfl (ResV.tmp rfl ResV.nil)) (Gh.tk (by repeat (first | exact Tk.nil | apply Tk.cons (by repeat (first | exact Pk.here | apply Pk.next))))) ⟨_, ⟨_, ⟨rfl, rfl⟩⟩⟩
theorem mapVal_keys (ds : List Mark) (m : Mark) : mapVal (ds.map fun k => (k, vb true)) m (vb false) = vb (Decidable.decide (m ∈ ds)) := by
  unfold mapVal
  rw [alook_keys]
  by_cases h : m ∈ ds
  · rw [if_pos h]; simp [h]
  · rw [if_neg h]; simp [h]
theorem ends_else (b q db : Nat) (v0 v1 v3 v4 pv : Value) (ds : List Mark) (o : Go.Proofs.YtccgdnocldmjeaaDoor.Op) (p : Prod) (h : ¬ (p.opn = true ∧ o.txn = p.last)) :
    Trip Tryd.prog 40 [vp b 0, .agg (opC o).toArray, vp q 0] [cel b 64 [v0, v1, .map (some db), v3, v4], mapA markV db (ds.map fun k => (k, vb true)), cel q 74 (prodC p pv)]
      (fun r l => r = .tuple #[vi (if (⟨kindOf o.commit, o.producer, o.epoch, o.txn⟩ : Mark) ∈ ds then 0 else 6), vnil] ∧ l = [cel b 64 [v0, v1, .map (some db), v3, v4], mapA markV db (ds.map fun k => (k, vb true)), cel q 74 (prodC p pv)]) := by
  by_cases hd : (⟨kindOf o.commit, o.producer, o.epoch, o.txn⟩ : Mark) ∈ ds
  · rw [if_pos hd]
    have hv := mapVal_keys ds ⟨kindOf o.commit, o.producer, o.epoch, o.txn⟩
    rw [decide_eq_true hd] at hv
    cases ho : p.opn with
    | true =>
      have h2 : ¬ o.txn = p.last := fun h3 => h ⟨ho, h3⟩
      cases hc : o.commit with
      | true =>
        rw [hc] at hv
        simp only [kindOf, if_true, Bool.false_eq_true, if_false] at hv
        refine Trip.of_body Tryd.func40 rfl Tryd.ntmps40 Tryd.results40 rfl ?_
        refine Wp.seq ?_
        refine Wp.region ?_
        (refine WpL.step (Stp.boxV rfl (VC.ag _) rfl ?_); intro nb2)
        refine WpL.step (Stp.rd (Rdo.assign rfl) rfl ?_)
        refine WpL.step (Stp.rd (Rdo.assign rfl) rfl ?_)
        refine WpL.nil ?_
        refine Thn.n ?_
        refine Wp.seq ?_
        refine Wp.region ?_
        refine WpL.step (Stp.rd (Rdo.assign rfl) rfl ?_)
        refine WpL.nil ?_
        refine Thn.n ?_
        refine Wp.seq ?_
        refine Wp.seq ?_
        refine Wp.region ?_
        refine WpL.step (Stp.rd (Rdo.fieldAddr0 rfl) rfl ?_)
        refine WpL.step (Stp.rd (Rdo.load rfl (Lds.one rfl)) rfl ?_)
        refine WpL.nil ?_
        refine Thn.n ?_
        refine Wp.condK rfl (by first | rfl | assumption | (simp only [decide_eq_true_eq, decide_eq_false_iff_not, Bool.not_eq_true', Bool.not_eq_false', List.length_cons, List.length_nil]; first | assumption | omega) | (simp <;> done) | (simp <;> omega)) ?_
        refine Wp.region ?_
        refine WpL.step (Stp.rd (Rdo.assign rfl) rfl ?_)
        refine WpL.nil ?_
        refine Thn.n ?_
        refine Wp.seq ?_
        refine Wp.block ?_
        refine Wp.seq ?_
        refine Wp.draw (by kernel_rfl) ?_
        refine WpR.take (i := 0) rfl (by kernel_rfl) (by kernel_rfl) (by kernel_rfl) (Rdo.move rfl) rfl ?_
        refine WpR.take (i := 1) rfl (by kernel_rfl) (by kernel_rfl) (by kernel_rfl) (Rdo.nilCheck rfl) rfl ?_
        refine WpR.take (i := 2) rfl (by kernel_rfl) (by kernel_rfl) (by kernel_rfl) (Rdo.fieldAddr0 rfl) rfl ?_
        refine WpR.one (i := 3) rfl (by kernel_rfl) (Stp.rd (Rdo.load rfl (Lds.next (Lds.next (Lds.next (Lds.one rfl))))) rfl ?_)
        refine WpR.take (i := 4) rfl (by kernel_rfl) (by kernel_rfl) (by kernel_rfl) (Rdo.move rfl) rfl ?_
        refine WpR.tT 16 rfl (by first | rfl | assumption | (simp only [decide_eq_true_eq, decide_eq_false_iff_not, Bool.not_eq_true', Bool.not_eq_false', List.length_cons, List.length_nil]; first | assumption | omega) | (simp <;> done) | (simp <;> omega)) ?_
        refine WpR.want (i := 5) rfl rfl rfl rfl (by kernel_rfl) (by kernel_rfl) (by kernel_rfl) (Rdo.fieldAddr0 rfl) rfl ?_
        refine WpR.want (i := 7) rfl rfl rfl rfl (by kernel_rfl) (by kernel_rfl) (by kernel_rfl) (Rdo.move rfl) rfl ?_
        refine WpR.want (i := 8) rfl rfl rfl rfl (by kernel_rfl) (by kernel_rfl) (by kernel_rfl) (Rdo.nilCheck rfl) rfl ?_
        refine WpR.want (i := 9) rfl rfl rfl rfl (by kernel_rfl) (by kernel_rfl) (by kernel_rfl) (Rdo.fieldAddr0 rfl) rfl ?_
        refine WpR.phaseL (m := 0) #[true, true, true, true, true, true, true, true, true, true, true, true, true, true] 5 _ rfl (by kernel_rfl) (Tk.cons Pk.here (Tk.cons (Pk.next (Pk.next Pk.here)) Tk.nil)) ?_
        refine WpA.want (i := 6) rfl rfl rfl rfl rfl (by kernel_rfl) (by kernel_rfl) (by kernel_rfl) (Rdo.load rfl (Lds.one rfl)) rfl ?_
        refine WpA.want (i := 10) rfl rfl rfl rfl rfl (by kernel_rfl) (by kernel_rfl) (by kernel_rfl) (Rdo.load rfl (Lds.next (Lds.one rfl))) rfl ?_
        refine WpA.want (i := 11) rfl rfl rfl rfl rfl (by kernel_rfl) (by kernel_rfl) (by kernel_rfl) (Rdo.eqi rfl rfl) rfl ?_
        refine WpA.take (i := 12) rfl rfl (by kernel_rfl) (by kernel_rfl) (by kernel_rfl) (Rdo.pick_t rfl rfl) rfl ?_
        refine WpA.take (i := 13) rfl rfl (by kernel_rfl) (by kernel_rfl) (by kernel_rfl) (Rdo.assign rfl) rfl ?_
        refine WpA.stop (by kernel_rfl) ?_
        refine WpR.lst (by simp only [List.cons_append, List.nil_append]; exact rfl) ?_
        refine WpR.done (by kernel_rfl) ?_
        refine Thn.n ?_
        refine Wp.condL rfl (by first | rfl | assumption | (simp only [decide_eq_true_eq, decide_eq_false_iff_not, Bool.not_eq_true', Bool.not_eq_false', List.length_cons, List.length_nil]; first | assumption | omega) | (simp <;> done) | (simp <;> omega)) ?_
        refine Wp.seq ?_
        refine Wp.draw (by kernel_rfl) ?_
        refine WpR.take (i := 0) rfl (by kernel_rfl) (by kernel_rfl) (by kernel_rfl) (Rdo.move rfl) rfl ?_
        refine WpR.take (i := 1) rfl (by kernel_rfl) (by kernel_rfl) (by kernel_rfl) (Rdo.nilCheck rfl) rfl ?_
        refine WpR.take (i := 2) rfl (by kernel_rfl) (by kernel_rfl) (by kernel_rfl) (Rdo.fieldAddr0 rfl) rfl ?_
        refine WpR.take (i := 4) rfl (by kernel_rfl) (by kernel_rfl) (by kernel_rfl) (Rdo.move rfl) rfl ?_
        refine WpR.take (i := 5) rfl (by kernel_rfl) (by kernel_rfl) (by kernel_rfl) (Rdo.fieldAddr0 rfl) rfl ?_
        refine WpR.take (i := 7) rfl (by kernel_rfl) (by kernel_rfl) (by kernel_rfl) (Rdo.fieldAddr0 rfl) rfl ?_
        refine WpR.take (i := 9) rfl (by kernel_rfl) (by kernel_rfl) (by kernel_rfl) (Rdo.fieldAddr0 rfl) rfl ?_
        refine WpR.load (i := 6) [3, 8, 10] rfl (by kernel_rfl) (by kernel_rfl) (by kernel_rfl) (by kernel_rfl) (by kernel_rfl) rfl Tk.rfl_ (Harm.rd rfl (Rdo.load rfl (Lds.next (Lds.next (Lds.one rfl)))) (Harm.rd rfl (Rdo.load rfl (Lds.one rfl)) (Harm.rd rfl (Rdo.load rfl (Lds.one rfl)) Harm.nil))) (Rdo.load rfl (Lds.one rfl)) rfl ?_
        refine WpR.load (i := 8) [3, 10] rfl (by kernel_rfl) (by kernel_rfl) (by kernel_rfl) (by kernel_rfl) (by kernel_rfl) rfl Tk.rfl_ (Harm.rd rfl (Rdo.load rfl (Lds.next (Lds.next (Lds.one rfl)))) (Harm.rd rfl (Rdo.load rfl (Lds.one rfl)) Harm.nil)) (Rdo.load rfl (Lds.one rfl)) rfl ?_
        refine WpR.load (i := 10) [3] rfl (by kernel_rfl) (by kernel_rfl) (by kernel_rfl) (by kernel_rfl) (by kernel_rfl) rfl Tk.rfl_ (Harm.rd rfl (Rdo.load rfl (Lds.next (Lds.next (Lds.one rfl)))) Harm.nil) (Rdo.load rfl (Lds.one rfl)) rfl ?_
        refine WpR.take (i := 11) rfl (by kernel_rfl) (by kernel_rfl) (by kernel_rfl) (Rdo.bld rfl (BldL.cons rfl (VC.i _ _) (by first | rfl | assumption | (simp <;> done)) (by repeat (first | exact LPut.nil _ | apply LPut.here | apply LPut.next)) (BldL.cons rfl (VC.i _ _) (by first | rfl | assumption | (simp <;> done)) (by repeat (first | exact LPut.nil _ | apply LPut.here | apply LPut.next)) (BldL.cons rfl (VC.i _ _) (by first | rfl | assumption | (simp <;> done)) (by repeat (first | exact LPut.nil _ | apply LPut.here | apply LPut.next)) (BldL.cons rfl (VC.i _ _) (by first | rfl | assumption | (simp <;> done)) (by repeat (first | exact LPut.nil _ | apply LPut.here | apply LPut.next)) (BldL.nil _)))))) rfl ?_
        refine WpR.one (i := 3) rfl (by kernel_rfl) (Stp.rd (Rdo.load rfl (Lds.next (Lds.next (Lds.one rfl)))) rfl ?_)
        refine WpR.one (i := 12) rfl (by kernel_rfl) (Stp.rd (Rdo.lookup1 (enc := markV) (k := (⟨2, o.producer, o.epoch, o.txn⟩ : Mark)) rfl rfl (Mps.next (Mps.next (Mps.next Mps.here)))) rfl ?_)
        rw [hv]
        refine WpR.take (i := 13) rfl (by kernel_rfl) (by kernel_rfl) (by kernel_rfl) (Rdo.assign rfl) rfl ?_
        refine WpR.done (by kernel_rfl) ?_
        refine Thn.n ?_
        refine Wp.condT rfl ?_
        refine Wp.seq ?_
        refine Wp.region ?_
        refine WpL.step (Stp.rd (Rdo.assign rfl) rfl ?_)
        refine WpL.step (Stp.rd (Rdo.assign rfl) rfl ?_)
        refine WpL.nil ?_
        refine Thn.n ?_
        refine Wp.ret ?_
        refine Blk.r ?_
        refine Thn.r ?_
        refine Ret.now (ResV.tmp rfl (ResV.tmp rfl ResV.nil)) (Gh.tk (by repeat (first | exact Tk.nil | apply Tk.cons (by repeat (first | exact Pk.here | apply Pk.next))))) ⟨rfl, rfl⟩
      | false =>
        rw [hc] at hv
        simp only [kindOf, if_true, Bool.false_eq_true, if_false] at hv
        refine Trip.of_body Tryd.func40 rfl Tryd.ntmps40 Tryd.results40 rfl ?_
        refine Wp.seq ?_
        refine Wp.region ?_
        (refine WpL.step (Stp.boxV rfl (VC.ag _) rfl ?_); intro nb2)
        refine WpL.step (Stp.rd (Rdo.assign rfl) rfl ?_)
        refine WpL.step (Stp.rd (Rdo.assign rfl) rfl ?_)
        refine WpL.nil ?_
        refine Thn.n ?_
        refine Wp.seq ?_
        refine Wp.region ?_
        refine WpL.step (Stp.rd (Rdo.assign rfl) rfl ?_)
        refine WpL.nil ?_
        refine Thn.n ?_
        refine Wp.seq ?_
        refine Wp.seq ?_
        refine Wp.region ?_
        refine WpL.step (Stp.rd (Rdo.fieldAddr0 rfl) rfl ?_)
        refine WpL.step (Stp.rd (Rdo.load rfl (Lds.one rfl)) rfl ?_)
        refine WpL.nil ?_
        refine Thn.n ?_
        refine Wp.condL rfl (by first | rfl | assumption | (simp only [decide_eq_true_eq, decide_eq_false_iff_not, Bool.not_eq_true', Bool.not_eq_false', List.length_cons, List.length_nil]; first | assumption | omega) | (simp <;> done) | (simp <;> omega)) ?_
        refine Wp.skip ?_
        refine Thn.n ?_
        refine Wp.seq ?_
        refine Wp.block ?_
        refine Wp.seq ?_
        refine Wp.draw (by kernel_rfl) ?_
        refine WpR.take (i := 0) rfl (by kernel_rfl) (by kernel_rfl) (by kernel_rfl) (Rdo.move rfl) rfl ?_
        refine WpR.take (i := 1) rfl (by kernel_rfl) (by kernel_rfl) (by kernel_rfl) (Rdo.nilCheck rfl) rfl ?_
        refine WpR.take (i := 2) rfl (by kernel_rfl) (by kernel_rfl) (by kernel_rfl) (Rdo.fieldAddr0 rfl) rfl ?_
        refine WpR.one (i := 3) rfl (by kernel_rfl) (Stp.rd (Rdo.load rfl (Lds.next (Lds.next (Lds.next (Lds.one rfl))))) rfl ?_)
        refine WpR.take (i := 4) rfl (by kernel_rfl) (by kernel_rfl) (by kernel_rfl) (Rdo.move rfl) rfl ?_
        refine WpR.tT 16 rfl (by first | rfl | assumption | (simp only [decide_eq_true_eq, decide_eq_false_iff_not, Bool.not_eq_true', Bool.not_eq_false', List.length_cons, List.length_nil]; first | assumption | omega) | (simp <;> done) | (simp <;> omega)) ?_
        refine WpR.want (i := 5) rfl rfl rfl rfl (by kernel_rfl) (by kernel_rfl) (by kernel_rfl) (Rdo.fieldAddr0 rfl) rfl ?_
        refine WpR.want (i := 7) rfl rfl rfl rfl (by kernel_rfl) (by kernel_rfl) (by kernel_rfl) (Rdo.move rfl) rfl ?_
        refine WpR.want (i := 8) rfl rfl rfl rfl (by kernel_rfl) (by kernel_rfl) (by kernel_rfl) (Rdo.nilCheck rfl) rfl ?_
        refine WpR.want (i := 9) rfl rfl rfl rfl (by kernel_rfl) (by kernel_rfl) (by kernel_rfl) (Rdo.fieldAddr0 rfl) rfl ?_
        refine WpR.phaseL (m := 0) #[true, true, true, true, true, true, true, true, true, true, true, true, true, true] 5 _ rfl (by kernel_rfl) (Tk.cons Pk.here (Tk.cons (Pk.next (Pk.next Pk.here)) Tk.nil)) ?_
        refine WpA.want (i := 6) rfl rfl rfl rfl rfl (by kernel_rfl) (by kernel_rfl) (by kernel_rfl) (Rdo.load rfl (Lds.one rfl)) rfl ?_
        refine WpA.want (i := 10) rfl rfl rfl rfl rfl (by kernel_rfl) (by kernel_rfl) (by kernel_rfl) (Rdo.load rfl (Lds.next (Lds.one rfl))) rfl ?_
        refine WpA.want (i := 11) rfl rfl rfl rfl rfl (by kernel_rfl) (by kernel_rfl) (by kernel_rfl) (Rdo.eqi rfl rfl) rfl ?_
        refine WpA.take (i := 12) rfl rfl (by kernel_rfl) (by kernel_rfl) (by kernel_rfl) (Rdo.pick_t rfl rfl) rfl ?_
        refine WpA.take (i := 13) rfl rfl (by kernel_rfl) (by kernel_rfl) (by kernel_rfl) (Rdo.assign rfl) rfl ?_
        refine WpA.stop (by kernel_rfl) ?_
        refine WpR.lst (by simp only [List.cons_append, List.nil_append]; exact rfl) ?_
        refine WpR.done (by kernel_rfl) ?_
        refine Thn.n ?_
        refine Wp.condL rfl (by first | rfl | assumption | (simp only [decide_eq_true_eq, decide_eq_false_iff_not, Bool.not_eq_true', Bool.not_eq_false', List.length_cons, List.length_nil]; first | assumption | omega) | (simp <;> done) | (simp <;> omega)) ?_
        refine Wp.seq ?_
        refine Wp.draw (by kernel_rfl) ?_
        refine WpR.take (i := 0) rfl (by kernel_rfl) (by kernel_rfl) (by kernel_rfl) (Rdo.move rfl) rfl ?_
        refine WpR.take (i := 1) rfl (by kernel_rfl) (by kernel_rfl) (by kernel_rfl) (Rdo.nilCheck rfl) rfl ?_
        refine WpR.take (i := 2) rfl (by kernel_rfl) (by kernel_rfl) (by kernel_rfl) (Rdo.fieldAddr0 rfl) rfl ?_
        refine WpR.take (i := 4) rfl (by kernel_rfl) (by kernel_rfl) (by kernel_rfl) (Rdo.move rfl) rfl ?_
        refine WpR.take (i := 5) rfl (by kernel_rfl) (by kernel_rfl) (by kernel_rfl) (Rdo.fieldAddr0 rfl) rfl ?_
        refine WpR.take (i := 7) rfl (by kernel_rfl) (by kernel_rfl) (by kernel_rfl) (Rdo.fieldAddr0 rfl) rfl ?_
        refine WpR.take (i := 9) rfl (by kernel_rfl) (by kernel_rfl) (by kernel_rfl) (Rdo.fieldAddr0 rfl) rfl ?_
        refine WpR.load (i := 6) [3, 8, 10] rfl (by kernel_rfl) (by kernel_rfl) (by kernel_rfl) (by kernel_rfl) (by kernel_rfl) rfl Tk.rfl_ (Harm.rd rfl (Rdo.load rfl (Lds.next (Lds.next (Lds.one rfl)))) (Harm.rd rfl (Rdo.load rfl (Lds.one rfl)) (Harm.rd rfl (Rdo.load rfl (Lds.one rfl)) Harm.nil))) (Rdo.load rfl (Lds.one rfl)) rfl ?_
        refine WpR.load (i := 8) [3, 10] rfl (by kernel_rfl) (by kernel_rfl) (by kernel_rfl) (by kernel_rfl) (by kernel_rfl) rfl Tk.rfl_ (Harm.rd rfl (Rdo.load rfl (Lds.next (Lds.next (Lds.one rfl)))) (Harm.rd rfl (Rdo.load rfl (Lds.one rfl)) Harm.nil)) (Rdo.load rfl (Lds.one rfl)) rfl ?_
        refine WpR.load (i := 10) [3] rfl (by kernel_rfl) (by kernel_rfl) (by kernel_rfl) (by kernel_rfl) (by kernel_rfl) rfl Tk.rfl_ (Harm.rd rfl (Rdo.load rfl (Lds.next (Lds.next (Lds.one rfl)))) Harm.nil) (Rdo.load rfl (Lds.one rfl)) rfl ?_
        refine WpR.take (i := 11) rfl (by kernel_rfl) (by kernel_rfl) (by kernel_rfl) (Rdo.bld rfl (BldL.cons rfl (VC.i _ _) (by first | rfl | assumption | (simp <;> done)) (by repeat (first | exact LPut.nil _ | apply LPut.here | apply LPut.next)) (BldL.cons rfl (VC.i _ _) (by first | rfl | assumption | (simp <;> done)) (by repeat (first | exact LPut.nil _ | apply LPut.here | apply LPut.next)) (BldL.cons rfl (VC.i _ _) (by first | rfl | assumption | (simp <;> done)) (by repeat (first | exact LPut.nil _ | apply LPut.here | apply LPut.next)) (BldL.cons rfl (VC.i _ _) (by first | rfl | assumption | (simp <;> done)) (by repeat (first | exact LPut.nil _ | apply LPut.here | apply LPut.next)) (BldL.nil _)))))) rfl ?_
        refine WpR.one (i := 3) rfl (by kernel_rfl) (Stp.rd (Rdo.load rfl (Lds.next (Lds.next (Lds.one rfl)))) rfl ?_)
        refine WpR.one (i := 12) rfl (by kernel_rfl) (Stp.rd (Rdo.lookup1 (enc := markV) (k := (⟨3, o.producer, o.epoch, o.txn⟩ : Mark)) rfl rfl (Mps.next (Mps.next (Mps.next Mps.here)))) rfl ?_)
        rw [hv]
        refine WpR.take (i := 13) rfl (by kernel_rfl) (by kernel_rfl) (by kernel_rfl) (Rdo.assign rfl) rfl ?_
        refine WpR.done (by kernel_rfl) ?_
        refine Thn.n ?_
        refine Wp.condT rfl ?_
        refine Wp.seq ?_
        refine Wp.region ?_
        refine WpL.step (Stp.rd (Rdo.assign rfl) rfl ?_)
        refine WpL.step (Stp.rd (Rdo.assign rfl) rfl ?_)
        refine WpL.nil ?_
        refine Thn.n ?_
        refine Wp.ret ?_
        refine Blk.r ?_
        refine Thn.r ?_
        refine Ret.now (ResV.tmp rfl (ResV.tmp rfl ResV.nil)) (Gh.tk (by repeat (first | exact Tk.nil | apply Tk.cons (by repeat (first | exact Pk.here | apply Pk.next))))) ⟨rfl, rfl⟩
    | false =>
      cases hc : o.commit with
      | true =>
        rw [hc] at hv
        simp only [kindOf, if_true, Bool.false_eq_true, if_false] at hv
        refine Trip.of_body Tryd.func40 rfl Tryd.ntmps40 Tryd.results40 rfl ?_
        refine Wp.seq ?_
        refine Wp.region ?_
        (refine WpL.step (Stp.boxV rfl (VC.ag _) rfl ?_); intro nb2)
        refine WpL.step (Stp.rd (Rdo.assign rfl) rfl ?_)
        refine WpL.step (Stp.rd (Rdo.assign rfl) rfl ?_)
        refine WpL.nil ?_
        refine Thn.n ?_
        refine Wp.seq ?_
        refine Wp.region ?_
        refine WpL.step (Stp.rd (Rdo.assign rfl) rfl ?_)
        refine WpL.nil ?_
        refine Thn.n ?_
        refine Wp.seq ?_
        refine Wp.seq ?_
        refine Wp.region ?_
        refine WpL.step (Stp.rd (Rdo.fieldAddr0 rfl) rfl ?_)
        refine WpL.step (Stp.rd (Rdo.load rfl (Lds.one rfl)) rfl ?_)
        refine WpL.nil ?_
        refine Thn.n ?_
        refine Wp.condK rfl (by first | rfl | assumption | (simp only [decide_eq_true_eq, decide_eq_false_iff_not, Bool.not_eq_true', Bool.not_eq_false', List.length_cons, List.length_nil]; first | assumption | omega) | (simp <;> done) | (simp <;> omega)) ?_
        refine Wp.region ?_
        refine WpL.step (Stp.rd (Rdo.assign rfl) rfl ?_)
        refine WpL.nil ?_
        refine Thn.n ?_
        refine Wp.seq ?_
        refine Wp.block ?_
        refine Wp.seq ?_
        refine Wp.draw (by kernel_rfl) ?_
        refine WpR.take (i := 0) rfl (by kernel_rfl) (by kernel_rfl) (by kernel_rfl) (Rdo.move rfl) rfl ?_
        refine WpR.take (i := 1) rfl (by kernel_rfl) (by kernel_rfl) (by kernel_rfl) (Rdo.nilCheck rfl) rfl ?_
        refine WpR.take (i := 2) rfl (by kernel_rfl) (by kernel_rfl) (by kernel_rfl) (Rdo.fieldAddr0 rfl) rfl ?_
        refine WpR.one (i := 3) rfl (by kernel_rfl) (Stp.rd (Rdo.load rfl (Lds.next (Lds.next (Lds.next (Lds.one rfl))))) rfl ?_)
        refine WpR.take (i := 4) rfl (by kernel_rfl) (by kernel_rfl) (by kernel_rfl) (Rdo.move rfl) rfl ?_
        refine WpR.tF 16 rfl (by first | rfl | assumption | (simp only [decide_eq_true_eq, decide_eq_false_iff_not, Bool.not_eq_true', Bool.not_eq_false', List.length_cons, List.length_nil]; first | assumption | omega) | (simp <;> done) | (simp <;> omega)) ?_
        refine WpR.pass (i := 5) rfl rfl rfl rfl (by kernel_rfl) (by kernel_rfl) (by kernel_rfl) rfl ?_
        refine WpR.pass (i := 6) rfl rfl rfl rfl (by kernel_rfl) (by kernel_rfl) (by kernel_rfl) rfl ?_
        refine WpR.pass (i := 7) rfl rfl rfl rfl (by kernel_rfl) (by kernel_rfl) (by kernel_rfl) rfl ?_
        refine WpR.pass (i := 8) rfl rfl rfl rfl (by kernel_rfl) (by kernel_rfl) (by kernel_rfl) rfl ?_
        refine WpR.pass (i := 9) rfl rfl rfl rfl (by kernel_rfl) (by kernel_rfl) (by kernel_rfl) rfl ?_
        refine WpR.pass (i := 10) rfl rfl rfl rfl (by kernel_rfl) (by kernel_rfl) (by kernel_rfl) rfl ?_
        refine WpR.pass (i := 11) rfl rfl rfl rfl (by kernel_rfl) (by kernel_rfl) (by kernel_rfl) rfl ?_
        refine WpR.take (i := 12) rfl (by kernel_rfl) (by kernel_rfl) (by kernel_rfl) (Rdo.pick_f rfl rfl) rfl ?_
        refine WpR.take (i := 13) rfl (by kernel_rfl) (by kernel_rfl) (by kernel_rfl) (Rdo.assign rfl) rfl ?_
        refine WpR.done (by kernel_rfl) ?_
        refine Thn.n ?_
        refine Wp.condF rfl ?_
        refine Wp.seq ?_
        refine Wp.draw (by kernel_rfl) ?_
        refine WpR.take (i := 0) rfl (by kernel_rfl) (by kernel_rfl) (by kernel_rfl) (Rdo.move rfl) rfl ?_
        refine WpR.take (i := 1) rfl (by kernel_rfl) (by kernel_rfl) (by kernel_rfl) (Rdo.nilCheck rfl) rfl ?_
        refine WpR.take (i := 2) rfl (by kernel_rfl) (by kernel_rfl) (by kernel_rfl) (Rdo.fieldAddr0 rfl) rfl ?_
        refine WpR.take (i := 4) rfl (by kernel_rfl) (by kernel_rfl) (by kernel_rfl) (Rdo.move rfl) rfl ?_
        refine WpR.take (i := 5) rfl (by kernel_rfl) (by kernel_rfl) (by kernel_rfl) (Rdo.fieldAddr0 rfl) rfl ?_
        refine WpR.take (i := 7) rfl (by kernel_rfl) (by kernel_rfl) (by kernel_rfl) (Rdo.fieldAddr0 rfl) rfl ?_
        refine WpR.take (i := 9) rfl (by kernel_rfl) (by kernel_rfl) (by kernel_rfl) (Rdo.fieldAddr0 rfl) rfl ?_
        refine WpR.load (i := 6) [3, 8, 10] rfl (by kernel_rfl) (by kernel_rfl) (by kernel_rfl) (by kernel_rfl) (by kernel_rfl) rfl Tk.rfl_ (Harm.rd rfl (Rdo.load rfl (Lds.next (Lds.one rfl))) (Harm.rd rfl (Rdo.load rfl (Lds.one rfl)) (Harm.rd rfl (Rdo.load rfl (Lds.one rfl)) Harm.nil))) (Rdo.load rfl (Lds.one rfl)) rfl ?_
        refine WpR.load (i := 8) [3, 10] rfl (by kernel_rfl) (by kernel_rfl) (by kernel_rfl) (by kernel_rfl) (by kernel_rfl) rfl Tk.rfl_ (Harm.rd rfl (Rdo.load rfl (Lds.next (Lds.one rfl))) (Harm.rd rfl (Rdo.load rfl (Lds.one rfl)) Harm.nil)) (Rdo.load rfl (Lds.one rfl)) rfl ?_
        refine WpR.load (i := 10) [3] rfl (by kernel_rfl) (by kernel_rfl) (by kernel_rfl) (by kernel_rfl) (by kernel_rfl) rfl Tk.rfl_ (Harm.rd rfl (Rdo.load rfl (Lds.next (Lds.one rfl))) Harm.nil) (Rdo.load rfl (Lds.one rfl)) rfl ?_
        refine WpR.take (i := 11) rfl (by kernel_rfl) (by kernel_rfl) (by kernel_rfl) (Rdo.bld rfl (BldL.cons rfl (VC.i _ _) (by first | rfl | assumption | (simp <;> done)) (by repeat (first | exact LPut.nil _ | apply LPut.here | apply LPut.next)) (BldL.cons rfl (VC.i _ _) (by first | rfl | assumption | (simp <;> done)) (by repeat (first | exact LPut.nil _ | apply LPut.here | apply LPut.next)) (BldL.cons rfl (VC.i _ _) (by first | rfl | assumption | (simp <;> done)) (by repeat (first | exact LPut.nil _ | apply LPut.here | apply LPut.next)) (BldL.cons rfl (VC.i _ _) (by first | rfl | assumption | (simp <;> done)) (by repeat (first | exact LPut.nil _ | apply LPut.here | apply LPut.next)) (BldL.nil _)))))) rfl ?_
        refine WpR.one (i := 3) rfl (by kernel_rfl) (Stp.rd (Rdo.load rfl (Lds.next (Lds.one rfl))) rfl ?_)
        refine WpR.one (i := 12) rfl (by kernel_rfl) (Stp.rd (Rdo.lookup1 (enc := markV) (k := (⟨2, o.producer, o.epoch, o.txn⟩ : Mark)) rfl rfl (Mps.next (Mps.next Mps.here))) rfl ?_)
        rw [hv]
        refine WpR.take (i := 13) rfl (by kernel_rfl) (by kernel_rfl) (by kernel_rfl) (Rdo.assign rfl) rfl ?_
        refine WpR.done (by kernel_rfl) ?_
        refine Thn.n ?_
        refine Wp.condT rfl ?_
        refine Wp.seq ?_
        refine Wp.region ?_
        refine WpL.step (Stp.rd (Rdo.assign rfl) rfl ?_)
        refine WpL.step (Stp.rd (Rdo.assign rfl) rfl ?_)
        refine WpL.nil ?_
        refine Thn.n ?_
        refine Wp.ret ?_
        refine Blk.r ?_
        refine Thn.r ?_
        refine Ret.now (ResV.tmp rfl (ResV.tmp rfl ResV.nil)) (Gh.tk (by repeat (first | exact Tk.nil | apply Tk.cons (by repeat (first | exact Pk.here | apply Pk.next))))) ⟨rfl, rfl⟩
      | false =>
        rw [hc] at hv
        simp only [kindOf, if_true, Bool.false_eq_true, if_false] at hv
        refine Trip.of_body Tryd.func40 rfl Tryd.ntmps40 Tryd.results40 rfl ?_
        refine Wp.seq ?_
        refine Wp.region ?_
        (refine WpL.step (Stp.boxV rfl (VC.ag _) rfl ?_); intro nb2)
        refine WpL.step (Stp.rd (Rdo.assign rfl) rfl ?_)
        refine WpL.step (Stp.rd (Rdo.assign rfl) rfl ?_)
        refine WpL.nil ?_
        refine Thn.n ?_
        refine Wp.seq ?_
        refine Wp.region ?_
        refine WpL.step (Stp.rd (Rdo.assign rfl) rfl ?_)
        refine WpL.nil ?_
        refine Thn.n ?_
        refine Wp.seq ?_
        refine Wp.seq ?_
        refine Wp.region ?_
        refine WpL.step (Stp.rd (Rdo.fieldAddr0 rfl) rfl ?_)
        refine WpL.step (Stp.rd (Rdo.load rfl (Lds.one rfl)) rfl ?_)
        refine WpL.nil ?_
        refine Thn.n ?_
        refine Wp.condL rfl (by first | rfl | assumption | (simp only [decide_eq_true_eq, decide_eq_false_iff_not, Bool.not_eq_true', Bool.not_eq_false', List.length_cons, List.length_nil]; first | assumption | omega) | (simp <;> done) | (simp <;> omega)) ?_
        refine Wp.skip ?_
        refine Thn.n ?_
        refine Wp.seq ?_
        refine Wp.block ?_
        refine Wp.seq ?_
        refine Wp.draw (by kernel_rfl) ?_
        refine WpR.take (i := 0) rfl (by kernel_rfl) (by kernel_rfl) (by kernel_rfl) (Rdo.move rfl) rfl ?_
        refine WpR.take (i := 1) rfl (by kernel_rfl) (by kernel_rfl) (by kernel_rfl) (Rdo.nilCheck rfl) rfl ?_
        refine WpR.take (i := 2) rfl (by kernel_rfl) (by kernel_rfl) (by kernel_rfl) (Rdo.fieldAddr0 rfl) rfl ?_
        refine WpR.one (i := 3) rfl (by kernel_rfl) (Stp.rd (Rdo.load rfl (Lds.next (Lds.next (Lds.next (Lds.one rfl))))) rfl ?_)
        refine WpR.take (i := 4) rfl (by kernel_rfl) (by kernel_rfl) (by kernel_rfl) (Rdo.move rfl) rfl ?_
        refine WpR.tF 16 rfl (by first | rfl | assumption | (simp only [decide_eq_true_eq, decide_eq_false_iff_not, Bool.not_eq_true', Bool.not_eq_false', List.length_cons, List.length_nil]; first | assumption | omega) | (simp <;> done) | (simp <;> omega)) ?_
        refine WpR.pass (i := 5) rfl rfl rfl rfl (by kernel_rfl) (by kernel_rfl) (by kernel_rfl) rfl ?_
        refine WpR.pass (i := 6) rfl rfl rfl rfl (by kernel_rfl) (by kernel_rfl) (by kernel_rfl) rfl ?_
        refine WpR.pass (i := 7) rfl rfl rfl rfl (by kernel_rfl) (by kernel_rfl) (by kernel_rfl) rfl ?_
        refine WpR.pass (i := 8) rfl rfl rfl rfl (by kernel_rfl) (by kernel_rfl) (by kernel_rfl) rfl ?_
        refine WpR.pass (i := 9) rfl rfl rfl rfl (by kernel_rfl) (by kernel_rfl) (by kernel_rfl) rfl ?_
        refine WpR.pass (i := 10) rfl rfl rfl rfl (by kernel_rfl) (by kernel_rfl) (by kernel_rfl) rfl ?_
        refine WpR.pass (i := 11) rfl rfl rfl rfl (by kernel_rfl) (by kernel_rfl) (by kernel_rfl) rfl ?_
        refine WpR.take (i := 12) rfl (by kernel_rfl) (by kernel_rfl) (by kernel_rfl) (Rdo.pick_f rfl rfl) rfl ?_
        refine WpR.take (i := 13) rfl (by kernel_rfl) (by kernel_rfl) (by kernel_rfl) (Rdo.assign rfl) rfl ?_
        refine WpR.done (by kernel_rfl) ?_
        refine Thn.n ?_
        refine Wp.condF rfl ?_
        refine Wp.seq ?_
        refine Wp.draw (by kernel_rfl) ?_
        refine WpR.take (i := 0) rfl (by kernel_rfl) (by kernel_rfl) (by kernel_rfl) (Rdo.move rfl) rfl ?_
        refine WpR.take (i := 1) rfl (by kernel_rfl) (by kernel_rfl) (by kernel_rfl) (Rdo.nilCheck rfl) rfl ?_
        refine WpR.take (i := 2) rfl (by kernel_rfl) (by kernel_rfl) (by kernel_rfl) (Rdo.fieldAddr0 rfl) rfl ?_
        refine WpR.take (i := 4) rfl (by kernel_rfl) (by kernel_rfl) (by kernel_rfl) (Rdo.move rfl) rfl ?_
        refine WpR.take (i := 5) rfl (by kernel_rfl) (by kernel_rfl) (by kernel_rfl) (Rdo.fieldAddr0 rfl) rfl ?_
        refine WpR.take (i := 7) rfl (by kernel_rfl) (by kernel_rfl) (by kernel_rfl) (Rdo.fieldAddr0 rfl) rfl ?_
        refine WpR.take (i := 9) rfl (by kernel_rfl) (by kernel_rfl) (by kernel_rfl) (Rdo.fieldAddr0 rfl) rfl ?_
        refine WpR.load (i := 6) [3, 8, 10] rfl (by kernel_rfl) (by kernel_rfl) (by kernel_rfl) (by kernel_rfl) (by kernel_rfl) rfl Tk.rfl_ (Harm.rd rfl (Rdo.load rfl (Lds.next (Lds.one rfl))) (Harm.rd rfl (Rdo.load rfl (Lds.one rfl)) (Harm.rd rfl (Rdo.load rfl (Lds.one rfl)) Harm.nil))) (Rdo.load rfl (Lds.one rfl)) rfl ?_
        refine WpR.load (i := 8) [3, 10] rfl (by kernel_rfl) (by kernel_rfl) (by kernel_rfl) (by kernel_rfl) (by kernel_rfl) rfl Tk.rfl_ (Harm.rd rfl (Rdo.load rfl (Lds.next (Lds.one rfl))) (Harm.rd rfl (Rdo.load rfl (Lds.one rfl)) Harm.nil)) (Rdo.load rfl (Lds.one rfl)) rfl ?_
        refine WpR.load (i := 10) [3] rfl (by kernel_rfl) (by kernel_rfl) (by kernel_rfl) (by kernel_rfl) (by kernel_rfl) rfl Tk.rfl_ (Harm.rd rfl (Rdo.load rfl (Lds.next (Lds.one rfl))) Harm.nil) (Rdo.load rfl (Lds.one rfl)) rfl ?_
        refine WpR.take (i := 11) rfl (by kernel_rfl) (by kernel_rfl) (by kernel_rfl) (Rdo.bld rfl (BldL.cons rfl (VC.i _ _) (by first | rfl | assumption | (simp <;> done)) (by repeat (first | exact LPut.nil _ | apply LPut.here | apply LPut.next)) (BldL.cons rfl (VC.i _ _) (by first | rfl | assumption | (simp <;> done)) (by repeat (first | exact LPut.nil _ | apply LPut.here | apply LPut.next)) (BldL.cons rfl (VC.i _ _) (by first | rfl | assumption | (simp <;> done)) (by repeat (first | exact LPut.nil _ | apply LPut.here | apply LPut.next)) (BldL.cons rfl (VC.i _ _) (by first | rfl | assumption | (simp <;> done)) (by repeat (first | exact LPut.nil _ | apply LPut.here | apply LPut.next)) (BldL.nil _)))))) rfl ?_
        refine WpR.one (i := 3) rfl (by kernel_rfl) (Stp.rd (Rdo.load rfl (Lds.next (Lds.one rfl))) rfl ?_)
        refine WpR.one (i := 12) rfl (by kernel_rfl) (Stp.rd (Rdo.lookup1 (enc := markV) (k := (⟨3, o.producer, o.epoch, o.txn⟩ : Mark)) rfl rfl (Mps.next (Mps.next Mps.here))) rfl ?_)
        rw [hv]
        refine WpR.take (i := 13) rfl (by kernel_rfl) (by kernel_rfl) (by kernel_rfl) (Rdo.assign rfl) rfl ?_
        refine WpR.done (by kernel_rfl) ?_
        refine Thn.n ?_
        refine Wp.condT rfl ?_
        refine Wp.seq ?_
        refine Wp.region ?_
        refine WpL.step (Stp.rd (Rdo.assign rfl) rfl ?_)
        refine WpL.step (Stp.rd (Rdo.assign rfl) rfl ?_)
        refine WpL.nil ?_
        refine Thn.n ?_
        refine Wp.ret ?_
        refine Blk.r ?_
        refine Thn.r ?_
        refine Ret.now (ResV.tmp rfl (ResV.tmp rfl ResV.nil)) (Gh.tk (by repeat (first | exact Tk.nil | apply Tk.cons (by repeat (first | exact Pk.here | apply Pk.next))))) ⟨rfl, rfl⟩
  · rw [if_neg hd]
    have hv := mapVal_keys ds ⟨kindOf o.commit, o.producer, o.epoch, o.txn⟩
    rw [decide_eq_false hd] at hv
    cases ho : p.opn with
    | true =>
      have h2 : ¬ o.txn = p.last := fun h3 => h ⟨ho, h3⟩
      cases hc : o.commit with
      | true =>
        rw [hc] at hv
        simp only [kindOf, if_true, Bool.false_eq_true, if_false] at hv
        refine Trip.of_body Tryd.func40 rfl Tryd.ntmps40 Tryd.results40 rfl ?_
        refine Wp.seq ?_
        refine Wp.region ?_
        (refine WpL.step (Stp.boxV rfl (VC.ag _) rfl ?_); intro nb2)
        refine WpL.step (Stp.rd (Rdo.assign rfl) rfl ?_)
        refine WpL.step (Stp.rd (Rdo.assign rfl) rfl ?_)
        refine WpL.nil ?_
        refine Thn.n ?_
        refine Wp.seq ?_
        refine Wp.region ?_
        refine WpL.step (Stp.rd (Rdo.assign rfl) rfl ?_)
        refine WpL.nil ?_
        refine Thn.n ?_
        refine Wp.seq ?_
        refine Wp.seq ?_
        refine Wp.region ?_
        refine WpL.step (Stp.rd (Rdo.fieldAddr0 rfl) rfl ?_)
        refine WpL.step (Stp.rd (Rdo.load rfl (Lds.one rfl)) rfl ?_)
        refine WpL.nil ?_
        refine Thn.n ?_
        refine Wp.condK rfl (by first | rfl | assumption | (simp only [decide_eq_true_eq, decide_eq_false_iff_not, Bool.not_eq_true', Bool.not_eq_false', List.length_cons, List.length_nil]; first | assumption | omega) | (simp <;> done) | (simp <;> omega)) ?_
        refine Wp.region ?_
        refine WpL.step (Stp.rd (Rdo.assign rfl) rfl ?_)
        refine WpL.nil ?_
        refine Thn.n ?_
        refine Wp.seq ?_
        refine Wp.block ?_
        refine Wp.seq ?_
        refine Wp.draw (by kernel_rfl) ?_
        refine WpR.take (i := 0) rfl (by kernel_rfl) (by kernel_rfl) (by kernel_rfl) (Rdo.move rfl) rfl ?_
        refine WpR.take (i := 1) rfl (by kernel_rfl) (by kernel_rfl) (by kernel_rfl) (Rdo.nilCheck rfl) rfl ?_
        refine WpR.take (i := 2) rfl (by kernel_rfl) (by kernel_rfl) (by kernel_rfl) (Rdo.fieldAddr0 rfl) rfl ?_
        refine WpR.one (i := 3) rfl (by kernel_rfl) (Stp.rd (Rdo.load rfl (Lds.next (Lds.next (Lds.next (Lds.one rfl))))) rfl ?_)
        refine WpR.take (i := 4) rfl (by kernel_rfl) (by kernel_rfl) (by kernel_rfl) (Rdo.move rfl) rfl ?_
        refine WpR.tT 16 rfl (by first | rfl | assumption | (simp only [decide_eq_true_eq, decide_eq_false_iff_not, Bool.not_eq_true', Bool.not_eq_false', List.length_cons, List.length_nil]; first | assumption | omega) | (simp <;> done) | (simp <;> omega)) ?_
        refine WpR.want (i := 5) rfl rfl rfl rfl (by kernel_rfl) (by kernel_rfl) (by kernel_rfl) (Rdo.fieldAddr0 rfl) rfl ?_
        refine WpR.want (i := 7) rfl rfl rfl rfl (by kernel_rfl) (by kernel_rfl) (by kernel_rfl) (Rdo.move rfl) rfl ?_
        refine WpR.want (i := 8) rfl rfl rfl rfl (by kernel_rfl) (by kernel_rfl) (by kernel_rfl) (Rdo.nilCheck rfl) rfl ?_
        refine WpR.want (i := 9) rfl rfl rfl rfl (by kernel_rfl) (by kernel_rfl) (by kernel_rfl) (Rdo.fieldAddr0 rfl) rfl ?_
        refine WpR.phaseL (m := 0) #[true, true, true, true, true, true, true, true, true, true, true, true, true, true] 5 _ rfl (by kernel_rfl) (Tk.cons Pk.here (Tk.cons (Pk.next (Pk.next Pk.here)) Tk.nil)) ?_
        refine WpA.want (i := 6) rfl rfl rfl rfl rfl (by kernel_rfl) (by kernel_rfl) (by kernel_rfl) (Rdo.load rfl (Lds.one rfl)) rfl ?_
        refine WpA.want (i := 10) rfl rfl rfl rfl rfl (by kernel_rfl) (by kernel_rfl) (by kernel_rfl) (Rdo.load rfl (Lds.next (Lds.one rfl))) rfl ?_
        refine WpA.want (i := 11) rfl rfl rfl rfl rfl (by kernel_rfl) (by kernel_rfl) (by kernel_rfl) (Rdo.eqi rfl rfl) rfl ?_
        refine WpA.take (i := 12) rfl rfl (by kernel_rfl) (by kernel_rfl) (by kernel_rfl) (Rdo.pick_t rfl rfl) rfl ?_
        refine WpA.take (i := 13) rfl rfl (by kernel_rfl) (by kernel_rfl) (by kernel_rfl) (Rdo.assign rfl) rfl ?_
        refine WpA.stop (by kernel_rfl) ?_
        refine WpR.lst (by simp only [List.cons_append, List.nil_append]; exact rfl) ?_
        refine WpR.done (by kernel_rfl) ?_
        refine Thn.n ?_
        refine Wp.condL rfl (by first | rfl | assumption | (simp only [decide_eq_true_eq, decide_eq_false_iff_not, Bool.not_eq_true', Bool.not_eq_false', List.length_cons, List.length_nil]; first | assumption | omega) | (simp <;> done) | (simp <;> omega)) ?_
        refine Wp.seq ?_
        refine Wp.draw (by kernel_rfl) ?_
        refine WpR.take (i := 0) rfl (by kernel_rfl) (by kernel_rfl) (by kernel_rfl) (Rdo.move rfl) rfl ?_
        refine WpR.take (i := 1) rfl (by kernel_rfl) (by kernel_rfl) (by kernel_rfl) (Rdo.nilCheck rfl) rfl ?_
        refine WpR.take (i := 2) rfl (by kernel_rfl) (by kernel_rfl) (by kernel_rfl) (Rdo.fieldAddr0 rfl) rfl ?_
        refine WpR.take (i := 4) rfl (by kernel_rfl) (by kernel_rfl) (by kernel_rfl) (Rdo.move rfl) rfl ?_
        refine WpR.take (i := 5) rfl (by kernel_rfl) (by kernel_rfl) (by kernel_rfl) (Rdo.fieldAddr0 rfl) rfl ?_
        refine WpR.take (i := 7) rfl (by kernel_rfl) (by kernel_rfl) (by kernel_rfl) (Rdo.fieldAddr0 rfl) rfl ?_
        refine WpR.take (i := 9) rfl (by kernel_rfl) (by kernel_rfl) (by kernel_rfl) (Rdo.fieldAddr0 rfl) rfl ?_
        refine WpR.load (i := 6) [3, 8, 10] rfl (by kernel_rfl) (by kernel_rfl) (by kernel_rfl) (by kernel_rfl) (by kernel_rfl) rfl Tk.rfl_ (Harm.rd rfl (Rdo.load rfl (Lds.next (Lds.next (Lds.one rfl)))) (Harm.rd rfl (Rdo.load rfl (Lds.one rfl)) (Harm.rd rfl (Rdo.load rfl (Lds.one rfl)) Harm.nil))) (Rdo.load rfl (Lds.one rfl)) rfl ?_
        refine WpR.load (i := 8) [3, 10] rfl (by kernel_rfl) (by kernel_rfl) (by kernel_rfl) (by kernel_rfl) (by kernel_rfl) rfl Tk.rfl_ (Harm.rd rfl (Rdo.load rfl (Lds.next (Lds.next (Lds.one rfl)))) (Harm.rd rfl (Rdo.load rfl (Lds.one rfl)) Harm.nil)) (Rdo.load rfl (Lds.one rfl)) rfl ?_
        refine WpR.load (i := 10) [3] rfl (by kernel_rfl) (by kernel_rfl) (by kernel_rfl) (by kernel_rfl) (by kernel_rfl) rfl Tk.rfl_ (Harm.rd rfl (Rdo.load rfl (Lds.next (Lds.next (Lds.one rfl)))) Harm.nil) (Rdo.load rfl (Lds.one rfl)) rfl ?_
        refine WpR.take (i := 11) rfl (by kernel_rfl) (by kernel_rfl) (by kernel_rfl) (Rdo.bld rfl (BldL.cons rfl (VC.i _ _) (by first | rfl | assumption | (simp <;> done)) (by repeat (first | exact LPut.nil _ | apply LPut.here | apply LPut.next)) (BldL.cons rfl (VC.i _ _) (by first | rfl | assumption | (simp <;> done)) (by repeat (first | exact LPut.nil _ | apply LPut.here | apply LPut.next)) (BldL.cons rfl (VC.i _ _) (by first | rfl | assumption | (simp <;> done)) (by repeat (first | exact LPut.nil _ | apply LPut.here | apply LPut.next)) (BldL.cons rfl (VC.i _ _) (by first | rfl | assumption | (simp <;> done)) (by repeat (first | exact LPut.nil _ | apply LPut.here | apply LPut.next)) (BldL.nil _)))))) rfl ?_
        refine WpR.one (i := 3) rfl (by kernel_rfl) (Stp.rd (Rdo.load rfl (Lds.next (Lds.next (Lds.one rfl)))) rfl ?_)
        refine WpR.one (i := 12) rfl (by kernel_rfl) (Stp.rd (Rdo.lookup1 (enc := markV) (k := (⟨2, o.producer, o.epoch, o.txn⟩ : Mark)) rfl rfl (Mps.next (Mps.next (Mps.next Mps.here)))) rfl ?_)
        rw [hv]
        refine WpR.take (i := 13) rfl (by kernel_rfl) (by kernel_rfl) (by kernel_rfl) (Rdo.assign rfl) rfl ?_
        refine WpR.done (by kernel_rfl) ?_
        refine Thn.n ?_
        refine Wp.condF rfl ?_
        refine Wp.skip ?_
        refine Blk.n ?_
        refine Thn.n ?_
        refine Wp.seq ?_
        refine Wp.region ?_
        refine WpL.step (Stp.rd (Rdo.assign rfl) rfl ?_)
        refine WpL.step (Stp.rd (Rdo.assign rfl) rfl ?_)
        refine WpL.nil ?_
        refine Thn.n ?_
        refine Wp.ret ?_
        refine Ret.now (ResV.tmp rfl (ResV.tmp rfl ResV.nil)) (Gh.tk (by repeat (first | exact Tk.nil | apply Tk.cons (by repeat (first | exact Pk.here | apply Pk.next))))) ⟨rfl, rfl⟩
      | false =>
        rw [hc] at hv
        simp only [kindOf, if_true, Bool.false_eq_true, if_false] at hv
        refine Trip.of_body Tryd.func40 rfl Tryd.ntmps40 Tryd.results40 rfl ?_
        refine Wp.seq ?_
        refine Wp.region ?_
        (refine WpL.step (Stp.boxV rfl (VC.ag _) rfl ?_); intro nb2)
        refine WpL.step (Stp.rd (Rdo.assign rfl) rfl ?_)
        refine WpL.step (Stp.rd (Rdo.assign rfl) rfl ?_)
        refine WpL.nil ?_
        refine Thn.n ?_
        refine Wp.seq ?_
        refine Wp.region ?_
        refine WpL.step (Stp.rd (Rdo.assign rfl) rfl ?_)
        refine WpL.nil ?_
        refine Thn.n ?_
        refine Wp.seq ?_
        refine Wp.seq ?_
        refine Wp.region ?_
        refine WpL.step (Stp.rd (Rdo.fieldAddr0 rfl) rfl ?_)
        refine WpL.step (Stp.rd (Rdo.load rfl (Lds.one rfl)) rfl ?_)
        refine WpL.nil ?_
        refine Thn.n ?_
        refine Wp.condL rfl (by first | rfl | assumption | (simp only [decide_eq_true_eq, decide_eq_false_iff_not, Bool.not_eq_true', Bool.not_eq_false', List.length_cons, List.length_nil]; first | assumption | omega) | (simp <;> done) | (simp <;> omega)) ?_
        refine Wp.skip ?_
        refine Thn.n ?_
        refine Wp.seq ?_
        refine Wp.block ?_
        refine Wp.seq ?_
        refine Wp.draw (by kernel_rfl) ?_
        refine WpR.take (i := 0) rfl (by kernel_rfl) (by kernel_rfl) (by kernel_rfl) (Rdo.move rfl) rfl ?_
        refine WpR.take (i := 1) rfl (by kernel_rfl) (by kernel_rfl) (by kernel_rfl) (Rdo.nilCheck rfl) rfl ?_
        refine WpR.take (i := 2) rfl (by kernel_rfl) (by kernel_rfl) (by kernel_rfl) (Rdo.fieldAddr0 rfl) rfl ?_
        refine WpR.one (i := 3) rfl (by kernel_rfl) (Stp.rd (Rdo.load rfl (Lds.next (Lds.next (Lds.next (Lds.one rfl))))) rfl ?_)
        refine WpR.take (i := 4) rfl (by kernel_rfl) (by kernel_rfl) (by kernel_rfl) (Rdo.move rfl) rfl ?_
        refine WpR.tT 16 rfl (by first | rfl | assumption | (simp only [decide_eq_true_eq, decide_eq_false_iff_not, Bool.not_eq_true', Bool.not_eq_false', List.length_cons, List.length_nil]; first | assumption | omega) | (simp <;> done) | (simp <;> omega)) ?_
        refine WpR.want (i := 5) rfl rfl rfl rfl (by kernel_rfl) (by kernel_rfl) (by kernel_rfl) (Rdo.fieldAddr0 rfl) rfl ?_
        refine WpR.want (i := 7) rfl rfl rfl rfl (by kernel_rfl) (by kernel_rfl) (by kernel_rfl) (Rdo.move rfl) rfl ?_
        refine WpR.want (i := 8) rfl rfl rfl rfl (by kernel_rfl) (by kernel_rfl) (by kernel_rfl) (Rdo.nilCheck rfl) rfl ?_
        refine WpR.want (i := 9) rfl rfl rfl rfl (by kernel_rfl) (by kernel_rfl) (by kernel_rfl) (Rdo.fieldAddr0 rfl) rfl ?_
        refine WpR.phaseL (m := 0) #[true, true, true, true, true, true, true, true, true, true, true, true, true, true] 5 _ rfl (by kernel_rfl) (Tk.cons Pk.here (Tk.cons (Pk.next (Pk.next Pk.here)) Tk.nil)) ?_
        refine WpA.want (i := 6) rfl rfl rfl rfl rfl (by kernel_rfl) (by kernel_rfl) (by kernel_rfl) (Rdo.load rfl (Lds.one rfl)) rfl ?_
        refine WpA.want (i := 10) rfl rfl rfl rfl rfl (by kernel_rfl) (by kernel_rfl) (by kernel_rfl) (Rdo.load rfl (Lds.next (Lds.one rfl))) rfl ?_
        refine WpA.want (i := 11) rfl rfl rfl rfl rfl (by kernel_rfl) (by kernel_rfl) (by kernel_rfl) (Rdo.eqi rfl rfl) rfl ?_
        refine WpA.take (i := 12) rfl rfl (by kernel_rfl) (by kernel_rfl) (by kernel_rfl) (Rdo.pick_t rfl rfl) rfl ?_
        refine WpA.take (i := 13) rfl rfl (by kernel_rfl) (by kernel_rfl) (by kernel_rfl) (Rdo.assign rfl) rfl ?_
        refine WpA.stop (by kernel_rfl) ?_
        refine WpR.lst (by simp only [List.cons_append, List.nil_append]; exact rfl) ?_
        refine WpR.done (by kernel_rfl) ?_
        refine Thn.n ?_
        refine Wp.condL rfl (by first | rfl | assumption | (simp only [decide_eq_true_eq, decide_eq_false_iff_not, Bool.not_eq_true', Bool.not_eq_false', List.length_cons, List.length_nil]; first | assumption | omega) | (simp <;> done) | (simp <;> omega)) ?_
        refine Wp.seq ?_
        refine Wp.draw (by kernel_rfl) ?_
        refine WpR.take (i := 0) rfl (by kernel_rfl) (by kernel_rfl) (by kernel_rfl) (Rdo.move rfl) rfl ?_
        refine WpR.take (i := 1) rfl (by kernel_rfl) (by kernel_rfl) (by kernel_rfl) (Rdo.nilCheck rfl) rfl ?_
        refine WpR.take (i := 2) rfl (by kernel_rfl) (by kernel_rfl) (by kernel_rfl) (Rdo.fieldAddr0 rfl) rfl ?_
        refine WpR.take (i := 4) rfl (by kernel_rfl) (by kernel_rfl) (by kernel_rfl) (Rdo.move rfl) rfl ?_
        refine WpR.take (i := 5) rfl (by kernel_rfl) (by kernel_rfl) (by kernel_rfl) (Rdo.fieldAddr0 rfl) rfl ?_
        refine WpR.take (i := 7) rfl (by kernel_rfl) (by kernel_rfl) (by kernel_rfl) (Rdo.fieldAddr0 rfl) rfl ?_
        refine WpR.take (i := 9) rfl (by kernel_rfl) (by kernel_rfl) (by kernel_rfl) (Rdo.fieldAddr0 rfl) rfl ?_
        refine WpR.load (i := 6) [3, 8, 10] rfl (by kernel_rfl) (by kernel_rfl) (by kernel_rfl) (by kernel_rfl) (by kernel_rfl) rfl Tk.rfl_ (Harm.rd rfl (Rdo.load rfl (Lds.next (Lds.next (Lds.one rfl)))) (Harm.rd rfl (Rdo.load rfl (Lds.one rfl)) (Harm.rd rfl (Rdo.load rfl (Lds.one rfl)) Harm.nil))) (Rdo.load rfl (Lds.one rfl)) rfl ?_
        refine WpR.load (i := 8) [3, 10] rfl (by kernel_rfl) (by kernel_rfl) (by kernel_rfl) (by kernel_rfl) (by kernel_rfl) rfl Tk.rfl_ (Harm.rd rfl (Rdo.load rfl (Lds.next (Lds.next (Lds.one rfl)))) (Harm.rd rfl (Rdo.load rfl (Lds.one rfl)) Harm.nil)) (Rdo.load rfl (Lds.one rfl)) rfl ?_
        refine WpR.load (i := 10) [3] rfl (by kernel_rfl) (by kernel_rfl) (by kernel_rfl) (by kernel_rfl) (by kernel_rfl) rfl Tk.rfl_ (Harm.rd rfl (Rdo.load rfl (Lds.next (Lds.next (Lds.one rfl)))) Harm.nil) (Rdo.load rfl (Lds.one rfl)) rfl ?_
        refine WpR.take (i := 11) rfl (by kernel_rfl) (by kernel_rfl) (by kernel_rfl) (Rdo.bld rfl (BldL.cons rfl (VC.i _ _) (by first | rfl | assumption | (simp <;> done)) (by repeat (first | exact LPut.nil _ | apply LPut.here | apply LPut.next)) (BldL.cons rfl (VC.i _ _) (by first | rfl | assumption | (simp <;> done)) (by repeat (first | exact LPut.nil _ | apply LPut.here | apply LPut.next)) (BldL.cons rfl (VC.i _ _) (by first | rfl | assumption | (simp <;> done)) (by repeat (first | exact LPut.nil _ | apply LPut.here | apply LPut.next)) (BldL.cons rfl (VC.i _ _) (by first | rfl | assumption | (simp <;> done)) (by repeat (first | exact LPut.nil _ | apply LPut.here | apply LPut.next)) (BldL.nil _)))))) rfl ?_
        refine WpR.one (i := 3) rfl (by kernel_rfl) (Stp.rd (Rdo.load rfl (Lds.next (Lds.next (Lds.one rfl)))) rfl ?_)
        refine WpR.one (i := 12) rfl (by kernel_rfl) (Stp.rd (Rdo.lookup1 (enc := markV) (k := (⟨3, o.producer, o.epoch, o.txn⟩ : Mark)) rfl rfl (Mps.next (Mps.next (Mps.next Mps.here)))) rfl ?_)
        rw [hv]
        refine WpR.take (i := 13) rfl (by kernel_rfl) (by kernel_rfl) (by kernel_rfl) (Rdo.assign rfl) rfl ?_
        refine WpR.done (by kernel_rfl) ?_
        refine Thn.n ?_
        refine Wp.condF rfl ?_
        refine Wp.skip ?_
        refine Blk.n ?_
        refine Thn.n ?_
        refine Wp.seq ?_
        refine Wp.region ?_
        refine WpL.step (Stp.rd (Rdo.assign rfl) rfl ?_)
        refine WpL.step (Stp.rd (Rdo.assign rfl) rfl ?_)
        refine WpL.nil ?_
        refine Thn.n ?_
        refine Wp.ret ?_
        refine Ret.now (ResV.tmp rfl (ResV.tmp rfl ResV.nil)) (Gh.tk (by repeat (first | exact Tk.nil | apply Tk.cons (by repeat (first | exact Pk.here | apply Pk.next))))) ⟨rfl, rfl⟩
    | false =>
      cases hc : o.commit with
      | true =>
        rw [hc] at hv
        simp only [kindOf, if_true, Bool.false_eq_true, if_false] at hv
        refine Trip.of_body Tryd.func40 rfl Tryd.ntmps40 Tryd.results40 rfl ?_
        refine Wp.seq ?_
        refine Wp.region ?_
        (refine WpL.step (Stp.boxV rfl (VC.ag _) rfl ?_); intro nb2)
        refine WpL.step (Stp.rd (Rdo.assign rfl) rfl ?_)
        refine WpL.step (Stp.rd (Rdo.assign rfl) rfl ?_)
        refine WpL.nil ?_
        refine Thn.n ?_
        refine Wp.seq ?_
        refine Wp.region ?_
        refine WpL.step (Stp.rd (Rdo.assign rfl) rfl ?_)
        refine WpL.nil ?_
        refine Thn.n ?_
        refine Wp.seq ?_
        refine Wp.seq ?_
        refine Wp.region ?_
        refine WpL.step (Stp.rd (Rdo.fieldAddr0 rfl) rfl ?_)
        refine WpL.step (Stp.rd (Rdo.load rfl (Lds.one rfl)) rfl ?_)
        refine WpL.nil ?_
        refine Thn.n ?_
        refine Wp.condK rfl (by first | rfl | assumption | (simp only [decide_eq_true_eq, decide_eq_false_iff_not, Bool.not_eq_true', Bool.not_eq_false', List.length_cons, List.length_nil]; first | assumption | omega) | (simp <;> done) | (simp <;> omega)) ?_
        refine Wp.region ?_
        refine WpL.step (Stp.rd (Rdo.assign rfl) rfl ?_)
        refine WpL.nil ?_
        refine Thn.n ?_
        refine Wp.seq ?_
        refine Wp.block ?_
        refine Wp.seq ?_
        refine Wp.draw (by kernel_rfl) ?_
        refine WpR.take (i := 0) rfl (by kernel_rfl) (by kernel_rfl) (by kernel_rfl) (Rdo.move rfl) rfl ?_
        refine WpR.take (i := 1) rfl (by kernel_rfl) (by kernel_rfl) (by kernel_rfl) (Rdo.nilCheck rfl) rfl ?_
        refine WpR.take (i := 2) rfl (by kernel_rfl) (by kernel_rfl) (by kernel_rfl) (Rdo.fieldAddr0 rfl) rfl ?_
        refine WpR.one (i := 3) rfl (by kernel_rfl) (Stp.rd (Rdo.load rfl (Lds.next (Lds.next (Lds.next (Lds.one rfl))))) rfl ?_)
        refine WpR.take (i := 4) rfl (by kernel_rfl) (by kernel_rfl) (by kernel_rfl) (Rdo.move rfl) rfl ?_
        refine WpR.tF 16 rfl (by first | rfl | assumption | (simp only [decide_eq_true_eq, decide_eq_false_iff_not, Bool.not_eq_true', Bool.not_eq_false', List.length_cons, List.length_nil]; first | assumption | omega) | (simp <;> done) | (simp <;> omega)) ?_
        refine WpR.pass (i := 5) rfl rfl rfl rfl (by kernel_rfl) (by kernel_rfl) (by kernel_rfl) rfl ?_
        refine WpR.pass (i := 6) rfl rfl rfl rfl (by kernel_rfl) (by kernel_rfl) (by kernel_rfl) rfl ?_
        refine WpR.pass (i := 7) rfl rfl rfl rfl (by kernel_rfl) (by kernel_rfl) (by kernel_rfl) rfl ?_
        refine WpR.pass (i := 8) rfl rfl rfl rfl (by kernel_rfl) (by kernel_rfl) (by kernel_rfl) rfl ?_
        refine WpR.pass (i := 9) rfl rfl rfl rfl (by kernel_rfl) (by kernel_rfl) (by kernel_rfl) rfl ?_
        refine WpR.pass (i := 10) rfl rfl rfl rfl (by kernel_rfl) (by kernel_rfl) (by kernel_rfl) rfl ?_
        refine WpR.pass (i := 11) rfl rfl rfl rfl (by kernel_rfl) (by kernel_rfl) (by kernel_rfl) rfl ?_
        refine WpR.take (i := 12) rfl (by kernel_rfl) (by kernel_rfl) (by kernel_rfl) (Rdo.pick_f rfl rfl) rfl ?_
        refine WpR.take (i := 13) rfl (by kernel_rfl) (by kernel_rfl) (by kernel_rfl) (Rdo.assign rfl) rfl ?_
        refine WpR.done (by kernel_rfl) ?_
        refine Thn.n ?_
        refine Wp.condF rfl ?_
        refine Wp.seq ?_
        refine Wp.draw (by kernel_rfl) ?_
        refine WpR.take (i := 0) rfl (by kernel_rfl) (by kernel_rfl) (by kernel_rfl) (Rdo.move rfl) rfl ?_
        refine WpR.take (i := 1) rfl (by kernel_rfl) (by kernel_rfl) (by kernel_rfl) (Rdo.nilCheck rfl) rfl ?_
        refine WpR.take (i := 2) rfl (by kernel_rfl) (by kernel_rfl) (by kernel_rfl) (Rdo.fieldAddr0 rfl) rfl ?_
        refine WpR.take (i := 4) rfl (by kernel_rfl) (by kernel_rfl) (by kernel_rfl) (Rdo.move rfl) rfl ?_
        refine WpR.take (i := 5) rfl (by kernel_rfl) (by kernel_rfl) (by kernel_rfl) (Rdo.fieldAddr0 rfl) rfl ?_
        refine WpR.take (i := 7) rfl (by kernel_rfl) (by kernel_rfl) (by kernel_rfl) (Rdo.fieldAddr0 rfl) rfl ?_
        refine WpR.take (i := 9) rfl (by kernel_rfl) (by kernel_rfl) (by kernel_rfl) (Rdo.fieldAddr0 rfl) rfl ?_
        refine WpR.load (i := 6) [3, 8, 10] rfl (by kernel_rfl) (by kernel_rfl) (by kernel_rfl) (by kernel_rfl) (by kernel_rfl) rfl Tk.rfl_ (Harm.rd rfl (Rdo.load rfl (Lds.next (Lds.one rfl))) (Harm.rd rfl (Rdo.load rfl (Lds.one rfl)) (Harm.rd rfl (Rdo.load rfl (Lds.one rfl)) Harm.nil))) (Rdo.load rfl (Lds.one rfl)) rfl ?_
        refine WpR.load (i := 8) [3, 10] rfl (by kernel_rfl) (by kernel_rfl) (by kernel_rfl) (by kernel_rfl) (by kernel_rfl) rfl Tk.rfl_ (Harm.rd rfl (Rdo.load rfl (Lds.next (Lds.one rfl))) (Harm.rd rfl (Rdo.load rfl (Lds.one rfl)) Harm.nil)) (Rdo.load rfl (Lds.one rfl)) rfl ?_
        refine WpR.load (i := 10) [3] rfl (by kernel_rfl) (by kernel_rfl) (by kernel_rfl) (by kernel_rfl) (by kernel_rfl) rfl Tk.rfl_ (Harm.rd rfl (Rdo.load rfl (Lds.next (Lds.one rfl))) Harm.nil) (Rdo.load rfl (Lds.one rfl)) rfl ?_
        refine WpR.take (i := 11) rfl (by kernel_rfl) (by kernel_rfl) (by kernel_rfl) (Rdo.bld rfl (BldL.cons rfl (VC.i _ _) (by first | rfl | assumption | (simp <;> done)) (by repeat (first | exact LPut.nil _ | apply LPut.here | apply LPut.next)) (BldL.cons rfl (VC.i _ _) (by first | rfl | assumption | (simp <;> done)) (by repeat (first | exact LPut.nil _ | apply LPut.here | apply LPut.next)) (BldL.cons rfl (VC.i _ _) (by first | rfl | assumption | (simp <;> done)) (by repeat (first | exact LPut.nil _ | apply LPut.here | apply LPut.next)) (BldL.cons rfl (VC.i _ _) (by first | rfl | assumption | (simp <;> done)) (by repeat (first | exact LPut.nil _ | apply LPut.here | apply LPut.next)) (BldL.nil _)))))) rfl ?_
        refine WpR.one (i := 3) rfl (by kernel_rfl) (Stp.rd (Rdo.load rfl (Lds.next (Lds.one rfl))) rfl ?_)
        refine WpR.one (i := 12) rfl (by kernel_rfl) (Stp.rd (Rdo.lookup1 (enc := markV) (k := (⟨2, o.producer, o.epoch, o.txn⟩ : Mark)) rfl rfl (Mps.next (Mps.next Mps.here))) rfl ?_)
        rw [hv]
        refine WpR.take (i := 13) rfl (by kernel_rfl) (by kernel_rfl) (by kernel_rfl) (Rdo.assign rfl) rfl ?_
        refine WpR.done (by kernel_rfl) ?_
        refine Thn.n ?_
        refine Wp.condF rfl ?_
        refine Wp.skip ?_
        refine Blk.n ?_
        refine Thn.n ?_
        refine Wp.seq ?_
        refine Wp.region ?_
        refine WpL.step (Stp.rd (Rdo.assign rfl) rfl ?_)
        refine WpL.step (Stp.rd (Rdo.assign rfl) rfl ?_)
        refine WpL.nil ?_
        refine Thn.n ?_
        refine Wp.ret ?_
        refine Ret.now (ResV.tmp rfl (ResV.tmp rfl ResV.nil)) (Gh.tk (by repeat (first | exact Tk.nil | apply Tk.cons (by repeat (first | exact Pk.here | apply Pk.next))))) ⟨rfl, rfl⟩
      | false =>
        rw [hc] at hv
        simp only [kindOf, if_true, Bool.false_eq_true, if_false] at hv
        refine Trip.of_body Tryd.func40 rfl Tryd.ntmps40 Tryd.results40 rfl ?_
        refine Wp.seq ?_
        refine Wp.region ?_
        (refine WpL.step (Stp.boxV rfl (VC.ag _) rfl ?_); intro nb2)
        refine WpL.step (Stp.rd (Rdo.assign rfl) rfl ?_)
        refine WpL.step (Stp.rd (Rdo.assign rfl) rfl ?_)
        refine WpL.nil ?_
        refine Thn.n ?_
        refine Wp.seq ?_
        refine Wp.region ?_
        refine WpL.step (Stp.rd (Rdo.assign rfl) rfl ?_)
        refine WpL.nil ?_
        refine Thn.n ?_
        refine Wp.seq ?_
        refine Wp.seq ?_
        refine Wp.region ?_
        refine WpL.step (Stp.rd (Rdo.fieldAddr0 rfl) rfl ?_)
        refine WpL.step (Stp.rd (Rdo.load rfl (Lds.one rfl)) rfl ?_)
        refine WpL.nil ?_
        refine Thn.n ?_
        refine Wp.condL rfl (by first | rfl | assumption | (simp only [decide_eq_true_eq, decide_eq_false_iff_not, Bool.not_eq_true', Bool.not_eq_false', List.length_cons, List.length_nil]; first | assumption | omega) | (simp <;> done) | (simp <;> omega)) ?_
        refine Wp.skip ?_
        refine Thn.n ?_
        refine Wp.seq ?_
        refine Wp.block ?_
        refine Wp.seq ?_
        refine Wp.draw (by kernel_rfl) ?_
        refine WpR.take (i := 0) rfl (by kernel_rfl) (by kernel_rfl) (by kernel_rfl) (Rdo.move rfl) rfl ?_
        refine WpR.take (i := 1) rfl (by kernel_rfl) (by kernel_rfl) (by kernel_rfl) (Rdo.nilCheck rfl) rfl ?_
        refine WpR.take (i := 2) rfl (by kernel_rfl) (by kernel_rfl) (by kernel_rfl) (Rdo.fieldAddr0 rfl) rfl ?_
        refine WpR.one (i := 3) rfl (by kernel_rfl) (Stp.rd (Rdo.load rfl (Lds.next (Lds.next (Lds.next (Lds.one rfl))))) rfl ?_)
        refine WpR.take (i := 4) rfl (by kernel_rfl) (by kernel_rfl) (by kernel_rfl) (Rdo.move rfl) rfl ?_
        refine WpR.tF 16 rfl (by first | rfl | assumption | (simp only [decide_eq_true_eq, decide_eq_false_iff_not, Bool.not_eq_true', Bool.not_eq_false', List.length_cons, List.length_nil]; first | assumption | omega) | (simp <;> done) | (simp <;> omega)) ?_
        refine WpR.pass (i := 5) rfl rfl rfl rfl (by kernel_rfl) (by kernel_rfl) (by kernel_rfl) rfl ?_
        refine WpR.pass (i := 6) rfl rfl rfl rfl (by kernel_rfl) (by kernel_rfl) (by kernel_rfl) rfl ?_
        refine WpR.pass (i := 7) rfl rfl rfl rfl (by kernel_rfl) (by kernel_rfl) (by kernel_rfl) rfl ?_
        refine WpR.pass (i := 8) rfl rfl rfl rfl (by kernel_rfl) (by kernel_rfl) (by kernel_rfl) rfl ?_
        refine WpR.pass (i := 9) rfl rfl rfl rfl (by kernel_rfl) (by kernel_rfl) (by kernel_rfl) rfl ?_
        refine WpR.pass (i := 10) rfl rfl rfl rfl (by kernel_rfl) (by kernel_rfl) (by kernel_rfl) rfl ?_
        refine WpR.pass (i := 11) rfl rfl rfl rfl (by kernel_rfl) (by kernel_rfl) (by kernel_rfl) rfl ?_
        refine WpR.take (i := 12) rfl (by kernel_rfl) (by kernel_rfl) (by kernel_rfl) (Rdo.pick_f rfl rfl) rfl ?_
        refine WpR.take (i := 13) rfl (by kernel_rfl) (by kernel_rfl) (by kernel_rfl) (Rdo.assign rfl) rfl ?_
        refine WpR.done (by kernel_rfl) ?_
        refine Thn.n ?_
        refine Wp.condF rfl ?_
        refine Wp.seq ?_
        refine Wp.draw (by kernel_rfl) ?_
        refine WpR.take (i := 0) rfl (by kernel_rfl) (by kernel_rfl) (by kernel_rfl) (Rdo.move rfl) rfl ?_
        refine WpR.take (i := 1) rfl (by kernel_rfl) (by kernel_rfl) (by kernel_rfl) (Rdo.nilCheck rfl) rfl ?_
        refine WpR.take (i := 2) rfl (by kernel_rfl) (by kernel_rfl) (by kernel_rfl) (Rdo.fieldAddr0 rfl) rfl ?_
        refine WpR.take (i := 4) rfl (by kernel_rfl) (by kernel_rfl) (by kernel_rfl) (Rdo.move rfl) rfl ?_
        refine WpR.take (i := 5) rfl (by kernel_rfl) (by kernel_rfl) (by kernel_rfl) (Rdo.fieldAddr0 rfl) rfl ?_
        refine WpR.take (i := 7) rfl (by kernel_rfl) (by kernel_rfl) (by kernel_rfl) (Rdo.fieldAddr0 rfl) rfl ?_
        refine WpR.take (i := 9) rfl (by kernel_rfl) (by kernel_rfl) (by kernel_rfl) (Rdo.fieldAddr0 rfl) rfl ?_
        refine WpR.load (i := 6) [3, 8, 10] rfl (by kernel_rfl) (by kernel_rfl) (by kernel_rfl) (by kernel_rfl) (by kernel_rfl) rfl Tk.rfl_ (Harm.rd rfl (Rdo.load rfl (Lds.next (Lds.one rfl))) (Harm.rd rfl (Rdo.load rfl (Lds.one rfl)) (Harm.rd rfl (Rdo.load rfl (Lds.one rfl)) Harm.nil))) (Rdo.load rfl (Lds.one rfl)) rfl ?_
        refine WpR.load (i := 8) [3, 10] rfl (by kernel_rfl) (by kernel_rfl) (by kernel_rfl) (by kernel_rfl) (by kernel_rfl) rfl Tk.rfl_ (Harm.rd rfl (Rdo.load rfl (Lds.next (Lds.one rfl))) (Harm.rd rfl (Rdo.load rfl (Lds.one rfl)) Harm.nil)) (Rdo.load rfl (Lds.one rfl)) rfl ?_
        refine WpR.load (i := 10) [3] rfl (by kernel_rfl) (by kernel_rfl) (by kernel_rfl) (by kernel_rfl) (by kernel_rfl) rfl Tk.rfl_ (Harm.rd rfl (Rdo.load rfl (Lds.next (Lds.one rfl))) Harm.nil) (Rdo.load rfl (Lds.one rfl)) rfl ?_
        refine WpR.take (i := 11) rfl (by kernel_rfl) (by kernel_rfl) (by kernel_rfl) (Rdo.bld rfl (BldL.cons rfl (VC.i _ _) (by first | rfl | assumption | (simp <;> done)) (by repeat (first | exact LPut.nil _ | apply LPut.here | apply LPut.next)) (BldL.cons rfl (VC.i _ _) (by first | rfl | assumption | (simp <;> done)) (by repeat (first | exact LPut.nil _ | apply LPut.here | apply LPut.next)) (BldL.cons rfl (VC.i _ _) (by first | rfl | assumption | (simp <;> done)) (by repeat (first | exact LPut.nil _ | apply LPut.here | apply LPut.next)) (BldL.cons rfl (VC.i _ _) (by first | rfl | assumption | (simp <;> done)) (by repeat (first | exact LPut.nil _ | apply LPut.here | apply LPut.next)) (BldL.nil _)))))) rfl ?_
        refine WpR.one (i := 3) rfl (by kernel_rfl) (Stp.rd (Rdo.load rfl (Lds.next (Lds.one rfl))) rfl ?_)
        refine WpR.one (i := 12) rfl (by kernel_rfl) (Stp.rd (Rdo.lookup1 (enc := markV) (k := (⟨3, o.producer, o.epoch, o.txn⟩ : Mark)) rfl rfl (Mps.next (Mps.next Mps.here))) rfl ?_)
        rw [hv]
        refine WpR.take (i := 13) rfl (by kernel_rfl) (by kernel_rfl) (by kernel_rfl) (Rdo.assign rfl) rfl ?_
        refine WpR.done (by kernel_rfl) ?_
        refine Thn.n ?_
        refine Wp.condF rfl ?_
        refine Wp.skip ?_
        refine Blk.n ?_
        refine Thn.n ?_
        refine Wp.seq ?_
        refine Wp.region ?_
        refine WpL.step (Stp.rd (Rdo.assign rfl) rfl ?_)
        refine WpL.step (Stp.rd (Rdo.assign rfl) rfl ?_)
        refine WpL.nil ?_
        refine Thn.n ?_
        refine Wp.ret ?_
        refine Ret.now (ResV.tmp rfl (ResV.tmp rfl ResV.nil)) (Gh.tk (by repeat (first | exact Tk.nil | apply Tk.cons (by repeat (first | exact Pk.here | apply Pk.next))))) ⟨rfl, rfl⟩
end Go.Proofs.YtccgdnocldmjeaaDoor
