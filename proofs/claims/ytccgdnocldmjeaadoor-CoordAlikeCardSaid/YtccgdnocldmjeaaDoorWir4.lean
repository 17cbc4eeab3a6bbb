/- The wire: a mark as bytes. -/
import Derived.Test.YtccgdnocldmjeaaDoorWir3
namespace Go.Proofs.YtccgdnocldmjeaaDoor
open Go
set_option maxHeartbeats 4000000
set_option linter.unusedSimpArgs false
set_option linter.unusedVariables false
set_option maxRecDepth 20000

/-- A mark that may be. -/
def okMark (m : Mark) : Prop := (1 ≤ m.kind ∧ m.kind ≤ 3) ∧ ((0 ≤ m.producer ∧ m.producer ≤ 7) ∧ (0 ≤ m.epoch ∧ m.epoch ≤ 100) ∧ (0 ≤ m.txn ∧ m.txn ≤ 100)) ∧ (¬ m.kind = 1 ∨ m.txn = 0)
instance (m : Mark) : Decidable (okMark m) := by unfold okMark; infer_instance
theorem isMark_yes (m : Mark) (h : okMark m) : Trip Tryd.prog 44 [.agg (markC m).toArray] [] (fun r l => r = vb true ∧ l = []) := by
  obtain ⟨h1, h2, h3⟩ := h
  have s1 := isIn_ok m.kind 1 3
  rw [decide_eq_true h1] at s1
  have s2 := isProducer_ok m.producer m.epoch m.txn
  rw [decide_eq_true h2] at s2
  by_cases hk : m.kind = 1
  · have ht : m.txn = 0 := h3.resolve_left (fun h => h hk)
    refine Trip.of_body Tryd.func44 rfl Tryd.ntmps44 Tryd.results44 rfl ?_
    refine Wp.seq ?_
    refine Wp.region ?_
    (refine WpL.step (Stp.boxV rfl (VC.ag _) rfl ?_); intro nb2)
    refine WpL.step (Stp.rd (Rdo.assign rfl) rfl ?_)
    refine WpL.nil ?_
    refine Thn.n ?_
    refine Wp.seq ?_
    refine Wp.region ?_
    refine WpL.step (Stp.rd (Rdo.fieldAddr0 rfl) rfl ?_)
    refine WpL.step (Stp.rd (Rdo.load rfl (Lds.one rfl)) rfl ?_)
    refine WpL.step (Stp.call (s1) (by kernel_rfl) rfl (by repeat (first | exact Tk.nil | apply Tk.cons (by repeat (first | exact Pk.here | apply Pk.next)))) rfl ?_)
    rintro _ _ ⟨rfl, rfl⟩
    refine WpL.lst (by simp only [List.cons_append, List.nil_append]; exact rfl) ?_
    refine WpL.step (Stp.rd (Rdo.move rfl) rfl ?_)
    refine WpL.want rfl rfl rfl (Stp.rd (Rdo.fieldAddr0 rfl) rfl ?_)
    refine WpL.want rfl rfl rfl (Stp.rd (Rdo.load rfl (Lds.one rfl)) rfl ?_)
    refine WpL.want rfl rfl rfl (Stp.rd (Rdo.fieldAddr0 rfl) rfl ?_)
    refine WpL.want rfl rfl rfl (Stp.rd (Rdo.load rfl (Lds.one rfl)) rfl ?_)
    refine WpL.want rfl rfl rfl (Stp.rd (Rdo.fieldAddr0 rfl) rfl ?_)
    refine WpL.want rfl rfl rfl (Stp.rd (Rdo.load rfl (Lds.one rfl)) rfl ?_)
    refine WpL.want rfl rfl rfl (Stp.call (s2) (by kernel_rfl) rfl (by repeat (first | exact Tk.nil | apply Tk.cons (by repeat (first | exact Pk.here | apply Pk.next)))) rfl ?_)
    rintro _ _ ⟨rfl, rfl⟩
    refine WpL.lst (by simp only [List.cons_append, List.nil_append]; exact rfl) ?_
    refine WpL.step (Stp.rd (Rdo.pick_t rfl rfl) rfl ?_)
    refine WpL.step (Stp.rd (Rdo.move rfl) rfl ?_)
    refine WpL.want rfl rfl rfl (Stp.rd (Rdo.fieldAddr0 rfl) rfl ?_)
    refine WpL.want rfl rfl rfl (Stp.rd (Rdo.load rfl (Lds.one rfl)) rfl ?_)
    refine WpL.want rfl rfl rfl (Stp.rd (Rdo.nei rfl rfl) rfl ?_)
    refine WpL.want rfl rfl rfl (Stp.rd (Rdo.move rfl) rfl ?_)
    refine WpL.gF rfl rfl (by first | rfl | assumption | (simp only [decide_eq_true_eq, decide_eq_false_iff_not, Bool.not_eq_true', Bool.not_eq_false', List.length_cons, List.length_nil]; first | assumption | omega) | (simp <;> done) | (simp <;> omega)) ?_
    refine WpL.want rfl rfl rfl (Stp.rd (Rdo.fieldAddr0 rfl) rfl ?_)
    refine WpL.want rfl rfl rfl (Stp.rd (Rdo.load rfl (Lds.one rfl)) rfl ?_)
    refine WpL.want rfl rfl rfl (Stp.rd (Rdo.eqi rfl rfl) rfl ?_)
    refine WpL.want rfl rfl rfl (Stp.rd (Rdo.pick_f rfl rfl) rfl ?_)
    refine WpL.step (Stp.rd (Rdo.pick_t rfl rfl) rfl ?_)
    refine WpL.step (Stp.rd (Rdo.assign rfl) rfl ?_)
    refine WpL.nil ?_
    refine Thn.n ?_
    refine Wp.ret ?_
    refine Ret.now (ResV.tmp rfl ResV.nil) (Gh.tk (by repeat (first | exact Tk.nil | apply Tk.cons (by repeat (first | exact Pk.here | apply Pk.next))))) ⟨(by first | rfl | (simp [packed] <;> done) | (simp_all [packed] <;> done)), rfl⟩
  · refine Trip.of_body Tryd.func44 rfl Tryd.ntmps44 Tryd.results44 rfl ?_
    refine Wp.seq ?_
    refine Wp.region ?_
    (refine WpL.step (Stp.boxV rfl (VC.ag _) rfl ?_); intro nb2)
    refine WpL.step (Stp.rd (Rdo.assign rfl) rfl ?_)
    refine WpL.nil ?_
    refine Thn.n ?_
    refine Wp.seq ?_
    refine Wp.region ?_
    refine WpL.step (Stp.rd (Rdo.fieldAddr0 rfl) rfl ?_)
    refine WpL.step (Stp.rd (Rdo.load rfl (Lds.one rfl)) rfl ?_)
    refine WpL.step (Stp.call (s1) (by kernel_rfl) rfl (by repeat (first | exact Tk.nil | apply Tk.cons (by repeat (first | exact Pk.here | apply Pk.next)))) rfl ?_)
    rintro _ _ ⟨rfl, rfl⟩
    refine WpL.lst (by simp only [List.cons_append, List.nil_append]; exact rfl) ?_
    refine WpL.step (Stp.rd (Rdo.move rfl) rfl ?_)
    refine WpL.want rfl rfl rfl (Stp.rd (Rdo.fieldAddr0 rfl) rfl ?_)
    refine WpL.want rfl rfl rfl (Stp.rd (Rdo.load rfl (Lds.one rfl)) rfl ?_)
    refine WpL.want rfl rfl rfl (Stp.rd (Rdo.fieldAddr0 rfl) rfl ?_)
    refine WpL.want rfl rfl rfl (Stp.rd (Rdo.load rfl (Lds.one rfl)) rfl ?_)
    refine WpL.want rfl rfl rfl (Stp.rd (Rdo.fieldAddr0 rfl) rfl ?_)
    refine WpL.want rfl rfl rfl (Stp.rd (Rdo.load rfl (Lds.one rfl)) rfl ?_)
    refine WpL.want rfl rfl rfl (Stp.call (s2) (by kernel_rfl) rfl (by repeat (first | exact Tk.nil | apply Tk.cons (by repeat (first | exact Pk.here | apply Pk.next)))) rfl ?_)
    rintro _ _ ⟨rfl, rfl⟩
    refine WpL.lst (by simp only [List.cons_append, List.nil_append]; exact rfl) ?_
    refine WpL.step (Stp.rd (Rdo.pick_t rfl rfl) rfl ?_)
    refine WpL.step (Stp.rd (Rdo.move rfl) rfl ?_)
    refine WpL.want rfl rfl rfl (Stp.rd (Rdo.fieldAddr0 rfl) rfl ?_)
    refine WpL.want rfl rfl rfl (Stp.rd (Rdo.load rfl (Lds.one rfl)) rfl ?_)
    refine WpL.want rfl rfl rfl (Stp.rd (Rdo.nei rfl rfl) rfl ?_)
    refine WpL.want rfl rfl rfl (Stp.rd (Rdo.move rfl) rfl ?_)
    refine WpL.gT rfl rfl (by first | rfl | assumption | (simp only [decide_eq_true_eq, decide_eq_false_iff_not, Bool.not_eq_true', Bool.not_eq_false', List.length_cons, List.length_nil]; first | assumption | omega) | (simp <;> done) | (simp <;> omega)) ?_
    refine WpL.pass rfl rfl rfl rfl ?_
    refine WpL.pass rfl rfl rfl rfl ?_
    refine WpL.pass rfl rfl rfl rfl ?_
    refine WpL.want rfl rfl rfl (Stp.rd (Rdo.pick_t rfl rfl) rfl ?_)
    refine WpL.step (Stp.rd (Rdo.pick_t rfl rfl) rfl ?_)
    refine WpL.step (Stp.rd (Rdo.assign rfl) rfl ?_)
    refine WpL.nil ?_
    refine Thn.n ?_
    refine Wp.ret ?_
    refine Ret.now (ResV.tmp rfl ResV.nil) (Gh.tk (by repeat (first | exact Tk.nil | apply Tk.cons (by repeat (first | exact Pk.here | apply Pk.next))))) ⟨rfl, rfl⟩
theorem isMark_no (m : Mark) (h : ¬ okMark m) : Trip Tryd.prog 44 [.agg (markC m).toArray] [] (fun r l => r = vb false ∧ l = []) := by
  have s1 := isIn_ok m.kind 1 3
  have s2 := isProducer_ok m.producer m.epoch m.txn
  by_cases h1 : 1 ≤ m.kind ∧ m.kind ≤ 3
  · rw [decide_eq_true h1] at s1
    by_cases h2 : (0 ≤ m.producer ∧ m.producer ≤ 7) ∧ (0 ≤ m.epoch ∧ m.epoch ≤ 100) ∧ (0 ≤ m.txn ∧ m.txn ≤ 100)
    · rw [decide_eq_true h2] at s2
      have h3 : m.kind = 1 ∧ ¬ m.txn = 0 := by
        refine ⟨Decidable.byContradiction fun hk => h ⟨h1, h2, .inl hk⟩, fun ht => h ⟨h1, h2, .inr ht⟩⟩
      obtain ⟨hk, ht⟩ := h3
      refine Trip.of_body Tryd.func44 rfl Tryd.ntmps44 Tryd.results44 rfl ?_
      refine Wp.seq ?_
      refine Wp.region ?_
      (refine WpL.step (Stp.boxV rfl (VC.ag _) rfl ?_); intro nb2)
      refine WpL.step (Stp.rd (Rdo.assign rfl) rfl ?_)
      refine WpL.nil ?_
      refine Thn.n ?_
      refine Wp.seq ?_
      refine Wp.region ?_
      refine WpL.step (Stp.rd (Rdo.fieldAddr0 rfl) rfl ?_)
      refine WpL.step (Stp.rd (Rdo.load rfl (Lds.one rfl)) rfl ?_)
      refine WpL.step (Stp.call (s1) (by kernel_rfl) rfl (by repeat (first | exact Tk.nil | apply Tk.cons (by repeat (first | exact Pk.here | apply Pk.next)))) rfl ?_)
      rintro _ _ ⟨rfl, rfl⟩
      refine WpL.lst (by simp only [List.cons_append, List.nil_append]; exact rfl) ?_
      refine WpL.step (Stp.rd (Rdo.move rfl) rfl ?_)
      refine WpL.want rfl rfl rfl (Stp.rd (Rdo.fieldAddr0 rfl) rfl ?_)
      refine WpL.want rfl rfl rfl (Stp.rd (Rdo.load rfl (Lds.one rfl)) rfl ?_)
      refine WpL.want rfl rfl rfl (Stp.rd (Rdo.fieldAddr0 rfl) rfl ?_)
      refine WpL.want rfl rfl rfl (Stp.rd (Rdo.load rfl (Lds.one rfl)) rfl ?_)
      refine WpL.want rfl rfl rfl (Stp.rd (Rdo.fieldAddr0 rfl) rfl ?_)
      refine WpL.want rfl rfl rfl (Stp.rd (Rdo.load rfl (Lds.one rfl)) rfl ?_)
      refine WpL.want rfl rfl rfl (Stp.call (s2) (by kernel_rfl) rfl (by repeat (first | exact Tk.nil | apply Tk.cons (by repeat (first | exact Pk.here | apply Pk.next)))) rfl ?_)
      rintro _ _ ⟨rfl, rfl⟩
      refine WpL.lst (by simp only [List.cons_append, List.nil_append]; exact rfl) ?_
      refine WpL.step (Stp.rd (Rdo.pick_t rfl rfl) rfl ?_)
      refine WpL.step (Stp.rd (Rdo.move rfl) rfl ?_)
      refine WpL.want rfl rfl rfl (Stp.rd (Rdo.fieldAddr0 rfl) rfl ?_)
      refine WpL.want rfl rfl rfl (Stp.rd (Rdo.load rfl (Lds.one rfl)) rfl ?_)
      refine WpL.want rfl rfl rfl (Stp.rd (Rdo.nei rfl rfl) rfl ?_)
      refine WpL.want rfl rfl rfl (Stp.rd (Rdo.move rfl) rfl ?_)
      refine WpL.gF rfl rfl (by first | rfl | assumption | (simp only [decide_eq_true_eq, decide_eq_false_iff_not, Bool.not_eq_true', Bool.not_eq_false', List.length_cons, List.length_nil]; first | assumption | omega) | (simp <;> done) | (simp <;> omega)) ?_
      refine WpL.want rfl rfl rfl (Stp.rd (Rdo.fieldAddr0 rfl) rfl ?_)
      refine WpL.want rfl rfl rfl (Stp.rd (Rdo.load rfl (Lds.one rfl)) rfl ?_)
      refine WpL.want rfl rfl rfl (Stp.rd (Rdo.eqi rfl rfl) rfl ?_)
      refine WpL.want rfl rfl rfl (Stp.rd (Rdo.pick_f rfl rfl) rfl ?_)
      refine WpL.step (Stp.rd (Rdo.pick_t rfl rfl) rfl ?_)
      refine WpL.step (Stp.rd (Rdo.assign rfl) rfl ?_)
      refine WpL.nil ?_
      refine Thn.n ?_
      refine Wp.ret ?_
      refine Ret.now (ResV.tmp rfl ResV.nil) (Gh.tk (by repeat (first | exact Tk.nil | apply Tk.cons (by repeat (first | exact Pk.here | apply Pk.next))))) ⟨(by first | rfl | (simp [packed] <;> done) | (simp_all [packed] <;> done)), rfl⟩
    · rw [decide_eq_false h2] at s2
      refine Trip.of_body Tryd.func44 rfl Tryd.ntmps44 Tryd.results44 rfl ?_
      refine Wp.seq ?_
      refine Wp.region ?_
      (refine WpL.step (Stp.boxV rfl (VC.ag _) rfl ?_); intro nb2)
      refine WpL.step (Stp.rd (Rdo.assign rfl) rfl ?_)
      refine WpL.nil ?_
      refine Thn.n ?_
      refine Wp.seq ?_
      refine Wp.region ?_
      refine WpL.step (Stp.rd (Rdo.fieldAddr0 rfl) rfl ?_)
      refine WpL.step (Stp.rd (Rdo.load rfl (Lds.one rfl)) rfl ?_)
      refine WpL.step (Stp.call (s1) (by kernel_rfl) rfl (by repeat (first | exact Tk.nil | apply Tk.cons (by repeat (first | exact Pk.here | apply Pk.next)))) rfl ?_)
      rintro _ _ ⟨rfl, rfl⟩
      refine WpL.lst (by simp only [List.cons_append, List.nil_append]; exact rfl) ?_
      refine WpL.step (Stp.rd (Rdo.move rfl) rfl ?_)
      refine WpL.want rfl rfl rfl (Stp.rd (Rdo.fieldAddr0 rfl) rfl ?_)
      refine WpL.want rfl rfl rfl (Stp.rd (Rdo.load rfl (Lds.one rfl)) rfl ?_)
      refine WpL.want rfl rfl rfl (Stp.rd (Rdo.fieldAddr0 rfl) rfl ?_)
      refine WpL.want rfl rfl rfl (Stp.rd (Rdo.load rfl (Lds.one rfl)) rfl ?_)
      refine WpL.want rfl rfl rfl (Stp.rd (Rdo.fieldAddr0 rfl) rfl ?_)
      refine WpL.want rfl rfl rfl (Stp.rd (Rdo.load rfl (Lds.one rfl)) rfl ?_)
      refine WpL.want rfl rfl rfl (Stp.call (s2) (by kernel_rfl) rfl (by repeat (first | exact Tk.nil | apply Tk.cons (by repeat (first | exact Pk.here | apply Pk.next)))) rfl ?_)
      rintro _ _ ⟨rfl, rfl⟩
      refine WpL.lst (by simp only [List.cons_append, List.nil_append]; exact rfl) ?_
      refine WpL.step (Stp.rd (Rdo.pick_t rfl rfl) rfl ?_)
      refine WpL.step (Stp.rd (Rdo.move rfl) rfl ?_)
      refine WpL.pass rfl rfl rfl rfl ?_
      refine WpL.pass rfl rfl rfl rfl ?_
      refine WpL.pass rfl rfl rfl rfl ?_
      refine WpL.pass rfl rfl rfl rfl ?_
      refine WpL.passU rfl rfl rfl ?_
      refine WpL.passU rfl rfl rfl ?_
      refine WpL.passU rfl rfl rfl ?_
      refine WpL.pass rfl rfl rfl rfl ?_
      refine WpL.step (Stp.rd (Rdo.pick_f rfl rfl) rfl ?_)
      refine WpL.step (Stp.rd (Rdo.assign rfl) rfl ?_)
      refine WpL.nil ?_
      refine Thn.n ?_
      refine Wp.ret ?_
      refine Ret.now (ResV.tmp rfl ResV.nil) (Gh.tk (by repeat (first | exact Tk.nil | apply Tk.cons (by repeat (first | exact Pk.here | apply Pk.next))))) ⟨rfl, rfl⟩
  · rw [decide_eq_false h1] at s1
    refine Trip.of_body Tryd.func44 rfl Tryd.ntmps44 Tryd.results44 rfl ?_
    refine Wp.seq ?_
    refine Wp.region ?_
    (refine WpL.step (Stp.boxV rfl (VC.ag _) rfl ?_); intro nb2)
    refine WpL.step (Stp.rd (Rdo.assign rfl) rfl ?_)
    refine WpL.nil ?_
    refine Thn.n ?_
    refine Wp.seq ?_
    refine Wp.region ?_
    refine WpL.step (Stp.rd (Rdo.fieldAddr0 rfl) rfl ?_)
    refine WpL.step (Stp.rd (Rdo.load rfl (Lds.one rfl)) rfl ?_)
    refine WpL.step (Stp.call (s1) (by kernel_rfl) rfl (by repeat (first | exact Tk.nil | apply Tk.cons (by repeat (first | exact Pk.here | apply Pk.next)))) rfl ?_)
    rintro _ _ ⟨rfl, rfl⟩
    refine WpL.lst (by simp only [List.cons_append, List.nil_append]; exact rfl) ?_
    refine WpL.step (Stp.rd (Rdo.move rfl) rfl ?_)
    refine WpL.pass rfl rfl rfl rfl ?_
    refine WpL.pass rfl rfl rfl rfl ?_
    refine WpL.pass rfl rfl rfl rfl ?_
    refine WpL.pass rfl rfl rfl rfl ?_
    refine WpL.pass rfl rfl rfl rfl ?_
    refine WpL.pass rfl rfl rfl rfl ?_
    refine WpL.pass rfl rfl rfl rfl ?_
    refine WpL.step (Stp.rd (Rdo.pick_f rfl rfl) rfl ?_)
    refine WpL.step (Stp.rd (Rdo.move rfl) rfl ?_)
    refine WpL.pass rfl rfl rfl rfl ?_
    refine WpL.pass rfl rfl rfl rfl ?_
    refine WpL.pass rfl rfl rfl rfl ?_
    refine WpL.pass rfl rfl rfl rfl ?_
    refine WpL.passU rfl rfl rfl ?_
    refine WpL.passU rfl rfl rfl ?_
    refine WpL.passU rfl rfl rfl ?_
    refine WpL.pass rfl rfl rfl rfl ?_
    refine WpL.step (Stp.rd (Rdo.pick_f rfl rfl) rfl ?_)
    refine WpL.step (Stp.rd (Rdo.assign rfl) rfl ?_)
    refine WpL.nil ?_
    refine Thn.n ?_
    refine Wp.ret ?_
    refine Ret.now (ResV.tmp rfl ResV.nil) (Gh.tk (by repeat (first | exact Tk.nil | apply Tk.cons (by repeat (first | exact Pk.here | apply Pk.next))))) ⟨rfl, rfl⟩
/-- A mark's bytes; none, where it may not be. -/
def markB (m : Mark) : List UInt8 := if okMark m then numsB [3, m.kind, m.producer, m.epoch, m.txn] else []
theorem markB_len (m : Mark) : (markB m).length ≤ 45 := by
  unfold markB
  split
  · have := numsB_len [3, m.kind, m.producer, m.epoch, m.txn]
    simpa using this
  · simp
theorem encMark_ok (m : Mark) : Trip Tryd.prog 30 [.agg (markC m).toArray] [] (fun r l => ∃ v e, r = .tuple #[v, vi e] ∧ l = [fz (fun g => RdBytes g v (markB m))]) := by
  by_cases h : okMark m
  · have s1 := isMark_yes m h
    have hB : markB m = numsB [3, m.kind, m.producer, m.epoch, m.txn] := by unfold markB; rw [if_pos h]
    have hlen := markB_len m
    rw [hB] at hlen ⊢
    refine Trip.of_body Tryd.func30 rfl Tryd.ntmps30 Tryd.results30 rfl ?_
    refine Wp.seq ?_
    refine Wp.region ?_
    (refine WpL.step (Stp.boxV rfl (VC.ag _) rfl ?_); intro nb2)
    refine WpL.step (Stp.rd (Rdo.assign rfl) rfl ?_)
    refine WpL.step (Stp.rd (Rdo.assign rfl) rfl ?_)
    refine WpL.nil ?_
    refine Thn.n ?_
    refine Wp.seq ?_
    refine Wp.seq ?_
    refine Wp.region ?_
    refine WpL.step (Stp.rd (Rdo.load rfl (by apply Lds.all; (first | rfl | assumption | (simp <;> fail)))) rfl ?_)
    refine WpL.step (Stp.call (s1) (by kernel_rfl) rfl (by repeat (first | exact Tk.nil | apply Tk.cons (by repeat (first | exact Pk.here | apply Pk.next)))) rfl ?_)
    rintro _ _ ⟨rfl, rfl⟩
    refine WpL.lst (by simp only [List.cons_append, List.nil_append]; exact rfl) ?_
    refine WpL.step (Stp.rd (Rdo.not rfl) rfl ?_)
    refine WpL.nil ?_
    refine Thn.n ?_
    refine Wp.condF rfl ?_
    refine Wp.skip ?_
    refine Thn.n ?_
    refine Wp.seq ?_
    refine Wp.region ?_
    (refine WpL.step (Stp.alloc rfl ?_); intro nb22)
    refine WpL.nil ?_
    refine Thn.n ?_
    refine Wp.seq ?_
    refine Wp.region ?_
    refine WpL.step (Stp.rd (Rdo.fieldAddr0 rfl) rfl ?_)
    refine WpL.step (Stp.rd (Rdo.load rfl (Lds.next (Lds.one rfl))) rfl ?_)
    refine WpL.step (Stp.rd (Rdo.fieldAddr0 rfl) rfl ?_)
    refine WpL.step (Stp.rd (Rdo.load rfl (Lds.next (Lds.one rfl))) rfl ?_)
    refine WpL.step (Stp.rd (Rdo.fieldAddr0 rfl) rfl ?_)
    refine WpL.step (Stp.rd (Rdo.load rfl (Lds.next (Lds.one rfl))) rfl ?_)
    refine WpL.step (Stp.rd (Rdo.fieldAddr0 rfl) rfl ?_)
    refine WpL.step (Stp.rd (Rdo.load rfl (Lds.next (Lds.one rfl))) rfl ?_)
    (refine WpL.step (Stp.sliceV rfl rfl (VCs.cons (VC.i _ _) (by first | rfl | assumption | (simp <;> done)) (VCs.cons (VC.i _ _) (by first | rfl | assumption | (simp <;> done)) (VCs.cons (VC.i _ _) (by first | rfl | assumption | (simp <;> done)) (VCs.cons (VC.i _ _) (by first | rfl | assumption | (simp <;> done)) (VCs.cons (VC.i _ _) (by first | rfl | assumption | (simp <;> done)) VCs.nil))))) (by simp only [List.cons_append, List.nil_append, List.append_nil]; exact rfl) rfl rfl ?_); intro nb35)
    refine WpL.gh (wr0 (Pk.next Pk.here)) ?_
    have n1 : ∀ nb, Trip Tryd.prog 33 [vp nb22 0, .slice (some ⟨nb, 0, none⟩) 5 5] [wrA nb22 [], cel nb 3 [vi 3, vi m.kind, vi m.producer, vi m.epoch, vi m.txn]] (fun r l => r = .tuple #[] ∧ l = [wrA nb22 (numsB [3, m.kind, m.producer, m.epoch, m.txn])]) := fun nb => nums_ok nb22 nb [] [3, m.kind, m.producer, m.epoch, m.txn] (by simp)
    have n2 := out_ok nb22 (numsB [3, m.kind, m.producer, m.epoch, m.txn]) (by omega)
    refine WpL.step (Stp.call (n1 _) (by kernel_rfl) rfl (by repeat (first | exact Tk.nil | apply Tk.cons (by repeat (first | exact Pk.here | apply Pk.next)))) rfl ?_)
    rintro _ _ ⟨rfl, rfl⟩
    refine WpL.lst (by simp only [List.cons_append, List.nil_append]; exact rfl) ?_
    refine WpL.nil ?_
    refine Thn.n ?_
    refine Wp.seq ?_
    refine Wp.region ?_
    refine WpL.step (Stp.call (n2) (by kernel_rfl) rfl (by repeat (first | exact Tk.nil | apply Tk.cons (by repeat (first | exact Pk.here | apply Pk.next)))) rfl ?_)
    rintro _ _ ⟨v8_0, ⟨v8_1, ⟨rfl, rfl⟩⟩⟩
    refine WpL.lst (by simp only [List.cons_append, List.nil_append]; exact rfl) ?_
    refine WpL.step (Stp.rd (Rdo.assign rfl) rfl ?_)
    refine WpL.step (Stp.rd (Rdo.assign rfl) rfl ?_)
    refine WpL.nil ?_
    refine Thn.n ?_
    refine Wp.ret ?_
    refine Ret.now (ResV.tmp rfl (ResV.tmp rfl ResV.nil)) (Gh.tk (by repeat (first | exact Tk.nil | apply Tk.cons (by repeat (first | exact Pk.here | apply Pk.next))))) ⟨_, ⟨_, ⟨rfl, rfl⟩⟩⟩
  · have s1 := isMark_no m h
    have hB : markB m = [] := by unfold markB; rw [if_neg h]
    rw [hB]
    refine Trip.of_body Tryd.func30 rfl Tryd.ntmps30 Tryd.results30 rfl ?_
    refine Wp.seq ?_
    refine Wp.region ?_
    (refine WpL.step (Stp.boxV rfl (VC.ag _) rfl ?_); intro nb2)
    refine WpL.step (Stp.rd (Rdo.assign rfl) rfl ?_)
    refine WpL.step (Stp.rd (Rdo.assign rfl) rfl ?_)
    refine WpL.nil ?_
    refine Thn.n ?_
    refine Wp.seq ?_
    refine Wp.seq ?_
    refine Wp.region ?_
    refine WpL.step (Stp.rd (Rdo.load rfl (by apply Lds.all; (first | rfl | assumption | (simp <;> fail)))) rfl ?_)
    refine WpL.step (Stp.call (s1) (by kernel_rfl) rfl (by repeat (first | exact Tk.nil | apply Tk.cons (by repeat (first | exact Pk.here | apply Pk.next)))) rfl ?_)
    rintro _ _ ⟨rfl, rfl⟩
    refine WpL.lst (by simp only [List.cons_append, List.nil_append]; exact rfl) ?_
    refine WpL.step (Stp.rd (Rdo.not rfl) rfl ?_)
    refine WpL.nil ?_
    refine Thn.n ?_
    refine Wp.condT rfl ?_
    refine Wp.seq ?_
    refine Wp.region ?_
    refine WpL.step (Stp.rd (Rdo.assign rfl) rfl ?_)
    refine WpL.step (Stp.rd (Rdo.assign rfl) rfl ?_)
    refine WpL.nil ?_
    refine Thn.n ?_
    refine Wp.ret ?_
    refine Thn.r ?_
    exact Ret.now (by repeat (first | exact ResV.nil | apply ResV.tmp rfl | apply ResV.cell rfl (by repeat (first | exact Lds.one rfl | (apply Lds.all; (first | rfl | assumption | (simp <;> fail))) | exact Lds.ione0 | exact Lds.ione rfl | (apply Lds.iall; (first | rfl | assumption | (simp <;> fail))) | apply Lds.next)))) (Gh.trans (Gh.drop Pk.here) Gh.noBytes) ⟨_, 1, rfl, rfl⟩
end Go.Proofs.YtccgdnocldmjeaaDoor
