/- ClientTold, walked. -/
import Derived.Test.YtaacdekfeljpeaaDoorCl5
namespace Go.Proofs.YtaacdekfeljpeaaDoor
open Go
set_option maxHeartbeats 4000000
set_option linter.unusedSimpArgs false
set_option linter.unusedVariables false
set_option maxRecDepth 20000

/-- So many Inits. -/
def cT (i : Nat) : CliS := { CliS.new 2 [99] with next := i, asked := (i : Int) - 1 }
theorem cT_good (i : Nat) : (cT i).good := ⟨by show (0 : Int) ≤ 2; decide, by show (2 : Int) ≤ 15; decide, by show [99] ≠ []; decide, by show [(99 : UInt8)].length ≤ 8; decide, by show ∀ b ∈ [(99 : UInt8)], small b = true; decide⟩
theorem cT_init (i : Nat) (hi : i < 6) : (cT i).init = (cT (i + 1), ⟨1, 2, i, [99], 0, 0, 0, 0, false⟩, 0) := by
  rw [CliS.init_good (cT i) (cT_good i) (by simp [cT]; omega)]
  simp [cT, CliS.new]

theorem toldLaw_ok (n seq : Int) (r : Rep) : Trip Tryd.prog 3 [vi n, .agg (repC r).toArray, vi seq] [] (fun v l => v = vb true) := by
  refine Trip.of_body Tryd.func3 rfl Tryd.ntmps3 Tryd.results3 rfl ?_
  by_cases h1 : n < 1
  · refine Wp.seq ?_
    refine Wp.region ?_
    (refine WpL.step (Stp.boxV rfl (VC.ag _) rfl ?_); intro nb2)
    refine WpL.step (Stp.rd (Rdo.assign rfl) rfl ?_)
    refine WpL.nil ?_
    refine Thn.n ?_
    refine Wp.seq ?_
    refine Wp.seq ?_
    refine Wp.region ?_
    refine WpL.step (Stp.rd (Rdo.move rfl) rfl ?_)
    refine WpL.step (Stp.rd (Rdo.lti rfl rfl) rfl ?_)
    refine WpL.step (Stp.rd (Rdo.move rfl) rfl ?_)
    refine WpL.gT rfl rfl (by first | rfl | assumption | (simp only [decide_eq_true_eq, decide_eq_false_iff_not, Bool.not_eq_true', Bool.not_eq_false', List.length_cons, List.length_nil]; first | assumption | omega) | (simp <;> done)) ?_
    refine WpL.pass rfl rfl rfl rfl ?_
    refine WpL.pass rfl rfl rfl rfl ?_
    refine WpL.step (Stp.rd (Rdo.pick_t rfl rfl) rfl ?_)
    refine WpL.nil ?_
    refine Thn.n ?_
    refine Wp.condT rfl ?_
    refine Wp.seq ?_
    refine Wp.region ?_
    refine WpL.step (Stp.call (known_ok) (by kernel_rfl) rfl (by repeat (first | exact Tk.nil | apply Tk.cons (by repeat (first | exact Pk.here | apply Pk.next)))) rfl ?_)
    rintro _ _ rfl
    refine WpL.step (Stp.rd (Rdo.assign rfl) rfl ?_)
    refine WpL.nil ?_
    refine Thn.n ?_
    refine Wp.ret ?_
    refine Thn.r ?_
    refine Ret.now (ResV.tmp rfl ResV.nil) (Gh.tk (by repeat (first | exact Tk.nil | apply Tk.cons (by repeat (first | exact Pk.here | apply Pk.next))))) rfl
  by_cases h2 : 5 < n
  · refine Wp.seq ?_
    refine Wp.region ?_
    (refine WpL.step (Stp.boxV rfl (VC.ag _) rfl ?_); intro nb2)
    refine WpL.step (Stp.rd (Rdo.assign rfl) rfl ?_)
    refine WpL.nil ?_
    refine Thn.n ?_
    refine Wp.seq ?_
    refine Wp.seq ?_
    refine Wp.region ?_
    refine WpL.step (Stp.rd (Rdo.move rfl) rfl ?_)
    refine WpL.step (Stp.rd (Rdo.lti rfl rfl) rfl ?_)
    refine WpL.step (Stp.rd (Rdo.move rfl) rfl ?_)
    refine WpL.gF rfl rfl (by first | rfl | assumption | (simp only [decide_eq_true_eq, decide_eq_false_iff_not, Bool.not_eq_true', Bool.not_eq_false', List.length_cons, List.length_nil]; first | assumption | omega) | (simp <;> done)) ?_
    refine WpL.want rfl rfl rfl (Stp.rd (Rdo.move rfl) rfl ?_)
    refine WpL.want rfl rfl rfl (Stp.rd (Rdo.gti rfl rfl) rfl ?_)
    refine WpL.step (Stp.rd (Rdo.pick_f rfl rfl) rfl ?_)
    refine WpL.nil ?_
    refine Thn.n ?_
    refine Wp.condK rfl (by first | rfl | assumption | (simp only [decide_eq_true_eq, decide_eq_false_iff_not, Bool.not_eq_true', Bool.not_eq_false', List.length_cons, List.length_nil]; first | assumption | omega) | (simp <;> done)) ?_
    refine Wp.seq ?_
    refine Wp.region ?_
    refine WpL.step (Stp.call (known_ok) (by kernel_rfl) rfl (by repeat (first | exact Tk.nil | apply Tk.cons (by repeat (first | exact Pk.here | apply Pk.next)))) rfl ?_)
    rintro _ _ rfl
    refine WpL.step (Stp.rd (Rdo.assign rfl) rfl ?_)
    refine WpL.nil ?_
    refine Thn.n ?_
    refine Wp.ret ?_
    refine Thn.r ?_
    refine Ret.now (ResV.tmp rfl ResV.nil) (Gh.tk (by repeat (first | exact Tk.nil | apply Tk.cons (by repeat (first | exact Pk.here | apply Pk.next))))) rfl
  obtain ⟨N, rfl⟩ : ∃ N : Nat, n = N := ⟨n.toNat, by omega⟩
  refine Wp.seq ?_
  refine Wp.region ?_
  (refine WpL.step (Stp.boxV rfl (VC.ag _) rfl ?_); intro nb2)
  refine WpL.step (Stp.rd (Rdo.assign rfl) rfl ?_)
  refine WpL.nil ?_
  refine Thn.n ?_
  refine Wp.seq ?_
  refine Wp.seq ?_
  refine Wp.region ?_
  refine WpL.step (Stp.rd (Rdo.move rfl) rfl ?_)
  refine WpL.step (Stp.rd (Rdo.lti rfl rfl) rfl ?_)
  refine WpL.step (Stp.rd (Rdo.move rfl) rfl ?_)
  refine WpL.gF rfl rfl (by first | rfl | assumption | (simp only [decide_eq_true_eq, decide_eq_false_iff_not, Bool.not_eq_true', Bool.not_eq_false', List.length_cons, List.length_nil]; first | assumption | omega) | (simp <;> done)) ?_
  refine WpL.want rfl rfl rfl (Stp.rd (Rdo.move rfl) rfl ?_)
  refine WpL.want rfl rfl rfl (Stp.rd (Rdo.gti rfl rfl) rfl ?_)
  refine WpL.step (Stp.rd (Rdo.pick_f rfl rfl) rfl ?_)
  refine WpL.nil ?_
  refine Thn.n ?_
  refine Wp.condL rfl (by first | rfl | assumption | (simp only [decide_eq_true_eq, decide_eq_false_iff_not, Bool.not_eq_true', Bool.not_eq_false', List.length_cons, List.length_nil]; first | assumption | omega) | (simp <;> done)) ?_
  refine Wp.skip ?_
  refine Thn.n ?_
  refine Wp.seq ?_
  refine Wp.region ?_
  refine WpL.step (Stp.call (new_ok _ _) (by kernel_rfl) rfl (by repeat (first | exact Tk.nil | apply Tk.cons (by repeat (first | exact Pk.here | apply Pk.next)))) rfl ?_)
  rintro _ _ ⟨v24_0, ⟨rfl, rfl⟩⟩
  refine WpL.lst (by simp only [List.cons_append, List.nil_append]; exact rfl) ?_
  refine WpL.step (Stp.rd (Rdo.assign rfl) rfl ?_)
  refine WpL.nil ?_
  refine Thn.n ?_
  refine Wp.seq ?_
  refine Wp.seq ?_
  refine Wp.region ?_
  refine WpL.step (Stp.rd (Rdo.move rfl) rfl ?_)
  refine WpL.step (Stp.rd (Rdo.eqnil rfl rfl) rfl ?_)
  refine WpL.nil ?_
  refine Thn.n ?_
  refine Wp.condF rfl ?_
  refine Wp.skip ?_
  refine Thn.n ?_
  refine Wp.seq ?_
  refine Wp.region ?_
  refine WpL.step (Stp.rd (Rdo.assign rfl) rfl ?_)
  refine WpL.nil ?_
  refine Thn.n ?_
  refine Wp.seq ?_
  refine Wp.seq ?_
  refine Wp.region ?_
  refine WpL.step (Stp.rd (Rdo.assign rfl) rfl ?_)
  refine WpL.nil ?_
  refine Thn.n ?_
  refine Wp.block ?_
  rw [show CliS.new 2 [99] = cT 0 from rfl]
  refine Wp.loopE (fun k e h => ∃ i : Nat, i + k = N ∧ e = [(0, vi N), (2, vi seq), (4, vp nb2 0), (6, vb false), (7, vp v24_0 0), (8, vi ((i : Int) - 1)), (9, vi i)] ∧ h = [cliA v24_0 (cT i), cel nb2 24 (repC r)]) N
    (e0 := [(0, vi N), (2, vi seq), (4, vp nb2 0), (6, vb false), (7, vp v24_0 0), (8, vi (((0 : Nat) : Int) - 1)), (9, vi (0 : Nat))]) (l0 := [cliA v24_0 (cT 0), cel nb2 24 (repC r)]) (by repeat (first | exact trivial | refine ⟨rfl, ?_⟩)) (by repeat (first | exact trivial | refine ⟨rfl, ?_⟩)) Gh.rfl_ ⟨0, by simp, rfl, rfl⟩ ?_
  rintro k e h ⟨i, hik, rfl, rfl⟩
  by_cases hi : i < N
  · have s1 : ∀ b, Trip Tryd.prog 12 [vp b 0] [cliA b (cT i)] (fun v l => v = .tuple #[.agg #[vi 1, vi 2, vi i, vs [99], vi 0, vi 0, vi 0, vi 0, vb false], vi 0] ∧ l = [cliA b (cT (i + 1))]) := by
      intro b
      have h := init_ok b (cT i) (by simp [cT]) (by simp [cT, CliS.new])
      rw [cT_init i (by omega)] at h
      exact h
    refine Wp.seq ?_
    refine Wp.seq ?_
    refine Wp.region ?_
    refine WpL.step (Stp.rd (Rdo.move rfl) rfl ?_)
    refine WpL.step (Stp.rd (Rdo.move rfl) rfl ?_)
    refine WpL.step (Stp.rd (Rdo.lti rfl rfl) rfl ?_)
    refine WpL.nil ?_
    refine Thn.n ?_
    refine Wp.condK rfl (by first | rfl | assumption | (simp only [decide_eq_true_eq, decide_eq_false_iff_not, Bool.not_eq_true', Bool.not_eq_false', List.length_cons, List.length_nil]; first | assumption | omega) | (simp <;> done)) ?_
    refine Wp.skip ?_
    refine Thn.n ?_
    refine Wp.seq ?_
    refine Wp.block ?_
    refine Wp.seq ?_
    refine Wp.region ?_
    refine WpL.step (Stp.rd (Rdo.move rfl) rfl ?_)
    refine WpL.step (Stp.call (s1 _) (by kernel_rfl) rfl (by repeat (first | exact Tk.nil | apply Tk.cons (by repeat (first | exact Pk.here | apply Pk.next)))) rfl ?_)
    rintro _ _ ⟨rfl, rfl⟩
    refine WpL.lst (by simp only [List.cons_append, List.nil_append]; exact rfl) ?_
    refine WpL.step (Stp.rd (Rdo.move rfl) rfl ?_)
    refine WpL.step (Stp.rd (Rdo.extract rfl rfl) rfl ?_)
    refine WpL.step (Stp.rd (Rdo.extract rfl rfl) rfl ?_)
    (refine WpL.step (Stp.alloc rfl ?_); intro nb22)
    refine WpL.step (Stp.storeV rfl rfl (VC.ag _) (by first | rfl | assumption | (simp <;> done)) (by repeat (first | (apply Sts.all; (focus (first | rfl | assumption | (simp <;> done))); (focus (first | exact oneCells1 rfl | assumption | exact oneCells1 (by assumption) | (simp [oneCells, Value.oneCell'] <;> done)))) | (apply Sts.lp (by repeat (first | exact LPut.nil _ | apply LPut.here | apply LPut.next)); (focus (first | exact oneCells1 rfl | assumption | exact oneCells1 (by assumption) | (simp [oneCells, Value.oneCell'] <;> done)))) | (refine Sts.row1 (by first | assumption | omega | (simp <;> omega)) (by first | rfl | assumption)) | apply Sts.next)) ?_)
    refine WpL.step (Stp.rd (Rdo.assign rfl) rfl ?_)
    refine WpL.nil ?_
    refine Thn.n ?_
    refine Wp.seq ?_
    refine Wp.seq ?_
    refine Wp.region ?_
    refine WpL.step (Stp.rd (Rdo.move rfl) rfl ?_)
    refine WpL.step (Stp.rd (Rdo.nei rfl rfl) rfl ?_)
    refine WpL.step (Stp.rd (Rdo.move rfl) rfl ?_)
    refine WpL.want rfl rfl rfl (Stp.rd (Rdo.fieldAddr0 rfl) rfl ?_)
    refine WpL.want rfl rfl rfl (Stp.rd (Rdo.load rfl (Lds.one rfl)) rfl ?_)
    refine WpL.want rfl rfl rfl (Stp.rd (Rdo.move rfl) rfl ?_)
    refine WpL.want rfl rfl rfl (Stp.rd (Rdo.nei rfl rfl) rfl ?_)
    refine WpL.step (Stp.rd (Rdo.pick_f rfl rfl) rfl ?_)
    refine WpL.step (Stp.rd (Rdo.move rfl) rfl ?_)
    refine WpL.gF rfl rfl (by first | rfl | assumption | (simp only [decide_eq_true_eq, decide_eq_false_iff_not, Bool.not_eq_true', Bool.not_eq_false', List.length_cons, List.length_nil]; first | assumption | omega) | (simp <;> done)) ?_
    refine WpL.want rfl rfl rfl (Stp.rd (Rdo.fieldAddr0 rfl) rfl ?_)
    refine WpL.want rfl rfl rfl (Stp.rd (Rdo.load rfl (Lds.one rfl)) rfl ?_)
    refine WpL.want rfl rfl rfl (Stp.rd (Rdo.neVs rfl rfl) rfl ?_)
    refine WpL.step (Stp.rd (Rdo.pick_f rfl rfl) rfl ?_)
    refine WpL.step (Stp.rd (Rdo.move rfl) rfl ?_)
    refine WpL.want rfl rfl rfl (Stp.rd (Rdo.fieldAddr0 rfl) rfl ?_)
    refine WpL.want rfl rfl rfl (Stp.rd (Rdo.load rfl (Lds.one rfl)) rfl ?_)
    refine WpL.want rfl rfl rfl (Stp.rd (Rdo.nei rfl rfl) rfl ?_)
    refine WpL.step (Stp.rd (Rdo.pick_f rfl rfl) rfl ?_)
    refine WpL.step (Stp.rd (Rdo.move rfl) rfl ?_)
    refine WpL.want rfl rfl rfl (Stp.rd (Rdo.fieldAddr0 rfl) rfl ?_)
    refine WpL.want rfl rfl rfl (Stp.rd (Rdo.load rfl (Lds.one rfl)) rfl ?_)
    refine WpL.want rfl rfl rfl (Stp.rd (Rdo.nei rfl rfl) rfl ?_)
    refine WpL.step (Stp.rd (Rdo.pick_f rfl rfl) rfl ?_)
    refine WpL.nil ?_
    refine Thn.n ?_
    refine Wp.condF rfl ?_
    refine Wp.skip ?_
    refine Thn.n ?_
    refine Wp.region ?_
    refine WpL.step (Stp.rd (Rdo.fieldAddr0 rfl) rfl ?_)
    refine WpL.step (Stp.rd (Rdo.load rfl (Lds.one rfl)) rfl ?_)
    refine WpL.step (Stp.rd (Rdo.assign rfl) rfl ?_)
    refine WpL.nil ?_
    refine Blk.n ?_
    refine Thn.n ?_
    refine Wp.region ?_
    refine WpL.step (Stp.rd (Rdo.move rfl) rfl ?_)
    refine WpL.step (Stp.rd (Rdo.succ rfl rfl (by omega)) rfl ?_)
    refine WpL.step (Stp.rd (Rdo.assign rfl) rfl ?_)
    refine WpL.nil ?_
    refine Thn.n ?_
    refine ⟨k - 1, _, _, by omega, ⟨i + 1, by omega, rfl, rfl⟩, ?_, Gh.tk (by repeat (first | exact Tk.nil | apply Tk.cons (by repeat (first | exact Pk.here | apply Pk.next))))⟩
    rw [show (((i + 1 : Nat) : Int) - 1) = i by omega]
    exact (by repeat (first | exact trivial | refine ⟨rfl, ?_⟩))
  · have hiN : i = N := by omega
    subst hiN
    obtain ⟨C, hC⟩ : ∃ C, C = cT i := ⟨_, rfl⟩
    obtain ⟨D, hD⟩ : ∃ D : CliS, D = { C with known := true, producer := r.producer, epoch := r.epoch, asked := -1, last := 0, opn := false, parts := List.replicate 4 part0 } := ⟨_, rfl⟩
    have t1 : seq ≠ (i : Int) - 1 → ∀ b, Trip Tryd.prog 13 [vp b 0, vi seq, .agg (repC r).toArray] [cliA b C] (fun v l => v = vi 6 ∧ l = [cliA b C]) := by
      intro hs b
      have h := told_ok b C seq r
      rw [show C.told seq r = (C, 6) by unfold CliS.told; rw [if_pos (.inr (by rw [hC]; exact hs))]] at h
      exact h
    have t3 : r.err ≠ 0 → ∀ b, Trip Tryd.prog 13 [vp b 0, vi ((i : Int) - 1), .agg (repC r).toArray] [cliA b C] (fun v l => v = vi 0 ∧ l = [cliA b C]) := by
      intro hs b
      have h := told_ok b C ((i : Int) - 1) r
      rw [show C.told ((i : Int) - 1) r = (C, 0) by unfold CliS.told; rw [if_neg (by rw [hC]; simp [cT]; omega), if_neg hs]] at h
      exact h
    have t4 : r.err = 0 → ∀ b, Trip Tryd.prog 13 [vp b 0, vi ((i : Int) - 1), .agg (repC r).toArray] [cliA b C] (fun v l => v = vi 0 ∧ l = [cliA b D]) := by
      intro hs b
      have h := told_ok b C ((i : Int) - 1) r
      rw [show C.told ((i : Int) - 1) r = (D, 0) by unfold CliS.told; rw [if_neg (by rw [hC]; simp [cT]; omega), if_pos hs, hD]] at h
      exact h
    have t5 : ∀ b, Trip Tryd.prog 13 [vp b 0, vi ((i : Int) - 1), .agg (repC r).toArray] [cliA b D] (fun v l => v = vi 6 ∧ l = [cliA b D]) := by
      intro b
      have h := told_ok b D ((i : Int) - 1) r
      rw [show D.told ((i : Int) - 1) r = (D, 6) by unfold CliS.told; rw [if_pos (.inl (by rw [hD]; exact (by decide : (-1 : Int) < 0)))]] at h
      exact h
    have u1 : ∀ b, Trip Tryd.prog 14 [vp b 0] [cliA b C] (fun r l => r = .tuple #[vi 0, vi 0, vb false] ∧ l = [cliA b C]) := by
      intro b
      have h := epoch_ok b C
      rw [hC] at h ⊢
      exact h
    have u2 : ∀ b, Trip Tryd.prog 14 [vp b 0] [cliA b D] (fun v l => v = .tuple #[vi r.producer, vi r.epoch, vb true] ∧ l = [cliA b D]) := by
      intro b
      have h := epoch_ok b D
      rw [hD] at h ⊢
      exact h
    rw [← hC]
    by_cases hs : seq = (i : Int) - 1
    · by_cases he : r.err = 0
      · have t4 := t4 he
        clear t1 t3 hC hD
        subst hs
        refine Wp.seq ?_
        refine Wp.seq ?_
        refine Wp.region ?_
        refine WpL.step (Stp.rd (Rdo.move rfl) rfl ?_)
        refine WpL.step (Stp.rd (Rdo.move rfl) rfl ?_)
        refine WpL.step (Stp.rd (Rdo.lti rfl rfl) rfl ?_)
        refine WpL.nil ?_
        refine Thn.n ?_
        refine Wp.condL rfl (by first | rfl | assumption | (simp only [decide_eq_true_eq, decide_eq_false_iff_not, Bool.not_eq_true', Bool.not_eq_false', List.length_cons, List.length_nil]; first | assumption | omega) | (simp <;> done)) ?_
        refine Wp.exit ?_
        refine Thn.x ?_
        refine Thn.x ?_
        refine Blk.here ?_
        refine Thn.n ?_
        refine Wp.seq ?_
        refine Wp.seq ?_
        refine Wp.region ?_
        refine WpL.step (Stp.rd (Rdo.move rfl) rfl ?_)
        refine WpL.step (Stp.rd (Rdo.move rfl) rfl ?_)
        refine WpL.step (Stp.rd (Rdo.nei rfl rfl) rfl ?_)
        refine WpL.step (Stp.rd (Rdo.move rfl) rfl ?_)
        refine WpL.gF rfl rfl (by first | rfl | assumption | (simp only [decide_eq_true_eq, decide_eq_false_iff_not, Bool.not_eq_true', Bool.not_eq_false', List.length_cons, List.length_nil]; first | assumption | omega) | (simp <;> done)) ?_
        refine WpL.pass rfl rfl rfl rfl ?_
        refine WpL.pass rfl rfl rfl rfl ?_
        refine WpL.pass rfl rfl rfl rfl ?_
        refine WpL.pass rfl rfl rfl rfl ?_
        refine WpL.pass rfl rfl rfl rfl ?_
        refine WpL.step (Stp.rd (Rdo.pick_f rfl rfl) rfl ?_)
        refine WpL.nil ?_
        refine Thn.n ?_
        refine Wp.condF rfl ?_
        refine Wp.skip ?_
        refine Thn.n ?_
        refine Wp.seq ?_
        refine Wp.region ?_
        refine WpL.step (Stp.rd (Rdo.move rfl) rfl ?_)
        refine WpL.step (Stp.rd (Rdo.move rfl) rfl ?_)
        refine WpL.step (Stp.rd (Rdo.load rfl (Lds.next (by apply Lds.all; (first | rfl | assumption | (simp <;> fail))))) rfl ?_)
        refine WpL.step (Stp.call (t4 _) (by kernel_rfl) rfl (by repeat (first | exact Tk.nil | apply Tk.cons (by repeat (first | exact Pk.here | apply Pk.next)))) rfl ?_)
        rintro _ _ ⟨rfl, rfl⟩
        refine WpL.lst (by simp only [List.cons_append, List.nil_append]; exact rfl) ?_
        refine WpL.step (Stp.rd (Rdo.assign rfl) rfl ?_)
        refine WpL.nil ?_
        refine Thn.n ?_
        refine Wp.seq ?_
        refine Wp.region ?_
        refine WpL.step (Stp.rd (Rdo.move rfl) rfl ?_)
        refine WpL.step (Stp.call (u2 _) (by kernel_rfl) rfl (by repeat (first | exact Tk.nil | apply Tk.cons (by repeat (first | exact Pk.here | apply Pk.next)))) rfl ?_)
        rintro _ _ ⟨rfl, rfl⟩
        refine WpL.lst (by simp only [List.cons_append, List.nil_append]; exact rfl) ?_
        refine WpL.step (Stp.rd (Rdo.move rfl) rfl ?_)
        refine WpL.step (Stp.rd (Rdo.extract rfl rfl) rfl ?_)
        refine WpL.step (Stp.rd (Rdo.extract rfl rfl) rfl ?_)
        refine WpL.step (Stp.rd (Rdo.extract rfl rfl) rfl ?_)
        refine WpL.step (Stp.rd (Rdo.assign rfl) rfl ?_)
        refine WpL.step (Stp.rd (Rdo.assign rfl) rfl ?_)
        refine WpL.step (Stp.rd (Rdo.assign rfl) rfl ?_)
        refine WpL.nil ?_
        refine Thn.n ?_
        refine Wp.seq ?_
        refine Wp.region ?_
        refine WpL.step (Stp.rd (Rdo.move rfl) rfl ?_)
        refine WpL.step (Stp.rd (Rdo.move rfl) rfl ?_)
        refine WpL.step (Stp.rd (Rdo.load rfl (Lds.next (by apply Lds.all; (first | rfl | assumption | (simp <;> fail))))) rfl ?_)
        refine WpL.step (Stp.call (t5 _) (by kernel_rfl) rfl (by repeat (first | exact Tk.nil | apply Tk.cons (by repeat (first | exact Pk.here | apply Pk.next)))) rfl ?_)
        rintro _ _ ⟨rfl, rfl⟩
        refine WpL.lst (by simp only [List.cons_append, List.nil_append]; exact rfl) ?_
        refine WpL.step (Stp.rd (Rdo.assign rfl) rfl ?_)
        refine WpL.nil ?_
        refine Thn.n ?_
        refine Wp.seq ?_
        refine Wp.seq ?_
        refine Wp.region ?_
        refine WpL.step (Stp.rd (Rdo.fieldAddr0 rfl) rfl ?_)
        refine WpL.step (Stp.rd (Rdo.load rfl (Lds.next (Lds.one rfl))) rfl ?_)
        refine WpL.step (Stp.rd (Rdo.nei rfl rfl) rfl ?_)
        refine WpL.nil ?_
        refine Thn.n ?_
        refine Wp.condL rfl (by first | rfl | assumption | (simp only [decide_eq_true_eq, decide_eq_false_iff_not, Bool.not_eq_true', Bool.not_eq_false', List.length_cons, List.length_nil]; first | assumption | omega) | (simp <;> done)) ?_
        refine Wp.skip ?_
        refine Thn.n ?_
        refine Wp.seq ?_
        refine Wp.region ?_
        refine WpL.step (Stp.rd (Rdo.move rfl) rfl ?_)
        refine WpL.step (Stp.rd (Rdo.eqi rfl rfl) rfl ?_)
        refine WpL.step (Stp.rd (Rdo.move rfl) rfl ?_)
        refine WpL.want rfl rfl rfl (Stp.rd (Rdo.move rfl) rfl ?_)
        refine WpL.want rfl rfl rfl (Stp.rd (Rdo.eqi rfl rfl) rfl ?_)
        refine WpL.step (Stp.rd (Rdo.pick_t rfl rfl) rfl ?_)
        refine WpL.step (Stp.rd (Rdo.move rfl) rfl ?_)
        refine WpL.want rfl rfl rfl (Stp.rd (Rdo.move rfl) rfl ?_)
        refine WpL.step (Stp.rd (Rdo.pick_t rfl rfl) rfl ?_)
        refine WpL.step (Stp.rd (Rdo.move rfl) rfl ?_)
        refine WpL.want rfl rfl rfl (Stp.rd (Rdo.move rfl) rfl ?_)
        refine WpL.want rfl rfl rfl (Stp.rd (Rdo.fieldAddr0 rfl) rfl ?_)
        refine WpL.want rfl rfl rfl (Stp.rd (Rdo.load rfl (Lds.next (Lds.one rfl))) rfl ?_)
        refine WpL.want rfl rfl rfl (Stp.rd (Rdo.eqi rfl rfl) rfl ?_)
        refine WpL.step (Stp.rd (Rdo.pick_t rfl rfl) rfl ?_)
        refine WpL.step (Stp.rd (Rdo.move rfl) rfl ?_)
        refine WpL.gT rfl rfl (by first | rfl | assumption | (simp only [decide_eq_true_eq, decide_eq_false_iff_not, Bool.not_eq_true', Bool.not_eq_false', List.length_cons, List.length_nil]; first | assumption | omega) | (simp <;> done)) ?_
        refine WpL.want rfl rfl rfl (Stp.rd (Rdo.move rfl) rfl ?_)
        refine WpL.want rfl rfl rfl (Stp.rd (Rdo.fieldAddr0 rfl) rfl ?_)
        refine WpL.want rfl rfl rfl (Stp.rd (Rdo.load rfl (Lds.next (Lds.one rfl))) rfl ?_)
        refine WpL.want rfl rfl rfl (Stp.rd (Rdo.eqi rfl rfl) rfl ?_)
        refine WpL.step (Stp.rd (Rdo.pick_t rfl rfl) rfl ?_)
        refine WpL.step (Stp.rd (Rdo.move rfl) rfl ?_)
        refine WpL.gT rfl rfl (by first | rfl | assumption | (simp only [decide_eq_true_eq, decide_eq_false_iff_not, Bool.not_eq_true', Bool.not_eq_false', List.length_cons, List.length_nil]; first | assumption | omega) | (simp <;> done)) ?_
        refine WpL.want rfl rfl rfl (Stp.call (known_ok) (by kernel_rfl) rfl (by repeat (first | exact Tk.nil | apply Tk.cons (by repeat (first | exact Pk.here | apply Pk.next)))) rfl ?_)
        rintro _ _ rfl
        refine WpL.step (Stp.rd (Rdo.pick_t rfl rfl) rfl ?_)
        refine WpL.step (Stp.rd (Rdo.assign rfl) rfl ?_)
        refine WpL.nil ?_
        refine Thn.n ?_
        refine Wp.ret ?_
        refine Ret.now (ResV.tmp rfl ResV.nil) (Gh.tk (by repeat (first | exact Tk.nil | apply Tk.cons (by repeat (first | exact Pk.here | apply Pk.next))))) rfl
      · have t3 := t3 he
        clear t1 t4 t5 hC hD
        subst hs
        refine Wp.seq ?_
        refine Wp.seq ?_
        refine Wp.region ?_
        refine WpL.step (Stp.rd (Rdo.move rfl) rfl ?_)
        refine WpL.step (Stp.rd (Rdo.move rfl) rfl ?_)
        refine WpL.step (Stp.rd (Rdo.lti rfl rfl) rfl ?_)
        refine WpL.nil ?_
        refine Thn.n ?_
        refine Wp.condL rfl (by first | rfl | assumption | (simp only [decide_eq_true_eq, decide_eq_false_iff_not, Bool.not_eq_true', Bool.not_eq_false', List.length_cons, List.length_nil]; first | assumption | omega) | (simp <;> done)) ?_
        refine Wp.exit ?_
        refine Thn.x ?_
        refine Thn.x ?_
        refine Blk.here ?_
        refine Thn.n ?_
        refine Wp.seq ?_
        refine Wp.seq ?_
        refine Wp.region ?_
        refine WpL.step (Stp.rd (Rdo.move rfl) rfl ?_)
        refine WpL.step (Stp.rd (Rdo.move rfl) rfl ?_)
        refine WpL.step (Stp.rd (Rdo.nei rfl rfl) rfl ?_)
        refine WpL.step (Stp.rd (Rdo.move rfl) rfl ?_)
        refine WpL.gF rfl rfl (by first | rfl | assumption | (simp only [decide_eq_true_eq, decide_eq_false_iff_not, Bool.not_eq_true', Bool.not_eq_false', List.length_cons, List.length_nil]; first | assumption | omega) | (simp <;> done)) ?_
        refine WpL.pass rfl rfl rfl rfl ?_
        refine WpL.pass rfl rfl rfl rfl ?_
        refine WpL.pass rfl rfl rfl rfl ?_
        refine WpL.pass rfl rfl rfl rfl ?_
        refine WpL.pass rfl rfl rfl rfl ?_
        refine WpL.step (Stp.rd (Rdo.pick_f rfl rfl) rfl ?_)
        refine WpL.nil ?_
        refine Thn.n ?_
        refine Wp.condF rfl ?_
        refine Wp.skip ?_
        refine Thn.n ?_
        refine Wp.seq ?_
        refine Wp.region ?_
        refine WpL.step (Stp.rd (Rdo.move rfl) rfl ?_)
        refine WpL.step (Stp.rd (Rdo.move rfl) rfl ?_)
        refine WpL.step (Stp.rd (Rdo.load rfl (Lds.next (by apply Lds.all; (first | rfl | assumption | (simp <;> fail))))) rfl ?_)
        refine WpL.step (Stp.call (t3 _) (by kernel_rfl) rfl (by repeat (first | exact Tk.nil | apply Tk.cons (by repeat (first | exact Pk.here | apply Pk.next)))) rfl ?_)
        rintro _ _ ⟨rfl, rfl⟩
        refine WpL.lst (by simp only [List.cons_append, List.nil_append]; exact rfl) ?_
        refine WpL.step (Stp.rd (Rdo.assign rfl) rfl ?_)
        refine WpL.nil ?_
        refine Thn.n ?_
        refine Wp.seq ?_
        refine Wp.region ?_
        refine WpL.step (Stp.rd (Rdo.move rfl) rfl ?_)
        refine WpL.step (Stp.call (u1 _) (by kernel_rfl) rfl (by repeat (first | exact Tk.nil | apply Tk.cons (by repeat (first | exact Pk.here | apply Pk.next)))) rfl ?_)
        rintro _ _ ⟨rfl, rfl⟩
        refine WpL.lst (by simp only [List.cons_append, List.nil_append]; exact rfl) ?_
        refine WpL.step (Stp.rd (Rdo.move rfl) rfl ?_)
        refine WpL.step (Stp.rd (Rdo.extract rfl rfl) rfl ?_)
        refine WpL.step (Stp.rd (Rdo.extract rfl rfl) rfl ?_)
        refine WpL.step (Stp.rd (Rdo.extract rfl rfl) rfl ?_)
        refine WpL.step (Stp.rd (Rdo.assign rfl) rfl ?_)
        refine WpL.step (Stp.rd (Rdo.assign rfl) rfl ?_)
        refine WpL.step (Stp.rd (Rdo.assign rfl) rfl ?_)
        refine WpL.nil ?_
        refine Thn.n ?_
        refine Wp.seq ?_
        refine Wp.region ?_
        refine WpL.step (Stp.rd (Rdo.move rfl) rfl ?_)
        refine WpL.step (Stp.rd (Rdo.move rfl) rfl ?_)
        refine WpL.step (Stp.rd (Rdo.load rfl (Lds.next (by apply Lds.all; (first | rfl | assumption | (simp <;> fail))))) rfl ?_)
        refine WpL.step (Stp.call (t3 _) (by kernel_rfl) rfl (by repeat (first | exact Tk.nil | apply Tk.cons (by repeat (first | exact Pk.here | apply Pk.next)))) rfl ?_)
        rintro _ _ ⟨rfl, rfl⟩
        refine WpL.lst (by simp only [List.cons_append, List.nil_append]; exact rfl) ?_
        refine WpL.step (Stp.rd (Rdo.assign rfl) rfl ?_)
        refine WpL.nil ?_
        refine Thn.n ?_
        refine Wp.seq ?_
        refine Wp.seq ?_
        refine Wp.region ?_
        refine WpL.step (Stp.rd (Rdo.fieldAddr0 rfl) rfl ?_)
        refine WpL.step (Stp.rd (Rdo.load rfl (Lds.next (Lds.one rfl))) rfl ?_)
        refine WpL.step (Stp.rd (Rdo.nei rfl rfl) rfl ?_)
        refine WpL.nil ?_
        refine Thn.n ?_
        refine Wp.condK rfl (by first | rfl | assumption | (simp only [decide_eq_true_eq, decide_eq_false_iff_not, Bool.not_eq_true', Bool.not_eq_false', List.length_cons, List.length_nil]; first | assumption | omega) | (simp <;> done)) ?_
        refine Wp.seq ?_
        refine Wp.region ?_
        refine WpL.step (Stp.rd (Rdo.move rfl) rfl ?_)
        refine WpL.step (Stp.rd (Rdo.eqi rfl rfl) rfl ?_)
        refine WpL.step (Stp.rd (Rdo.move rfl) rfl ?_)
        refine WpL.want rfl rfl rfl (Stp.rd (Rdo.move rfl) rfl ?_)
        refine WpL.want rfl rfl rfl (Stp.rd (Rdo.eqi rfl rfl) rfl ?_)
        refine WpL.step (Stp.rd (Rdo.pick_t rfl rfl) rfl ?_)
        refine WpL.step (Stp.rd (Rdo.move rfl) rfl ?_)
        refine WpL.want rfl rfl rfl (Stp.rd (Rdo.move rfl) rfl ?_)
        refine WpL.want rfl rfl rfl (Stp.rd (Rdo.not rfl) rfl ?_)
        refine WpL.step (Stp.rd (Rdo.pick_t rfl rfl) rfl ?_)
        refine WpL.step (Stp.rd (Rdo.move rfl) rfl ?_)
        refine WpL.want rfl rfl rfl (Stp.call (known_ok) (by kernel_rfl) rfl (by repeat (first | exact Tk.nil | apply Tk.cons (by repeat (first | exact Pk.here | apply Pk.next)))) rfl ?_)
        rintro _ _ rfl
        refine WpL.step (Stp.rd (Rdo.pick_t rfl rfl) rfl ?_)
        refine WpL.step (Stp.rd (Rdo.assign rfl) rfl ?_)
        refine WpL.nil ?_
        refine Thn.n ?_
        refine Wp.ret ?_
        refine Thn.r ?_
        refine Ret.now (ResV.tmp rfl ResV.nil) (Gh.tk (by repeat (first | exact Tk.nil | apply Tk.cons (by repeat (first | exact Pk.here | apply Pk.next))))) rfl
    · have t1 := t1 hs
      by_cases he : r.err = 0
      · have t4 := t4 he
        clear t3 hC hD
        refine Wp.seq ?_
        refine Wp.seq ?_
        refine Wp.region ?_
        refine WpL.step (Stp.rd (Rdo.move rfl) rfl ?_)
        refine WpL.step (Stp.rd (Rdo.move rfl) rfl ?_)
        refine WpL.step (Stp.rd (Rdo.lti rfl rfl) rfl ?_)
        refine WpL.nil ?_
        refine Thn.n ?_
        refine Wp.condL rfl (by first | rfl | assumption | (simp only [decide_eq_true_eq, decide_eq_false_iff_not, Bool.not_eq_true', Bool.not_eq_false', List.length_cons, List.length_nil]; first | assumption | omega) | (simp <;> done)) ?_
        refine Wp.exit ?_
        refine Thn.x ?_
        refine Thn.x ?_
        refine Blk.here ?_
        refine Thn.n ?_
        refine Wp.seq ?_
        refine Wp.seq ?_
        refine Wp.region ?_
        refine WpL.step (Stp.rd (Rdo.move rfl) rfl ?_)
        refine WpL.step (Stp.rd (Rdo.move rfl) rfl ?_)
        refine WpL.step (Stp.rd (Rdo.nei rfl rfl) rfl ?_)
        refine WpL.step (Stp.rd (Rdo.move rfl) rfl ?_)
        refine WpL.gT rfl rfl (by first | rfl | assumption | (simp only [decide_eq_true_eq, decide_eq_false_iff_not, Bool.not_eq_true', Bool.not_eq_false', List.length_cons, List.length_nil]; first | assumption | omega) | (simp <;> done)) ?_
        refine WpL.want rfl rfl rfl (Stp.rd (Rdo.move rfl) rfl ?_)
        refine WpL.want rfl rfl rfl (Stp.rd (Rdo.move rfl) rfl ?_)
        refine WpL.want rfl rfl rfl (Stp.rd (Rdo.load rfl (Lds.next (by apply Lds.all; (first | rfl | assumption | (simp <;> fail))))) rfl ?_)
        refine WpL.want rfl rfl rfl (Stp.call (t1 _) (by kernel_rfl) rfl (by repeat (first | exact Tk.nil | apply Tk.cons (by repeat (first | exact Pk.here | apply Pk.next)))) rfl ?_)
        rintro _ _ ⟨rfl, rfl⟩
        refine WpL.lst (by simp only [List.cons_append, List.nil_append]; exact rfl) ?_
        refine WpL.want rfl rfl rfl (Stp.rd (Rdo.nei rfl rfl) rfl ?_)
        refine WpL.step (Stp.rd (Rdo.pick_t rfl rfl) rfl ?_)
        refine WpL.nil ?_
        refine Thn.n ?_
        refine Wp.condF rfl ?_
        refine Wp.skip ?_
        refine Thn.n ?_
        refine Wp.seq ?_
        refine Wp.region ?_
        refine WpL.step (Stp.rd (Rdo.move rfl) rfl ?_)
        refine WpL.step (Stp.rd (Rdo.move rfl) rfl ?_)
        refine WpL.step (Stp.rd (Rdo.load rfl (Lds.next (by apply Lds.all; (first | rfl | assumption | (simp <;> fail))))) rfl ?_)
        refine WpL.step (Stp.call (t4 _) (by kernel_rfl) rfl (by repeat (first | exact Tk.nil | apply Tk.cons (by repeat (first | exact Pk.here | apply Pk.next)))) rfl ?_)
        rintro _ _ ⟨rfl, rfl⟩
        refine WpL.lst (by simp only [List.cons_append, List.nil_append]; exact rfl) ?_
        refine WpL.step (Stp.rd (Rdo.assign rfl) rfl ?_)
        refine WpL.nil ?_
        refine Thn.n ?_
        refine Wp.seq ?_
        refine Wp.region ?_
        refine WpL.step (Stp.rd (Rdo.move rfl) rfl ?_)
        refine WpL.step (Stp.call (u2 _) (by kernel_rfl) rfl (by repeat (first | exact Tk.nil | apply Tk.cons (by repeat (first | exact Pk.here | apply Pk.next)))) rfl ?_)
        rintro _ _ ⟨rfl, rfl⟩
        refine WpL.lst (by simp only [List.cons_append, List.nil_append]; exact rfl) ?_
        refine WpL.step (Stp.rd (Rdo.move rfl) rfl ?_)
        refine WpL.step (Stp.rd (Rdo.extract rfl rfl) rfl ?_)
        refine WpL.step (Stp.rd (Rdo.extract rfl rfl) rfl ?_)
        refine WpL.step (Stp.rd (Rdo.extract rfl rfl) rfl ?_)
        refine WpL.step (Stp.rd (Rdo.assign rfl) rfl ?_)
        refine WpL.step (Stp.rd (Rdo.assign rfl) rfl ?_)
        refine WpL.step (Stp.rd (Rdo.assign rfl) rfl ?_)
        refine WpL.nil ?_
        refine Thn.n ?_
        refine Wp.seq ?_
        refine Wp.region ?_
        refine WpL.step (Stp.rd (Rdo.move rfl) rfl ?_)
        refine WpL.step (Stp.rd (Rdo.move rfl) rfl ?_)
        refine WpL.step (Stp.rd (Rdo.load rfl (Lds.next (by apply Lds.all; (first | rfl | assumption | (simp <;> fail))))) rfl ?_)
        refine WpL.step (Stp.call (t5 _) (by kernel_rfl) rfl (by repeat (first | exact Tk.nil | apply Tk.cons (by repeat (first | exact Pk.here | apply Pk.next)))) rfl ?_)
        rintro _ _ ⟨rfl, rfl⟩
        refine WpL.lst (by simp only [List.cons_append, List.nil_append]; exact rfl) ?_
        refine WpL.step (Stp.rd (Rdo.assign rfl) rfl ?_)
        refine WpL.nil ?_
        refine Thn.n ?_
        refine Wp.seq ?_
        refine Wp.seq ?_
        refine Wp.region ?_
        refine WpL.step (Stp.rd (Rdo.fieldAddr0 rfl) rfl ?_)
        refine WpL.step (Stp.rd (Rdo.load rfl (Lds.next (Lds.one rfl))) rfl ?_)
        refine WpL.step (Stp.rd (Rdo.nei rfl rfl) rfl ?_)
        refine WpL.nil ?_
        refine Thn.n ?_
        refine Wp.condL rfl (by first | rfl | assumption | (simp only [decide_eq_true_eq, decide_eq_false_iff_not, Bool.not_eq_true', Bool.not_eq_false', List.length_cons, List.length_nil]; first | assumption | omega) | (simp <;> done)) ?_
        refine Wp.skip ?_
        refine Thn.n ?_
        refine Wp.seq ?_
        refine Wp.region ?_
        refine WpL.step (Stp.rd (Rdo.move rfl) rfl ?_)
        refine WpL.step (Stp.rd (Rdo.eqi rfl rfl) rfl ?_)
        refine WpL.step (Stp.rd (Rdo.move rfl) rfl ?_)
        refine WpL.want rfl rfl rfl (Stp.rd (Rdo.move rfl) rfl ?_)
        refine WpL.want rfl rfl rfl (Stp.rd (Rdo.eqi rfl rfl) rfl ?_)
        refine WpL.step (Stp.rd (Rdo.pick_t rfl rfl) rfl ?_)
        refine WpL.step (Stp.rd (Rdo.move rfl) rfl ?_)
        refine WpL.want rfl rfl rfl (Stp.rd (Rdo.move rfl) rfl ?_)
        refine WpL.step (Stp.rd (Rdo.pick_t rfl rfl) rfl ?_)
        refine WpL.step (Stp.rd (Rdo.move rfl) rfl ?_)
        refine WpL.want rfl rfl rfl (Stp.rd (Rdo.move rfl) rfl ?_)
        refine WpL.want rfl rfl rfl (Stp.rd (Rdo.fieldAddr0 rfl) rfl ?_)
        refine WpL.want rfl rfl rfl (Stp.rd (Rdo.load rfl (Lds.next (Lds.one rfl))) rfl ?_)
        refine WpL.want rfl rfl rfl (Stp.rd (Rdo.eqi rfl rfl) rfl ?_)
        refine WpL.step (Stp.rd (Rdo.pick_t rfl rfl) rfl ?_)
        refine WpL.step (Stp.rd (Rdo.move rfl) rfl ?_)
        refine WpL.gT rfl rfl (by first | rfl | assumption | (simp only [decide_eq_true_eq, decide_eq_false_iff_not, Bool.not_eq_true', Bool.not_eq_false', List.length_cons, List.length_nil]; first | assumption | omega) | (simp <;> done)) ?_
        refine WpL.want rfl rfl rfl (Stp.rd (Rdo.move rfl) rfl ?_)
        refine WpL.want rfl rfl rfl (Stp.rd (Rdo.fieldAddr0 rfl) rfl ?_)
        refine WpL.want rfl rfl rfl (Stp.rd (Rdo.load rfl (Lds.next (Lds.one rfl))) rfl ?_)
        refine WpL.want rfl rfl rfl (Stp.rd (Rdo.eqi rfl rfl) rfl ?_)
        refine WpL.step (Stp.rd (Rdo.pick_t rfl rfl) rfl ?_)
        refine WpL.step (Stp.rd (Rdo.move rfl) rfl ?_)
        refine WpL.gT rfl rfl (by first | rfl | assumption | (simp only [decide_eq_true_eq, decide_eq_false_iff_not, Bool.not_eq_true', Bool.not_eq_false', List.length_cons, List.length_nil]; first | assumption | omega) | (simp <;> done)) ?_
        refine WpL.want rfl rfl rfl (Stp.call (known_ok) (by kernel_rfl) rfl (by repeat (first | exact Tk.nil | apply Tk.cons (by repeat (first | exact Pk.here | apply Pk.next)))) rfl ?_)
        rintro _ _ rfl
        refine WpL.step (Stp.rd (Rdo.pick_t rfl rfl) rfl ?_)
        refine WpL.step (Stp.rd (Rdo.assign rfl) rfl ?_)
        refine WpL.nil ?_
        refine Thn.n ?_
        refine Wp.ret ?_
        refine Ret.now (ResV.tmp rfl ResV.nil) (Gh.tk (by repeat (first | exact Tk.nil | apply Tk.cons (by repeat (first | exact Pk.here | apply Pk.next))))) rfl
      · have t3 := t3 he
        clear t4 t5 hC hD
        refine Wp.seq ?_
        refine Wp.seq ?_
        refine Wp.region ?_
        refine WpL.step (Stp.rd (Rdo.move rfl) rfl ?_)
        refine WpL.step (Stp.rd (Rdo.move rfl) rfl ?_)
        refine WpL.step (Stp.rd (Rdo.lti rfl rfl) rfl ?_)
        refine WpL.nil ?_
        refine Thn.n ?_
        refine Wp.condL rfl (by first | rfl | assumption | (simp only [decide_eq_true_eq, decide_eq_false_iff_not, Bool.not_eq_true', Bool.not_eq_false', List.length_cons, List.length_nil]; first | assumption | omega) | (simp <;> done)) ?_
        refine Wp.exit ?_
        refine Thn.x ?_
        refine Thn.x ?_
        refine Blk.here ?_
        refine Thn.n ?_
        refine Wp.seq ?_
        refine Wp.seq ?_
        refine Wp.region ?_
        refine WpL.step (Stp.rd (Rdo.move rfl) rfl ?_)
        refine WpL.step (Stp.rd (Rdo.move rfl) rfl ?_)
        refine WpL.step (Stp.rd (Rdo.nei rfl rfl) rfl ?_)
        refine WpL.step (Stp.rd (Rdo.move rfl) rfl ?_)
        refine WpL.gT rfl rfl (by first | rfl | assumption | (simp only [decide_eq_true_eq, decide_eq_false_iff_not, Bool.not_eq_true', Bool.not_eq_false', List.length_cons, List.length_nil]; first | assumption | omega) | (simp <;> done)) ?_
        refine WpL.want rfl rfl rfl (Stp.rd (Rdo.move rfl) rfl ?_)
        refine WpL.want rfl rfl rfl (Stp.rd (Rdo.move rfl) rfl ?_)
        refine WpL.want rfl rfl rfl (Stp.rd (Rdo.load rfl (Lds.next (by apply Lds.all; (first | rfl | assumption | (simp <;> fail))))) rfl ?_)
        refine WpL.want rfl rfl rfl (Stp.call (t1 _) (by kernel_rfl) rfl (by repeat (first | exact Tk.nil | apply Tk.cons (by repeat (first | exact Pk.here | apply Pk.next)))) rfl ?_)
        rintro _ _ ⟨rfl, rfl⟩
        refine WpL.lst (by simp only [List.cons_append, List.nil_append]; exact rfl) ?_
        refine WpL.want rfl rfl rfl (Stp.rd (Rdo.nei rfl rfl) rfl ?_)
        refine WpL.step (Stp.rd (Rdo.pick_t rfl rfl) rfl ?_)
        refine WpL.nil ?_
        refine Thn.n ?_
        refine Wp.condF rfl ?_
        refine Wp.skip ?_
        refine Thn.n ?_
        refine Wp.seq ?_
        refine Wp.region ?_
        refine WpL.step (Stp.rd (Rdo.move rfl) rfl ?_)
        refine WpL.step (Stp.rd (Rdo.move rfl) rfl ?_)
        refine WpL.step (Stp.rd (Rdo.load rfl (Lds.next (by apply Lds.all; (first | rfl | assumption | (simp <;> fail))))) rfl ?_)
        refine WpL.step (Stp.call (t3 _) (by kernel_rfl) rfl (by repeat (first | exact Tk.nil | apply Tk.cons (by repeat (first | exact Pk.here | apply Pk.next)))) rfl ?_)
        rintro _ _ ⟨rfl, rfl⟩
        refine WpL.lst (by simp only [List.cons_append, List.nil_append]; exact rfl) ?_
        refine WpL.step (Stp.rd (Rdo.assign rfl) rfl ?_)
        refine WpL.nil ?_
        refine Thn.n ?_
        refine Wp.seq ?_
        refine Wp.region ?_
        refine WpL.step (Stp.rd (Rdo.move rfl) rfl ?_)
        refine WpL.step (Stp.call (u1 _) (by kernel_rfl) rfl (by repeat (first | exact Tk.nil | apply Tk.cons (by repeat (first | exact Pk.here | apply Pk.next)))) rfl ?_)
        rintro _ _ ⟨rfl, rfl⟩
        refine WpL.lst (by simp only [List.cons_append, List.nil_append]; exact rfl) ?_
        refine WpL.step (Stp.rd (Rdo.move rfl) rfl ?_)
        refine WpL.step (Stp.rd (Rdo.extract rfl rfl) rfl ?_)
        refine WpL.step (Stp.rd (Rdo.extract rfl rfl) rfl ?_)
        refine WpL.step (Stp.rd (Rdo.extract rfl rfl) rfl ?_)
        refine WpL.step (Stp.rd (Rdo.assign rfl) rfl ?_)
        refine WpL.step (Stp.rd (Rdo.assign rfl) rfl ?_)
        refine WpL.step (Stp.rd (Rdo.assign rfl) rfl ?_)
        refine WpL.nil ?_
        refine Thn.n ?_
        refine Wp.seq ?_
        refine Wp.region ?_
        refine WpL.step (Stp.rd (Rdo.move rfl) rfl ?_)
        refine WpL.step (Stp.rd (Rdo.move rfl) rfl ?_)
        refine WpL.step (Stp.rd (Rdo.load rfl (Lds.next (by apply Lds.all; (first | rfl | assumption | (simp <;> fail))))) rfl ?_)
        refine WpL.step (Stp.call (t3 _) (by kernel_rfl) rfl (by repeat (first | exact Tk.nil | apply Tk.cons (by repeat (first | exact Pk.here | apply Pk.next)))) rfl ?_)
        rintro _ _ ⟨rfl, rfl⟩
        refine WpL.lst (by simp only [List.cons_append, List.nil_append]; exact rfl) ?_
        refine WpL.step (Stp.rd (Rdo.assign rfl) rfl ?_)
        refine WpL.nil ?_
        refine Thn.n ?_
        refine Wp.seq ?_
        refine Wp.seq ?_
        refine Wp.region ?_
        refine WpL.step (Stp.rd (Rdo.fieldAddr0 rfl) rfl ?_)
        refine WpL.step (Stp.rd (Rdo.load rfl (Lds.next (Lds.one rfl))) rfl ?_)
        refine WpL.step (Stp.rd (Rdo.nei rfl rfl) rfl ?_)
        refine WpL.nil ?_
        refine Thn.n ?_
        refine Wp.condK rfl (by first | rfl | assumption | (simp only [decide_eq_true_eq, decide_eq_false_iff_not, Bool.not_eq_true', Bool.not_eq_false', List.length_cons, List.length_nil]; first | assumption | omega) | (simp <;> done)) ?_
        refine Wp.seq ?_
        refine Wp.region ?_
        refine WpL.step (Stp.rd (Rdo.move rfl) rfl ?_)
        refine WpL.step (Stp.rd (Rdo.eqi rfl rfl) rfl ?_)
        refine WpL.step (Stp.rd (Rdo.move rfl) rfl ?_)
        refine WpL.want rfl rfl rfl (Stp.rd (Rdo.move rfl) rfl ?_)
        refine WpL.want rfl rfl rfl (Stp.rd (Rdo.eqi rfl rfl) rfl ?_)
        refine WpL.step (Stp.rd (Rdo.pick_t rfl rfl) rfl ?_)
        refine WpL.step (Stp.rd (Rdo.move rfl) rfl ?_)
        refine WpL.want rfl rfl rfl (Stp.rd (Rdo.move rfl) rfl ?_)
        refine WpL.want rfl rfl rfl (Stp.rd (Rdo.not rfl) rfl ?_)
        refine WpL.step (Stp.rd (Rdo.pick_t rfl rfl) rfl ?_)
        refine WpL.step (Stp.rd (Rdo.move rfl) rfl ?_)
        refine WpL.want rfl rfl rfl (Stp.call (known_ok) (by kernel_rfl) rfl (by repeat (first | exact Tk.nil | apply Tk.cons (by repeat (first | exact Pk.here | apply Pk.next)))) rfl ?_)
        rintro _ _ rfl
        refine WpL.step (Stp.rd (Rdo.pick_t rfl rfl) rfl ?_)
        refine WpL.step (Stp.rd (Rdo.assign rfl) rfl ?_)
        refine WpL.nil ?_
        refine Thn.n ?_
        refine Wp.ret ?_
        refine Thn.r ?_
        refine Ret.now (ResV.tmp rfl ResV.nil) (Gh.tk (by repeat (first | exact Tk.nil | apply Tk.cons (by repeat (first | exact Pk.here | apply Pk.next))))) rfl

theorem told_walk (a0 b0 b1 b2 a2 : Int) (w : World) (_ : (Lit.int .i64 a0).wf = true) (_ : (Lit.int .i64 b0).wf = true) (_ : (Lit.int .i64 b1).wf = true) (_ : (Lit.int .i64 b2).wf = true) (_ : (Lit.int .i64 a2).wf = true) :
    Calls Tryd.prog 3 #[.int .i64 a0, .agg #[.int .i64 b0, .int .i64 b1, .int .i64 b2], .int .i64 a2] w fun e w' => e = .returned (.bool true) ∧ Go.RowKit.Below w.heap.size w w' :=
  Trip.top (args := [vi a0, .agg (repC ⟨b0, b1, b2⟩).toArray, vi a2]) (Φ := fun _ => True) (post := fun r _ => r = vb true) trivial (fun _ _ h => h) (Trip.gh (Gh.drop Pk.here) (toldLaw_ok a0 a2 ⟨b0, b1, b2⟩))
end Go.Proofs.YtaacdekfeljpeaaDoor
