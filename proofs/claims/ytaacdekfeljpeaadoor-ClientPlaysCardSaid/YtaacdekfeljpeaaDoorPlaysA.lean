/- ClientPlays, walked. -/
import Derived.Test.YtaacdekfeljpeaaDoorActB
namespace Go.Proofs.YtaacdekfeljpeaaDoor
open Go
set_option maxHeartbeats 4000000
set_option linter.unusedSimpArgs false
set_option linter.unusedVariables false
set_option maxRecDepth 20000

theorem rtxnO_ok (b : Nat) (c : CliS) (x : X4) (v : V4) : Trip Tryd.prog 24 [vp b 0] [ropC b c x v] (fun r l => r = vi c.txn ∧ l = [ropC b c x v]) := by
  refine Trip.of_body Tryd.func24 rfl Tryd.ntmps24 Tryd.results24 rfl ?_
  unfold CliS.txn
  cases ho : c.opn
  · refine Wp.seq ?_
    refine Wp.region ?_
    refine WpL.step (Stp.rd (Rdo.assign rfl) rfl ?_)
    refine WpL.nil ?_
    refine Thn.n ?_
    refine Wp.seq ?_
    refine Wp.seq ?_
    refine Wp.region ?_
    refine WpL.step (Stp.rd (Rdo.move rfl) rfl ?_)
    refine WpL.step (Stp.rd (Rdo.nilCheck rfl) rfl ?_)
    refine WpL.step (Stp.rd (Rdo.fieldAddr0 rfl) rfl ?_)
    refine WpL.step (Stp.rd (Rdo.load rfl (Lds.one rfl)) rfl ?_)
    refine WpL.step (Stp.rd (Rdo.not rfl) rfl ?_)
    refine WpL.nil ?_
    refine Thn.n ?_
    refine Wp.condK rfl (by first | rfl | assumption | (simp only [decide_eq_true_eq, decide_eq_false_iff_not, Bool.not_eq_true', Bool.not_eq_false', List.length_cons, List.length_nil]; first | assumption | omega) | (simp <;> done) | (simp <;> omega)) ?_
    refine Wp.seq ?_
    refine Wp.region ?_
    refine WpL.step (Stp.rd (Rdo.assign rfl) rfl ?_)
    refine WpL.nil ?_
    refine Thn.n ?_
    refine Wp.ret ?_
    refine Thn.r ?_
    refine Ret.now (ResV.tmp rfl ResV.nil) (Gh.tk (by repeat (first | exact Tk.nil | apply Tk.cons (by repeat (first | exact Pk.here | apply Pk.next))))) ⟨rfl, rfl⟩
  · refine Wp.seq ?_
    refine Wp.region ?_
    refine WpL.step (Stp.rd (Rdo.assign rfl) rfl ?_)
    refine WpL.nil ?_
    refine Thn.n ?_
    refine Wp.seq ?_
    refine Wp.seq ?_
    refine Wp.region ?_
    refine WpL.step (Stp.rd (Rdo.move rfl) rfl ?_)
    refine WpL.step (Stp.rd (Rdo.nilCheck rfl) rfl ?_)
    refine WpL.step (Stp.rd (Rdo.fieldAddr0 rfl) rfl ?_)
    refine WpL.step (Stp.rd (Rdo.load rfl (Lds.one rfl)) rfl ?_)
    refine WpL.step (Stp.rd (Rdo.not rfl) rfl ?_)
    refine WpL.nil ?_
    refine Thn.n ?_
    refine Wp.condL rfl (by first | rfl | assumption | (simp only [decide_eq_true_eq, decide_eq_false_iff_not, Bool.not_eq_true', Bool.not_eq_false', List.length_cons, List.length_nil]; first | assumption | omega) | (simp <;> done) | (simp <;> omega)) ?_
    refine Wp.skip ?_
    refine Thn.n ?_
    refine Wp.seq ?_
    refine Wp.region ?_
    refine WpL.step (Stp.rd (Rdo.move rfl) rfl ?_)
    refine WpL.step (Stp.rd (Rdo.nilCheck rfl) rfl ?_)
    refine WpL.step (Stp.rd (Rdo.fieldAddr0 rfl) rfl ?_)
    refine WpL.step (Stp.rd (Rdo.load rfl (Lds.one rfl)) rfl ?_)
    refine WpL.step (Stp.rd (Rdo.assign rfl) rfl ?_)
    refine WpL.nil ?_
    refine Thn.n ?_
    refine Wp.ret ?_
    refine Ret.now (ResV.tmp rfl ResV.nil) (Gh.tk (by repeat (first | exact Tk.nil | apply Tk.cons (by repeat (first | exact Pk.here | apply Pk.next))))) ⟨rfl, rfl⟩

abbrev plE (n : Int) (nm : List UInt8) (v : Value) (b x : Nat) (i : Nat) : Env := [(0, vi n), (1, vs nm), (2, v), (6, vb false), (7, vp b 0), (8, vp x 0), (9, vi i)]
theorem playsLaw_ok (number : Int) (name : List UInt8) (v : Value) (acts : List Act) (hl : acts.length ≤ maxLen) : Trip Tryd.prog 8 [vi number, vs name, v] [actsF v acts] (fun r l => r = vb true) := by
  refine Trip.get Pk.here shape_rdsl ?_
  rintro ⟨a1, c1, rfl⟩
  have s0 : ∀ b, Trip Tryd.prog 19 [.slice a1 acts.length c1] [actsF (.slice a1 acts.length c1) acts] (fun r l => ∃ b, r = vb b ∧ l = [actsF (.slice a1 acts.length c1) acts]) := fun _ : Bool => long_ok _ acts hl
  have s1 := new_ok number name
  have s2 := rnew_ok number name
  by_cases h60 : (60 : Int) < name.length
  · refine Trip.of_body Tryd.func8 rfl Tryd.ntmps8 Tryd.results8 rfl ?_
    refine Wp.seq ?_
    refine Wp.region ?_
    refine WpL.step (Stp.rd (Rdo.assign rfl) rfl ?_)
    refine WpL.nil ?_
    refine Thn.n ?_
    refine Wp.seq ?_
    refine Wp.seq ?_
    refine Wp.region ?_
    refine WpL.step (Stp.rd (Rdo.move rfl) rfl ?_)
    refine WpL.step (Stp.call (long_ok _ _ (by first | rfl | assumption | omega | (simp <;> done) | (simp <;> omega) | (simp [IntKind.bits]; omega) | simp_all)) (by kernel_rfl) rfl (by repeat (first | exact Tk.nil | apply Tk.cons (by repeat (first | exact Pk.here | apply Pk.next)))) rfl ?_)
    rintro _ _ ⟨v10_0, ⟨rfl, rfl⟩⟩
    refine WpL.lst (by simp only [List.cons_append, List.nil_append]; exact rfl) ?_
    refine WpL.step (Stp.rd (Rdo.move rfl) rfl ?_)
    refine WpL.gB rfl rfl (fun c13 => ?_) (fun c13 => ?_)
    refine WpL.pass rfl rfl rfl rfl ?_
    refine WpL.pass rfl rfl rfl rfl ?_
    refine WpL.pass rfl rfl rfl rfl ?_
    refine WpL.step (Stp.rd (Rdo.pick_t rfl rfl) rfl ?_)
    refine WpL.nil ?_
    refine Thn.n ?_
    refine Wp.condT rfl ?_
    refine Wp.seq ?_
    refine Wp.region ?_
    refine WpL.step (Stp.rd (Rdo.assign rfl) rfl ?_)
    refine WpL.nil ?_
    refine Thn.n ?_
    refine Wp.ret ?_
    refine Thn.r ?_
    refine Ret.now (ResV.tmp rfl ResV.nil) (Gh.tk (by repeat (first | exact Tk.nil | apply Tk.cons (by repeat (first | exact Pk.here | apply Pk.next))))) rfl
    refine WpL.want rfl rfl rfl (Stp.rd (Rdo.move rfl) rfl ?_)
    refine WpL.want rfl rfl rfl (Stp.rd (Rdo.lenVs rfl) rfl ?_)
    refine WpL.want rfl rfl rfl (Stp.rd (Rdo.gti rfl rfl) rfl ?_)
    refine WpL.step (Stp.rd (Rdo.pick_f rfl rfl) rfl ?_)
    refine WpL.nil ?_
    refine Thn.n ?_
    refine Wp.condK rfl (by first | rfl | assumption | (simp only [decide_eq_true_eq, decide_eq_false_iff_not, Bool.not_eq_true', Bool.not_eq_false', List.length_cons, List.length_nil]; first | assumption | omega) | (simp <;> done) | (simp <;> omega)) ?_
    refine Wp.seq ?_
    refine Wp.region ?_
    refine WpL.step (Stp.rd (Rdo.assign rfl) rfl ?_)
    refine WpL.nil ?_
    refine Thn.n ?_
    refine Wp.ret ?_
    refine Thn.r ?_
    refine Ret.now (ResV.tmp rfl ResV.nil) (Gh.tk (by repeat (first | exact Tk.nil | apply Tk.cons (by repeat (first | exact Pk.here | apply Pk.next))))) rfl
  obtain ⟨k0, hk0⟩ : ∃ k, k = CliS.new number name := ⟨_, rfl⟩
  have hok0 : CliOk k0 := by rw [hk0]; exact CliOk.new number name (by omega)
  rw [← hk0] at s1 s2
  clear hk0
  refine Trip.of_body Tryd.func8 rfl Tryd.ntmps8 Tryd.results8 rfl ?_
  refine Wp.seq ?_
  refine Wp.region ?_
  refine WpL.step (Stp.rd (Rdo.assign rfl) rfl ?_)
  refine WpL.nil ?_
  refine Thn.n ?_
  refine Wp.seq ?_
  refine Wp.seq ?_
  refine Wp.region ?_
  refine WpL.step (Stp.rd (Rdo.move rfl) rfl ?_)
  refine WpL.step (Stp.call (long_ok _ _ (by first | rfl | assumption | omega | (simp <;> done) | (simp <;> omega) | (simp [IntKind.bits]; omega) | simp_all)) (by kernel_rfl) rfl (by repeat (first | exact Tk.nil | apply Tk.cons (by repeat (first | exact Pk.here | apply Pk.next)))) rfl ?_)
  rintro _ _ ⟨v10_0, ⟨rfl, rfl⟩⟩
  refine WpL.lst (by simp only [List.cons_append, List.nil_append]; exact rfl) ?_
  refine WpL.step (Stp.rd (Rdo.move rfl) rfl ?_)
  refine WpL.gB rfl rfl (fun c13 => ?_) (fun c13 => ?_)
  refine WpL.pass rfl rfl rfl rfl ?_
  refine WpL.pass rfl rfl rfl rfl ?_
  refine WpL.pass rfl rfl rfl rfl ?_
  refine WpL.step (Stp.rd (Rdo.pick_t rfl rfl) rfl ?_)
  refine WpL.nil ?_
  refine Thn.n ?_
  refine Wp.condT rfl ?_
  refine Wp.seq ?_
  refine Wp.region ?_
  refine WpL.step (Stp.rd (Rdo.assign rfl) rfl ?_)
  refine WpL.nil ?_
  refine Thn.n ?_
  refine Wp.ret ?_
  refine Thn.r ?_
  refine Ret.now (ResV.tmp rfl ResV.nil) (Gh.tk (by repeat (first | exact Tk.nil | apply Tk.cons (by repeat (first | exact Pk.here | apply Pk.next))))) rfl
  refine WpL.want rfl rfl rfl (Stp.rd (Rdo.move rfl) rfl ?_)
  refine WpL.want rfl rfl rfl (Stp.rd (Rdo.lenVs rfl) rfl ?_)
  refine WpL.want rfl rfl rfl (Stp.rd (Rdo.gti rfl rfl) rfl ?_)
  refine WpL.step (Stp.rd (Rdo.pick_f rfl rfl) rfl ?_)
  refine WpL.nil ?_
  refine Thn.n ?_
  refine Wp.condL rfl (by first | rfl | assumption | (simp only [decide_eq_true_eq, decide_eq_false_iff_not, Bool.not_eq_true', Bool.not_eq_false', List.length_cons, List.length_nil]; first | assumption | omega) | (simp <;> done) | (simp <;> omega)) ?_
  refine Wp.skip ?_
  refine Thn.n ?_
  refine Wp.seq ?_
  refine Wp.region ?_
  refine WpL.step (Stp.rd (Rdo.move rfl) rfl ?_)
  refine WpL.step (Stp.rd (Rdo.move rfl) rfl ?_)
  refine WpL.step (Stp.call (s1) (by kernel_rfl) rfl (by repeat (first | exact Tk.nil | apply Tk.cons (by repeat (first | exact Pk.here | apply Pk.next)))) rfl ?_)
  rintro _ _ ⟨v43_0, ⟨rfl, rfl⟩⟩
  refine WpL.lst (by simp only [List.cons_append, List.nil_append]; exact rfl) ?_
  refine WpL.step (Stp.rd (Rdo.move rfl) rfl ?_)
  refine WpL.step (Stp.rd (Rdo.move rfl) rfl ?_)
  refine WpL.step (Stp.call (s2) (by kernel_rfl) rfl (by repeat (first | exact Tk.nil | apply Tk.cons (by repeat (first | exact Pk.here | apply Pk.next)))) rfl ?_)
  rintro _ _ ⟨v48_0, ⟨rfl, rfl⟩⟩
  refine WpL.lst (by simp only [List.cons_append, List.nil_append]; exact rfl) ?_
  refine WpL.step (Stp.rd (Rdo.assign rfl) rfl ?_)
  refine WpL.step (Stp.rd (Rdo.assign rfl) rfl ?_)
  refine WpL.nil ?_
  refine Thn.n ?_
  refine Wp.seq ?_
  refine Wp.seq ?_
  refine Wp.region ?_
  refine WpL.step (Stp.rd (Rdo.move rfl) rfl ?_)
  refine WpL.step (Stp.rd (Rdo.eqnil rfl rfl) rfl ?_)
  refine WpL.nil ?_
  refine Thn.n ?_
  refine Wp.condF rfl ?_
  refine Wp.skip ?_
  refine Thn.n ?_
  refine Wp.seq ?_
  refine Wp.seq ?_
  refine Wp.region ?_
  refine WpL.step (Stp.rd (Rdo.assign rfl) rfl ?_)
  refine WpL.nil ?_
  refine Thn.n ?_
  refine Wp.block ?_
  refine Wp.loopE (fun k e h => ∃ (i : Nat) (st : CliS), i + k = acts.length ∧ CliOk st ∧ e = plE number name (.slice a1 acts.length c1) v43_0 v48_0 i ∧ h = [cliA v43_0 st, simA v48_0 st, actsF (.slice a1 acts.length c1) acts]) acts.length
    (e0 := plE number name (.slice a1 acts.length c1) v43_0 v48_0 0) (l0 := [cliA v43_0 k0, simA v48_0 k0, actsF (.slice a1 acts.length c1) acts]) (by repeat (first | exact trivial | refine ⟨rfl, ?_⟩)) (by repeat (first | exact trivial | refine ⟨rfl, ?_⟩)) (Gh.tk (by repeat (first | exact Tk.nil | apply Tk.cons (by repeat (first | exact Pk.here | apply Pk.next))))) ⟨0, k0, by simp, hok0, rfl, rfl⟩ ?_
  rintro k e h ⟨i, st, hik, hst, rfl, rfl⟩
  by_cases hi : i < acts.length
  · have hi' : (i : Int) < acts.length := by omega
    by_cases h80 : (i : Int) < 80
    · have hn0 := hst.n0
      have hn1 := hst.n1
      refine Wp.ghE (GhE.elem (R := RAct) (Pk.next (Pk.next Pk.here)) i hi) ?_
      rintro ⟨bb, o, cap, cs⟩ ⟨hv, hcs⟩
      simp only [Value.slice.injEq, true_and] at hv
      obtain ⟨rfl, rfl⟩ := hv
      simp only
      refine Wp.gh (Gh.front (Pk.next Pk.here)) (Wp.ghE GhE.act ?_)
      rintro ⟨av, cv⟩ rfl
      generalize acts[i] = a
      have s3 := act_ok v43_0 v48_0 st a (.slice av a.value.length cv) hst
      obtain ⟨hok2, _⟩ := act_step hst a
      generalize st.act a = q at s3 hok2
      refine Wp.seq ?_
      refine Wp.seq ?_
      refine Wp.region ?_
      refine WpL.step (Stp.rd (Rdo.move rfl) rfl ?_)
      refine WpL.step (Stp.rd (Rdo.move rfl) rfl ?_)
      refine WpL.step (Stp.rd (Rdo.lenSlice rfl) rfl ?_)
      refine WpL.step (Stp.rd (Rdo.lti rfl rfl) rfl ?_)
      refine WpL.step (Stp.rd (Rdo.move rfl) rfl ?_)
      refine WpL.gT rfl rfl (by first | rfl | assumption | (simp only [decide_eq_true_eq, decide_eq_false_iff_not, Bool.not_eq_true', Bool.not_eq_false', List.length_cons, List.length_nil]; first | assumption | omega) | (simp <;> done) | (simp <;> omega)) ?_
      refine WpL.want rfl rfl rfl (Stp.rd (Rdo.move rfl) rfl ?_)
      refine WpL.want rfl rfl rfl (Stp.rd (Rdo.lti rfl rfl) rfl ?_)
      refine WpL.step (Stp.rd (Rdo.pick_t rfl rfl) rfl ?_)
      refine WpL.nil ?_
      refine Thn.n ?_
      refine Wp.condK rfl (by first | rfl | assumption | (simp only [decide_eq_true_eq, decide_eq_false_iff_not, Bool.not_eq_true', Bool.not_eq_false', List.length_cons, List.length_nil]; first | assumption | omega) | (simp <;> done) | (simp <;> omega)) ?_
      refine Wp.skip ?_
      refine Thn.n ?_
      refine Wp.seq ?_
      refine Wp.block ?_
      refine Wp.seq ?_
      refine Wp.region ?_
      refine WpL.step (Stp.rd (Rdo.move rfl) rfl ?_)
      refine WpL.step (Stp.rd (Rdo.move rfl) rfl ?_)
      refine WpL.step (Stp.rd (Rdo.move rfl) rfl ?_)
      refine WpL.step (Stp.rd (Rdo.move rfl) rfl ?_)
      refine WpL.step (Stp.rd (Rdo.indexSlice rfl rfl (by omega)) rfl ?_)
      refine WpL.step (Stp.rd (Rdo.load rfl (Lds.next (by apply Lds.iall; (first | rfl | assumption | (simp <;> fail))))) rfl ?_)
      refine WpL.step (Stp.call (s3) (by kernel_rfl) rfl (by repeat (first | exact Tk.nil | apply Tk.cons (by repeat (first | exact Pk.here | apply Pk.next)))) rfl ?_)
      rintro _ _ ⟨rfl, rfl⟩
      refine WpL.lst (by simp only [List.cons_append, List.nil_append]; exact rfl) ?_
      refine WpL.step (Stp.rd (Rdo.move rfl) rfl ?_)
      refine WpL.step (Stp.rd (Rdo.extract rfl rfl) rfl ?_)
      refine WpL.step (Stp.rd (Rdo.extract rfl rfl) rfl ?_)
      refine WpL.step (Stp.rd (Rdo.assign rfl) rfl ?_)
      refine WpL.step (Stp.rd (Rdo.assign rfl) rfl ?_)
      refine WpL.nil ?_
      refine Thn.n ?_
      refine Wp.seq ?_
      refine Wp.region ?_
      refine WpL.step (Stp.rd (Rdo.move rfl) rfl ?_)
      refine WpL.step (Stp.call (epoch_ok _ _) (by kernel_rfl) rfl (by repeat (first | exact Tk.nil | apply Tk.cons (by repeat (first | exact Pk.here | apply Pk.next)))) rfl ?_)
      rintro _ _ ⟨rfl, rfl⟩
      refine WpL.lst (by simp only [List.cons_append, List.nil_append]; exact rfl) ?_
      refine WpL.step (Stp.rd (Rdo.move rfl) rfl ?_)
      refine WpL.step (Stp.rd (Rdo.extract rfl rfl) rfl ?_)
      refine WpL.step (Stp.rd (Rdo.extract rfl rfl) rfl ?_)
      refine WpL.step (Stp.rd (Rdo.extract rfl rfl) rfl ?_)
      refine WpL.step (Stp.rd (Rdo.assign rfl) rfl ?_)
      refine WpL.step (Stp.rd (Rdo.assign rfl) rfl ?_)
      refine WpL.step (Stp.rd (Rdo.assign rfl) rfl ?_)
      refine WpL.nil ?_
      refine Thn.n ?_
      refine Wp.seq ?_
      refine Wp.region ?_
      refine WpL.step (Stp.rd (Rdo.move rfl) rfl ?_)
      refine WpL.step (Stp.rd (Rdo.not rfl) rfl ?_)
      refine WpL.step (Stp.rd (Rdo.move rfl) rfl ?_)
      refine WpL.want rfl rfl rfl (Stp.rd (Rdo.move rfl) rfl ?_)
      refine WpL.want rfl rfl rfl (Stp.call (txn_ok _ _) (by kernel_rfl) rfl (by repeat (first | exact Tk.nil | apply Tk.cons (by repeat (first | exact Pk.here | apply Pk.next)))) rfl ?_)
      rintro _ _ ⟨rfl, rfl⟩
      refine WpL.lst (by simp only [List.cons_append, List.nil_append]; exact rfl) ?_
      refine WpL.want rfl rfl rfl (Stp.rd (Rdo.move rfl) rfl ?_)
      refine WpL.want rfl rfl rfl (Stp.call (rtxn_ok _ _) (by kernel_rfl) rfl (by repeat (first | exact Tk.nil | apply Tk.cons (by repeat (first | exact Pk.here | apply Pk.next)))) rfl ?_)
      rintro _ _ ⟨rfl, rfl⟩
      refine WpL.lst (by simp only [List.cons_append, List.nil_append]; exact rfl) ?_
      refine WpL.want rfl rfl rfl (Stp.rd (Rdo.nei rfl rfl) rfl ?_)
      refine WpL.step (Stp.rd (Rdo.pick_f rfl rfl) rfl ?_)
      refine WpL.step (Stp.rd (Rdo.move rfl) rfl ?_)
      refine WpL.gF rfl rfl (by first | rfl | assumption | (simp only [decide_eq_true_eq, decide_eq_false_iff_not, Bool.not_eq_true', Bool.not_eq_false', List.length_cons, List.length_nil]; first | assumption | omega) | (simp <;> done) | (simp <;> omega)) ?_
      refine WpL.want rfl rfl rfl (Stp.rd (Rdo.move rfl) rfl ?_)
      refine WpL.want rfl rfl rfl (Stp.rd (Rdo.move rfl) rfl ?_)
      refine WpL.want rfl rfl rfl (Stp.rd (Rdo.nilCheck rfl) rfl ?_)
      refine WpL.want rfl rfl rfl (Stp.rd (Rdo.fieldAddr0 rfl) rfl ?_)
      refine WpL.ghE simA_open ?_
      rintro ⟨⟨x0, x1, x2, x3⟩, ⟨a0, c0⟩, ⟨a1', c1'⟩, ⟨a2, c2⟩, ⟨a3, c3⟩⟩ hs
      simp only at hs ⊢
      by_cases hkt : q.1.known = true
      · refine WpL.want rfl rfl rfl (Stp.rd (Rdo.load rfl (Lds.one rfl)) rfl ?_)
        refine WpL.want rfl rfl rfl (Stp.rd (Rdo.neb rfl rfl) rfl ?_)
        refine WpL.step (Stp.rd (Rdo.pick_f rfl rfl) rfl ?_)
        refine WpL.step (Stp.rd (Rdo.move rfl) rfl ?_)
        refine WpL.gF rfl rfl (by first | rfl | assumption | (simp only [decide_eq_true_eq, decide_eq_false_iff_not, Bool.not_eq_true', Bool.not_eq_false', List.length_cons, List.length_nil]; first | assumption | omega) | (simp <;> done) | (simp <;> omega)) ?_
        refine WpL.want rfl rfl rfl (Stp.rd (Rdo.move rfl) rfl ?_)
        refine WpL.want rfl rfl rfl (Stp.rd (Rdo.move rfl) rfl ?_)
        refine WpL.gT rfl rfl (by first | rfl | assumption | (simp only [decide_eq_true_eq, decide_eq_false_iff_not, Bool.not_eq_true', Bool.not_eq_false', List.length_cons, List.length_nil]; first | assumption | omega) | (simp <;> done) | (simp <;> omega)) ?_
        refine WpL.want rfl rfl rfl (Stp.rd (Rdo.move rfl) rfl ?_)
        refine WpL.want rfl rfl rfl (Stp.rd (Rdo.move rfl) rfl ?_)
        refine WpL.want rfl rfl rfl (Stp.rd (Rdo.nilCheck rfl) rfl ?_)
        refine WpL.want rfl rfl rfl (Stp.rd (Rdo.fieldAddr0 rfl) rfl ?_)
        refine WpL.want rfl rfl rfl (Stp.rd (Rdo.load rfl (Lds.one rfl)) rfl ?_)
        refine WpL.want rfl rfl rfl (Stp.rd (Rdo.nei rfl rfl) rfl ?_)
        refine WpL.want rfl rfl rfl (Stp.rd (Rdo.move rfl) rfl ?_)
        refine WpL.gF rfl rfl (by first | rfl | assumption | (simp only [decide_eq_true_eq, decide_eq_false_iff_not, Bool.not_eq_true', Bool.not_eq_false', List.length_cons, List.length_nil]; first | assumption | omega) | (simp <;> done) | (simp <;> omega)) ?_
        refine WpL.want rfl rfl rfl (Stp.rd (Rdo.move rfl) rfl ?_)
        refine WpL.want rfl rfl rfl (Stp.rd (Rdo.move rfl) rfl ?_)
        refine WpL.want rfl rfl rfl (Stp.rd (Rdo.nilCheck rfl) rfl ?_)
        refine WpL.want rfl rfl rfl (Stp.rd (Rdo.fieldAddr0 rfl) rfl ?_)
        refine WpL.want rfl rfl rfl (Stp.rd (Rdo.load rfl (Lds.one rfl)) rfl ?_)
        refine WpL.want rfl rfl rfl (Stp.rd (Rdo.nei rfl rfl) rfl ?_)
        refine WpL.want rfl rfl rfl (Stp.rd (Rdo.pick_f rfl rfl) rfl ?_)
        refine WpL.want rfl rfl rfl (Stp.rd (Rdo.pick_t rfl rfl) rfl ?_)
        refine WpL.step (Stp.rd (Rdo.pick_f rfl rfl) rfl ?_)
        refine WpL.nil ?_
        refine Thn.n ?_
        refine Wp.condL rfl (by first | rfl | assumption | (simp only [decide_eq_true_eq, decide_eq_false_iff_not, Bool.not_eq_true', Bool.not_eq_false', List.length_cons, List.length_nil]; first | assumption | omega) | (simp <;> done) | (simp <;> omega)) ?_
        refine Wp.skip ?_
        refine Blk.n ?_
        refine Thn.n ?_
        refine Wp.region ?_
        refine WpL.step (Stp.rd (Rdo.move rfl) rfl ?_)
        refine WpL.step (Stp.rd (Rdo.succ rfl rfl (by omega)) rfl ?_)
        refine WpL.step (Stp.rd (Rdo.assign rfl) rfl ?_)
        refine WpL.nil ?_
        refine Thn.n ?_
        refine ⟨k - 1, _, _, by omega, ⟨i + 1, q.1, by omega, hok2, rfl, rfl⟩, (by repeat (first | exact trivial | refine ⟨rfl, ?_⟩)), ?_⟩
        exact Gh.trans (Gh.tk (by repeat (first | exact Tk.nil | apply Tk.cons (by repeat (first | exact Pk.here | apply Pk.next))))) (Gh.trans (simA_shut (l := [cliA v43_0 q.1, actsF (.slice (some ⟨bb, o, none⟩) acts.length c1) acts]) (b := v48_0) (x0, x1, x2, x3) (vals4 (x0, x1, x2, x3) a0 c0 a1' c1' a2 c2 a3 c3) hs) (Gh.tk (by repeat (first | exact Tk.nil | apply Tk.cons (by repeat (first | exact Pk.here | apply Pk.next))))))
      · have hkf : q.1.known = false := by simpa using hkt
        refine WpL.want rfl rfl rfl (Stp.rd (Rdo.load rfl (Lds.one rfl)) rfl ?_)
        refine WpL.want rfl rfl rfl (Stp.rd (Rdo.neb rfl rfl) rfl ?_)
        refine WpL.step (Stp.rd (Rdo.pick_f rfl rfl) rfl ?_)
        refine WpL.step (Stp.rd (Rdo.move rfl) rfl ?_)
        refine WpL.gF rfl rfl (by first | rfl | assumption | (simp only [decide_eq_true_eq, decide_eq_false_iff_not, Bool.not_eq_true', Bool.not_eq_false', List.length_cons, List.length_nil]; first | assumption | omega) | (simp <;> done) | (simp <;> omega)) ?_
        refine WpL.want rfl rfl rfl (Stp.rd (Rdo.move rfl) rfl ?_)
        refine WpL.want rfl rfl rfl (Stp.rd (Rdo.move rfl) rfl ?_)
        refine WpL.gF rfl rfl (by first | rfl | assumption | (simp only [decide_eq_true_eq, decide_eq_false_iff_not, Bool.not_eq_true', Bool.not_eq_false', List.length_cons, List.length_nil]; first | assumption | omega) | (simp <;> done) | (simp <;> omega)) ?_
        refine WpL.pass rfl rfl rfl rfl ?_
        refine WpL.pass rfl rfl rfl rfl ?_
        refine WpL.pass rfl rfl rfl rfl ?_
        refine WpL.pass rfl rfl rfl rfl ?_
        refine WpL.pass rfl rfl rfl rfl ?_
        refine WpL.pass rfl rfl rfl rfl ?_
        refine WpL.pass rfl rfl rfl rfl ?_
        refine WpL.passU rfl rfl rfl ?_
        refine WpL.passU rfl rfl rfl ?_
        refine WpL.passU rfl rfl rfl ?_
        refine WpL.passU rfl rfl rfl ?_
        refine WpL.passU rfl rfl rfl ?_
        refine WpL.passU rfl rfl rfl ?_
        refine WpL.pass rfl rfl rfl rfl ?_
        refine WpL.want rfl rfl rfl (Stp.rd (Rdo.pick_f rfl rfl) rfl ?_)
        refine WpL.step (Stp.rd (Rdo.pick_f rfl rfl) rfl ?_)
        refine WpL.nil ?_
        refine Thn.n ?_
        refine Wp.condF rfl ?_
        refine Wp.skip ?_
        refine Blk.n ?_
        refine Thn.n ?_
        refine Wp.region ?_
        refine WpL.step (Stp.rd (Rdo.move rfl) rfl ?_)
        refine WpL.step (Stp.rd (Rdo.succ rfl rfl (by omega)) rfl ?_)
        refine WpL.step (Stp.rd (Rdo.assign rfl) rfl ?_)
        refine WpL.nil ?_
        refine Thn.n ?_
        refine ⟨k - 1, _, _, by omega, ⟨i + 1, q.1, by omega, hok2, rfl, rfl⟩, (by repeat (first | exact trivial | refine ⟨rfl, ?_⟩)), ?_⟩
        exact Gh.trans (Gh.tk (by repeat (first | exact Tk.nil | apply Tk.cons (by repeat (first | exact Pk.here | apply Pk.next))))) (Gh.trans (simA_shut (l := [cliA v43_0 q.1, actsF (.slice (some ⟨bb, o, none⟩) acts.length c1) acts]) (b := v48_0) (x0, x1, x2, x3) (vals4 (x0, x1, x2, x3) a0 c0 a1' c1' a2 c2 a3 c3) hs) (Gh.tk (by repeat (first | exact Tk.nil | apply Tk.cons (by repeat (first | exact Pk.here | apply Pk.next))))))
    · refine Wp.seq ?_
      refine Wp.seq ?_
      refine Wp.region ?_
      refine WpL.step (Stp.rd (Rdo.move rfl) rfl ?_)
      refine WpL.step (Stp.rd (Rdo.move rfl) rfl ?_)
      refine WpL.step (Stp.rd (Rdo.lenSlice rfl) rfl ?_)
      refine WpL.step (Stp.rd (Rdo.lti rfl rfl) rfl ?_)
      refine WpL.step (Stp.rd (Rdo.move rfl) rfl ?_)
      refine WpL.gT rfl rfl (by first | rfl | assumption | (simp only [decide_eq_true_eq, decide_eq_false_iff_not, Bool.not_eq_true', Bool.not_eq_false', List.length_cons, List.length_nil]; first | assumption | omega) | (simp <;> done) | (simp <;> omega)) ?_
      refine WpL.want rfl rfl rfl (Stp.rd (Rdo.move rfl) rfl ?_)
      refine WpL.want rfl rfl rfl (Stp.rd (Rdo.lti rfl rfl) rfl ?_)
      refine WpL.step (Stp.rd (Rdo.pick_t rfl rfl) rfl ?_)
      refine WpL.nil ?_
      refine Thn.n ?_
      refine Wp.condL rfl (by first | rfl | assumption | (simp only [decide_eq_true_eq, decide_eq_false_iff_not, Bool.not_eq_true', Bool.not_eq_false', List.length_cons, List.length_nil]; first | assumption | omega) | (simp <;> done) | (simp <;> omega)) ?_
      refine Wp.exit ?_
      refine Thn.x ?_
      refine Thn.x ?_
      refine Blk.here ?_
      refine Thn.n ?_
      refine Wp.seq ?_
      refine Wp.region ?_
      refine WpL.step (Stp.call (known_ok) (by kernel_rfl) rfl (by repeat (first | exact Tk.nil | apply Tk.cons (by repeat (first | exact Pk.here | apply Pk.next)))) rfl ?_)
      rintro _ _ rfl
      refine WpL.step (Stp.rd (Rdo.assign rfl) rfl ?_)
      refine WpL.nil ?_
      refine Thn.n ?_
      refine Wp.ret ?_
      refine Ret.now (ResV.tmp rfl ResV.nil) (Gh.tk (by repeat (first | exact Tk.nil | apply Tk.cons (by repeat (first | exact Pk.here | apply Pk.next))))) rfl
  · refine Wp.seq ?_
    refine Wp.seq ?_
    refine Wp.region ?_
    refine WpL.step (Stp.rd (Rdo.move rfl) rfl ?_)
    refine WpL.step (Stp.rd (Rdo.move rfl) rfl ?_)
    refine WpL.step (Stp.rd (Rdo.lenSlice rfl) rfl ?_)
    refine WpL.step (Stp.rd (Rdo.lti rfl rfl) rfl ?_)
    refine WpL.step (Stp.rd (Rdo.move rfl) rfl ?_)
    refine WpL.gF rfl rfl (by first | rfl | assumption | (simp only [decide_eq_true_eq, decide_eq_false_iff_not, Bool.not_eq_true', Bool.not_eq_false', List.length_cons, List.length_nil]; first | assumption | omega) | (simp <;> done) | (simp <;> omega)) ?_
    refine WpL.pass rfl rfl rfl rfl ?_
    refine WpL.pass rfl rfl rfl rfl ?_
    refine WpL.step (Stp.rd (Rdo.pick_f rfl rfl) rfl ?_)
    refine WpL.nil ?_
    refine Thn.n ?_
    refine Wp.condF rfl ?_
    refine Wp.exit ?_
    refine Thn.x ?_
    refine Thn.x ?_
    refine Blk.here ?_
    refine Thn.n ?_
    refine Wp.seq ?_
    refine Wp.region ?_
    refine WpL.step (Stp.call (known_ok) (by kernel_rfl) rfl (by repeat (first | exact Tk.nil | apply Tk.cons (by repeat (first | exact Pk.here | apply Pk.next)))) rfl ?_)
    rintro _ _ rfl
    refine WpL.step (Stp.rd (Rdo.assign rfl) rfl ?_)
    refine WpL.nil ?_
    refine Thn.n ?_
    refine Wp.ret ?_
    refine Ret.now (ResV.tmp rfl ResV.nil) (Gh.tk (by repeat (first | exact Tk.nil | apply Tk.cons (by repeat (first | exact Pk.here | apply Pk.next))))) rfl

theorem plays_walk (a0 : Int) (a1 : ByteArray) (a : Option Addr) (n c : Nat) (acts : List Act) (w : World) (_ : (Lit.int .i64 a0).wf = true) (_ : a1.size ≤ maxLen) (h : RActs (fun b => w.heap[b]?) [.slice a n c] acts) :
    Calls Tryd.prog 8 #[.int .i64 a0, .string a1, .slice a n c] w fun e w' => e = .returned (.bool true) ∧ Go.RowKit.Below w.heap.size w w' := by
  obtain ⟨l, rfl⟩ := str_bytes a1
  obtain ⟨v, hv, h1, h2⟩ := h
  obtain rfl := (List.cons.inj hv).1
  exact Trip.top (args := [vi a0, vs l, .slice a n c]) (Φ := fun g => RdSl RAct 7 g (.slice a n c) acts) (post := fun r _ => r = vb true) h1 (fun _ _ h => h) (playsLaw_ok a0 l _ acts h2)
end Go.Proofs.YtaacdekfeljpeaaDoor
