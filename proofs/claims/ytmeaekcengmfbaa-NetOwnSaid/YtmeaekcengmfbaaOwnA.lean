/- NetOwn, walked. -/
import Derived.Test.YtmeaekcengmfbaaOwn2
import Derived.Test.YtmeaekcengmfbaaOpnM
namespace Go.Proofs.Ytmeaekcengmfbaa
open Go
set_option maxHeartbeats 4000000
set_option linter.unusedSimpArgs false
set_option linter.unusedVariables false
set_option maxRecDepth 20000

theorem ownLaw_ok (m : Msg) (x : (Option Addr × Nat) × (Option Addr × Nat)) : Trip Try.prog 5 [.agg (msgCs m x).toArray] [fz (fun g => RdMsg g (msgCs m x) m)] (fun r l => r = vb true) := by
  by_cases h1 : (m.value.length : Int) < 1
  · refine Trip.of_body Try.func5 rfl Try.ntmps5 Try.results5 rfl ?_
    refine Wp.seq ?_
    refine Wp.region ?_
    (refine WpL.step (Stp.boxV rfl (VC.ag _) rfl ?_); intro nb2)
    refine WpL.step (Stp.rd (Rdo.assign rfl) rfl ?_)
    refine WpL.nil ?_
    refine Thn.n ?_
    refine Wp.seq ?_
    refine Wp.seq ?_
    refine Wp.region ?_
    refine WpL.step (Stp.rd (Rdo.fieldAddr0 rfl) rfl ?_)
    refine WpL.step (Stp.rd (Rdo.load rfl (Lds.one rfl)) rfl ?_)
    refine WpL.step (Stp.rd (Rdo.lenSlice rfl) rfl ?_)
    refine WpL.step (Stp.rd (Rdo.lti rfl rfl) rfl ?_)
    refine WpL.step (Stp.rd (Rdo.move rfl) rfl ?_)
    refine WpL.gT rfl rfl (by first | rfl | assumption | (simp only [decide_eq_true_eq, decide_eq_false_iff_not, Bool.not_eq_true', Bool.not_eq_false', List.length_cons, List.length_nil]; first | assumption | omega) | (simp <;> done) | (simp <;> omega)) ?_
    refine WpL.pass rfl rfl rfl rfl ?_
    refine WpL.pass rfl rfl rfl rfl ?_
    refine WpL.pass rfl rfl rfl rfl ?_
    refine WpL.pass rfl rfl rfl rfl ?_
    refine WpL.step (Stp.rd (Rdo.pick_t rfl rfl) rfl ?_)
    refine WpL.step (Stp.rd (Rdo.move rfl) rfl ?_)
    refine WpL.pass rfl rfl rfl rfl ?_
    refine WpL.pass rfl rfl rfl rfl ?_
    refine WpL.pass rfl rfl rfl rfl ?_
    refine WpL.pass rfl rfl rfl rfl ?_
    refine WpL.step (Stp.rd (Rdo.pick_t rfl rfl) rfl ?_)
    refine WpL.nil ?_
    refine Thn.n ?_
    refine Wp.condT rfl ?_
    refine Wp.seq ?_
    refine Wp.region ?_
    refine WpL.step (Stp.rd (Rdo.assign rfl) rfl ?_)
    refine WpL.nil ?_
    refine Thn.n ?_
    refine Wp.ret ?_
    refine Thn.r ?_
    refine Ret.now (ResV.tmp rfl ResV.nil) (Gh.tk (by repeat (first | exact Tk.nil | apply Tk.cons (by repeat (first | exact Pk.here | apply Pk.next))))) rfl
  by_cases h2 : (500 : Int) < m.value.length
  · refine Trip.of_body Try.func5 rfl Try.ntmps5 Try.results5 rfl ?_
    refine Wp.seq ?_
    refine Wp.region ?_
    (refine WpL.step (Stp.boxV rfl (VC.ag _) rfl ?_); intro nb2)
    refine WpL.step (Stp.rd (Rdo.assign rfl) rfl ?_)
    refine WpL.nil ?_
    refine Thn.n ?_
    refine Wp.seq ?_
    refine Wp.seq ?_
    refine Wp.region ?_
    refine WpL.step (Stp.rd (Rdo.fieldAddr0 rfl) rfl ?_)
    refine WpL.step (Stp.rd (Rdo.load rfl (Lds.one rfl)) rfl ?_)
    refine WpL.step (Stp.rd (Rdo.lenSlice rfl) rfl ?_)
    refine WpL.step (Stp.rd (Rdo.lti rfl rfl) rfl ?_)
    refine WpL.step (Stp.rd (Rdo.move rfl) rfl ?_)
    refine WpL.gF rfl rfl (by first | rfl | assumption | (simp only [decide_eq_true_eq, decide_eq_false_iff_not, Bool.not_eq_true', Bool.not_eq_false', List.length_cons, List.length_nil]; first | assumption | omega) | (simp <;> done) | (simp <;> omega)) ?_
    refine WpL.want rfl rfl rfl (Stp.rd (Rdo.fieldAddr0 rfl) rfl ?_)
    refine WpL.want rfl rfl rfl (Stp.rd (Rdo.load rfl (Lds.one rfl)) rfl ?_)
    refine WpL.want rfl rfl rfl (Stp.rd (Rdo.lenSlice rfl) rfl ?_)
    refine WpL.want rfl rfl rfl (Stp.rd (Rdo.gti rfl rfl) rfl ?_)
    refine WpL.step (Stp.rd (Rdo.pick_f rfl rfl) rfl ?_)
    refine WpL.step (Stp.rd (Rdo.move rfl) rfl ?_)
    refine WpL.gT rfl rfl (by first | rfl | assumption | (simp only [decide_eq_true_eq, decide_eq_false_iff_not, Bool.not_eq_true', Bool.not_eq_false', List.length_cons, List.length_nil]; first | assumption | omega) | (simp <;> done) | (simp <;> omega)) ?_
    refine WpL.pass rfl rfl rfl rfl ?_
    refine WpL.pass rfl rfl rfl rfl ?_
    refine WpL.pass rfl rfl rfl rfl ?_
    refine WpL.pass rfl rfl rfl rfl ?_
    refine WpL.step (Stp.rd (Rdo.pick_t rfl rfl) rfl ?_)
    refine WpL.nil ?_
    refine Thn.n ?_
    refine Wp.condT rfl ?_
    refine Wp.seq ?_
    refine Wp.region ?_
    refine WpL.step (Stp.rd (Rdo.assign rfl) rfl ?_)
    refine WpL.nil ?_
    refine Thn.n ?_
    refine Wp.ret ?_
    refine Thn.r ?_
    refine Ret.now (ResV.tmp rfl ResV.nil) (Gh.tk (by repeat (first | exact Tk.nil | apply Tk.cons (by repeat (first | exact Pk.here | apply Pk.next))))) rfl
  by_cases h3 : (20 : Int) < m.votes.length
  · refine Trip.of_body Try.func5 rfl Try.ntmps5 Try.results5 rfl ?_
    refine Wp.seq ?_
    refine Wp.region ?_
    (refine WpL.step (Stp.boxV rfl (VC.ag _) rfl ?_); intro nb2)
    refine WpL.step (Stp.rd (Rdo.assign rfl) rfl ?_)
    refine WpL.nil ?_
    refine Thn.n ?_
    refine Wp.seq ?_
    refine Wp.seq ?_
    refine Wp.region ?_
    refine WpL.step (Stp.rd (Rdo.fieldAddr0 rfl) rfl ?_)
    refine WpL.step (Stp.rd (Rdo.load rfl (Lds.one rfl)) rfl ?_)
    refine WpL.step (Stp.rd (Rdo.lenSlice rfl) rfl ?_)
    refine WpL.step (Stp.rd (Rdo.lti rfl rfl) rfl ?_)
    refine WpL.step (Stp.rd (Rdo.move rfl) rfl ?_)
    refine WpL.gF rfl rfl (by first | rfl | assumption | (simp only [decide_eq_true_eq, decide_eq_false_iff_not, Bool.not_eq_true', Bool.not_eq_false', List.length_cons, List.length_nil]; first | assumption | omega) | (simp <;> done) | (simp <;> omega)) ?_
    refine WpL.want rfl rfl rfl (Stp.rd (Rdo.fieldAddr0 rfl) rfl ?_)
    refine WpL.want rfl rfl rfl (Stp.rd (Rdo.load rfl (Lds.one rfl)) rfl ?_)
    refine WpL.want rfl rfl rfl (Stp.rd (Rdo.lenSlice rfl) rfl ?_)
    refine WpL.want rfl rfl rfl (Stp.rd (Rdo.gti rfl rfl) rfl ?_)
    refine WpL.step (Stp.rd (Rdo.pick_f rfl rfl) rfl ?_)
    refine WpL.step (Stp.rd (Rdo.move rfl) rfl ?_)
    refine WpL.gF rfl rfl (by first | rfl | assumption | (simp only [decide_eq_true_eq, decide_eq_false_iff_not, Bool.not_eq_true', Bool.not_eq_false', List.length_cons, List.length_nil]; first | assumption | omega) | (simp <;> done) | (simp <;> omega)) ?_
    refine WpL.want rfl rfl rfl (Stp.rd (Rdo.fieldAddr0 rfl) rfl ?_)
    refine WpL.want rfl rfl rfl (Stp.rd (Rdo.load rfl (Lds.one rfl)) rfl ?_)
    refine WpL.want rfl rfl rfl (Stp.rd (Rdo.lenSlice rfl) rfl ?_)
    refine WpL.want rfl rfl rfl (Stp.rd (Rdo.gti rfl rfl) rfl ?_)
    refine WpL.step (Stp.rd (Rdo.pick_f rfl rfl) rfl ?_)
    refine WpL.nil ?_
    refine Thn.n ?_
    refine Wp.condK rfl (by first | rfl | assumption | (simp only [decide_eq_true_eq, decide_eq_false_iff_not, Bool.not_eq_true', Bool.not_eq_false', List.length_cons, List.length_nil]; first | assumption | omega) | (simp <;> done) | (simp <;> omega)) ?_
    refine Wp.seq ?_
    refine Wp.region ?_
    refine WpL.step (Stp.rd (Rdo.assign rfl) rfl ?_)
    refine WpL.nil ?_
    refine Thn.n ?_
    refine Wp.ret ?_
    refine Thn.r ?_
    refine Ret.now (ResV.tmp rfl ResV.nil) (Gh.tk (by repeat (first | exact Tk.nil | apply Tk.cons (by repeat (first | exact Pk.here | apply Pk.next))))) rfl
  have hok : okMsg m := ⟨by omega, by omega⟩
  refine Trip.gh (Gh.trans (Gh.fzAlso (Φ := fun g => RdMsg g (msgCs m x) m) Pk.here fun g h => h) Gh.msg) ?_
  have s1 : ∀ b nb a c a' c', Trip Try.prog 9 [vp b 0, .slice (some ⟨nb, 0, none⟩) 1 1] (bagA b [] 0 :: cel nb 30 (msgCs m ((a, c), (a', c'))) :: rowsM m ((a, c), (a', c')))
      (fun r l => r = vi 1 ∧ l = bagA b [m] 0 :: rowsM m ((a, c), (a', c'))) := fun b nb a c a' c' => netPutO_ok b nb m ((a, c), (a', c')) [] 0 (by simp) hok
  have s2 : ∀ b, Trip Try.prog 13 [vp b 0, vi 0] [bagA b [m] 0] (fun r l => ∃ x, r = .tuple #[.agg (msgCs m x).toArray, vb true] ∧ l = bagA b [m] 0 :: rowsM m x) := fun b => netAtR_in b [m] 0 0 m rfl hok
  have s3 : ∀ b, Trip Try.prog 17 [vp b 0, vi 0] [bagA b [m] 0] (fun r l => ∃ x, r = .tuple #[.agg (msgCs m x).toArray, vb true] ∧ l = [bagA b [] 0, fz (fun g => RdMsg g (msgCs m x) m)]) := fun b => netPull_in b [m] 0 0 m rfl (by simp)
  have s4 : ∀ z, Trip Try.prog 18 [.agg (msgCs m z).toArray, .agg (msgCs m x).toArray] (rowsM m z ++ [fz (fun g => RdMsg g (msgCs m x) m)]) (fun r l => r = vb true ∧ l = rowsM m z ++ [fz (fun g => RdMsg g (msgCs m x) m)]) := fun z => by
    have h := sameMsgO_ok m m z x (by omega) (by omega) (own := rowsM m z) (rowsM_iced m z)
    rw [decide_eq_true rfl] at h
    refine Trip.mono (Trip.keep h) ?_
    rintro v l ⟨l', ⟨rfl, rfl⟩, rfl⟩
    exact ⟨rfl, rfl⟩
  have s5 : ∀ z, Trip Try.prog 18 [.agg (msgCs m z).toArray, .agg (msgCs m x).toArray] [fz (fun g => RdMsg g (msgCs m z) m), fz (fun g => RdMsg g (msgCs m x) m)] (fun r l => r = vb true ∧ l = []) := fun z => by
    have h := sameMsg_ok m m z x (by omega) (by omega)
    rwa [decide_eq_true rfl] at h
  obtain ⟨⟨x1, x2⟩, ⟨x3, x4⟩⟩ := x
  simp only at *
  refine Trip.of_body Try.func5 rfl Try.ntmps5 Try.results5 rfl ?_
  refine Wp.seq ?_
  refine Wp.region ?_
  (refine WpL.step (Stp.boxV rfl (VC.ag _) rfl ?_); intro nb2)
  refine WpL.step (Stp.rd (Rdo.assign rfl) rfl ?_)
  refine WpL.nil ?_
  refine Thn.n ?_
  refine Wp.seq ?_
  refine Wp.seq ?_
  refine Wp.region ?_
  refine WpL.step (Stp.rd (Rdo.fieldAddr0 rfl) rfl ?_)
  refine WpL.step (Stp.rd (Rdo.load rfl (Lds.one rfl)) rfl ?_)
  refine WpL.step (Stp.rd (Rdo.lenSlice rfl) rfl ?_)
  refine WpL.step (Stp.rd (Rdo.lti rfl rfl) rfl ?_)
  refine WpL.step (Stp.rd (Rdo.move rfl) rfl ?_)
  refine WpL.gF rfl rfl (by first | rfl | assumption | (simp only [decide_eq_true_eq, decide_eq_false_iff_not, Bool.not_eq_true', Bool.not_eq_false', List.length_cons, List.length_nil]; first | assumption | omega) | (simp <;> done) | (simp <;> omega)) ?_
  refine WpL.want rfl rfl rfl (Stp.rd (Rdo.fieldAddr0 rfl) rfl ?_)
  refine WpL.want rfl rfl rfl (Stp.rd (Rdo.load rfl (Lds.one rfl)) rfl ?_)
  refine WpL.want rfl rfl rfl (Stp.rd (Rdo.lenSlice rfl) rfl ?_)
  refine WpL.want rfl rfl rfl (Stp.rd (Rdo.gti rfl rfl) rfl ?_)
  refine WpL.step (Stp.rd (Rdo.pick_f rfl rfl) rfl ?_)
  refine WpL.step (Stp.rd (Rdo.move rfl) rfl ?_)
  refine WpL.gF rfl rfl (by first | rfl | assumption | (simp only [decide_eq_true_eq, decide_eq_false_iff_not, Bool.not_eq_true', Bool.not_eq_false', List.length_cons, List.length_nil]; first | assumption | omega) | (simp <;> done) | (simp <;> omega)) ?_
  refine WpL.want rfl rfl rfl (Stp.rd (Rdo.fieldAddr0 rfl) rfl ?_)
  refine WpL.want rfl rfl rfl (Stp.rd (Rdo.load rfl (Lds.one rfl)) rfl ?_)
  refine WpL.want rfl rfl rfl (Stp.rd (Rdo.lenSlice rfl) rfl ?_)
  refine WpL.want rfl rfl rfl (Stp.rd (Rdo.gti rfl rfl) rfl ?_)
  refine WpL.step (Stp.rd (Rdo.pick_f rfl rfl) rfl ?_)
  refine WpL.nil ?_
  refine Thn.n ?_
  refine Wp.condL rfl (by first | rfl | assumption | (simp only [decide_eq_true_eq, decide_eq_false_iff_not, Bool.not_eq_true', Bool.not_eq_false', List.length_cons, List.length_nil]; first | assumption | omega) | (simp <;> done) | (simp <;> omega)) ?_
  refine Wp.skip ?_
  refine Thn.n ?_
  refine Wp.seq ?_
  refine Wp.region ?_
  refine WpL.step (Stp.call (netNew_ok) (by kernel_rfl) rfl (by repeat (first | exact Tk.nil | apply Tk.cons (by repeat (first | exact Pk.here | apply Pk.next)))) rfl ?_)
  rintro _ _ ⟨v35_0, ⟨rfl, rfl⟩⟩
  refine WpL.lst (by simp only [List.cons_append, List.nil_append]; exact rfl) ?_
  refine WpL.step (Stp.rd (Rdo.assign rfl) rfl ?_)
  refine WpL.nil ?_
  refine Thn.n ?_
  refine Wp.seq ?_
  refine Wp.seq ?_
  refine Wp.region ?_
  refine WpL.step (Stp.rd (Rdo.move rfl) rfl ?_)
  refine WpL.step (Stp.rd (Rdo.eqnil rfl rfl) rfl ?_)
  refine WpL.nil ?_
  refine Thn.n ?_
  refine Wp.condF rfl ?_
  refine Wp.skip ?_
  refine Thn.n ?_
  refine Wp.seq ?_
  refine Wp.region ?_
  refine WpL.step (Stp.rd (Rdo.load rfl (Lds.next (by apply Lds.all; (first | rfl | assumption | (simp <;> fail))))) rfl ?_)
  (refine WpL.step (Stp.alloc rfl ?_); intro nb53)
  refine WpL.step (Stp.storeV rfl rfl (VC.ag _) (by first | rfl | assumption | (simp <;> done)) (by repeat (first | (apply Sts.all; (focus (first | rfl | assumption | (simp <;> done))); (focus (first | exact oneCells1 rfl | assumption | exact oneCells1 (by assumption) | ((repeat (first | assumption | exact oneCells_nil | exact oneCells_bytesC _ | (apply oneCells_cons; (focus (first | rfl | assumption))) | apply oneCells_append)); done) | (simp [oneCells, Value.oneCell'] <;> done)))) | (apply Sts.lp (by repeat (first | exact LPut.nil _ | apply LPut.here | apply LPut.next)); (focus (first | exact oneCells1 rfl | assumption | exact oneCells1 (by assumption) | ((repeat (first | assumption | exact oneCells_nil | exact oneCells_bytesC _ | (apply oneCells_cons; (focus (first | rfl | assumption))) | apply oneCells_append)); done) | (simp [oneCells, Value.oneCell'] <;> done)))) | (refine Sts.row1 (by first | assumption | omega | (simp <;> omega)) (by first | rfl | assumption)) | (refine Sts.rowP (by assumption) (by first | rfl | assumption | (simp <;> done)) (by rfl) (by (first | exact oneCells1 rfl | assumption | exact oneCells1 (by assumption) | ((repeat (first | assumption | exact oneCells_nil | exact oneCells_bytesC _ | (apply oneCells_cons; (focus (first | rfl | assumption))) | apply oneCells_append)); done) | (simp [oneCells, Value.oneCell'] <;> done)))) | apply Sts.next)) ?_)
  refine WpL.nil ?_
  refine Thn.n ?_
  refine Wp.seq ?_
  refine Wp.region ?_
  (refine WpL.step (Stp.slice0 rfl ?_); intro nb59)
  refine WpL.step (Stp.rd (Rdo.fieldAddr0 rfl) rfl ?_)
  refine WpL.step (Stp.rd (Rdo.load rfl (Lds.next (Lds.next (Lds.next (Lds.one rfl))))) rfl ?_)
  (refine WpL.step (Stp.append0P rfl rfl Pk.here (Src.next (Src.next (Src.next Src.frozen))) (by first | rfl | (simp <;> done) | (simp <;> omega)) (by first | assumption | exact oneCells1 rfl | exact oneCells1 (by assumption) | exact oneCells_bytesC _ | exact oneCells_votesC _ | (simp [oneCells, Value.oneCell'] <;> done)) (by first | omega | (simp <;> omega)) (by first | omega | (simp <;> omega)) rfl (by first | rfl | (simp <;> done)) ?_); intro na62 nc62)
  refine WpL.step (Stp.rd (Rdo.fieldAddr0 rfl) rfl ?_)
  refine WpL.step (Stp.storeV rfl rfl (VC.sl _ _ _) (by first | rfl | assumption | (simp <;> done)) (by repeat (first | (apply Sts.all; (focus (first | rfl | assumption | (simp <;> done))); (focus (first | exact oneCells1 rfl | assumption | exact oneCells1 (by assumption) | ((repeat (first | assumption | exact oneCells_nil | exact oneCells_bytesC _ | (apply oneCells_cons; (focus (first | rfl | assumption))) | apply oneCells_append)); done) | (simp [oneCells, Value.oneCell'] <;> done)))) | (apply Sts.lp (by repeat (first | exact LPut.nil _ | apply LPut.here | apply LPut.next)); (focus (first | exact oneCells1 rfl | assumption | exact oneCells1 (by assumption) | ((repeat (first | assumption | exact oneCells_nil | exact oneCells_bytesC _ | (apply oneCells_cons; (focus (first | rfl | assumption))) | apply oneCells_append)); done) | (simp [oneCells, Value.oneCell'] <;> done)))) | (refine Sts.row1 (by first | assumption | omega | (simp <;> omega)) (by first | rfl | assumption)) | (refine Sts.rowP (by assumption) (by first | rfl | assumption | (simp <;> done)) (by rfl) (by (first | exact oneCells1 rfl | assumption | exact oneCells1 (by assumption) | ((repeat (first | assumption | exact oneCells_nil | exact oneCells_bytesC _ | (apply oneCells_cons; (focus (first | rfl | assumption))) | apply oneCells_append)); done) | (simp [oneCells, Value.oneCell'] <;> done)))) | apply Sts.next)) ?_)
  refine WpL.nil ?_
  refine Thn.n ?_
  refine Wp.seq ?_
  refine Wp.region ?_
  (refine WpL.step (Stp.slice0 rfl ?_); intro nb69)
  refine WpL.step (Stp.rd (Rdo.fieldAddr0 rfl) rfl ?_)
  refine WpL.step (Stp.rd (Rdo.load rfl (Lds.next (Lds.next (Lds.next (Lds.next (Lds.one rfl)))))) rfl ?_)
  (refine WpL.step (Stp.append0P rfl rfl Pk.here (Src.next (Src.next (Src.next (Src.next (Src.next Src.frozen))))) (by first | rfl | (simp <;> done) | (simp <;> omega)) (by first | assumption | exact oneCells1 rfl | exact oneCells1 (by assumption) | exact oneCells_bytesC _ | exact oneCells_votesC _ | (simp [oneCells, Value.oneCell'] <;> done)) (by first | omega | (simp <;> omega)) (by first | omega | (simp <;> omega)) rfl (by first | rfl | (simp <;> done)) ?_); intro na72 nc72)
  refine WpL.step (Stp.rd (Rdo.fieldAddr0 rfl) rfl ?_)
  refine WpL.step (Stp.storeV rfl rfl (VC.sl _ _ _) (by first | rfl | assumption | (simp <;> done)) (by repeat (first | (apply Sts.all; (focus (first | rfl | assumption | (simp <;> done))); (focus (first | exact oneCells1 rfl | assumption | exact oneCells1 (by assumption) | ((repeat (first | assumption | exact oneCells_nil | exact oneCells_bytesC _ | (apply oneCells_cons; (focus (first | rfl | assumption))) | apply oneCells_append)); done) | (simp [oneCells, Value.oneCell'] <;> done)))) | (apply Sts.lp (by repeat (first | exact LPut.nil _ | apply LPut.here | apply LPut.next)); (focus (first | exact oneCells1 rfl | assumption | exact oneCells1 (by assumption) | ((repeat (first | assumption | exact oneCells_nil | exact oneCells_bytesC _ | (apply oneCells_cons; (focus (first | rfl | assumption))) | apply oneCells_append)); done) | (simp [oneCells, Value.oneCell'] <;> done)))) | (refine Sts.row1 (by first | assumption | omega | (simp <;> omega)) (by first | rfl | assumption)) | (refine Sts.rowP (by assumption) (by first | rfl | assumption | (simp <;> done)) (by rfl) (by (first | exact oneCells1 rfl | assumption | exact oneCells1 (by assumption) | ((repeat (first | assumption | exact oneCells_nil | exact oneCells_bytesC _ | (apply oneCells_cons; (focus (first | rfl | assumption))) | apply oneCells_append)); done) | (simp [oneCells, Value.oneCell'] <;> done)))) | apply Sts.next)) ?_)
  refine WpL.nil ?_
  refine Thn.n ?_
  refine Wp.seq ?_
  refine Wp.region ?_
  refine WpL.step (Stp.rd (Rdo.move rfl) rfl ?_)
  refine WpL.step (Stp.rd (Rdo.load rfl (Lds.next (Lds.next (by apply Lds.all; (first | rfl | assumption | (simp <;> fail)))))) rfl ?_)
  (refine WpL.step (Stp.sliceV rfl rfl (VCs.cons (VC.ag _) (by first | rfl | assumption | (simp <;> done)) VCs.nil) (by simp only [List.cons_append, List.nil_append, List.append_nil]; exact rfl) rfl rfl ?_); intro nb81)
  refine WpL.step (Stp.call (s1 _ _ _ _ _ _) (by kernel_rfl) rfl (by repeat (first | exact Tk.nil | apply Tk.cons (by repeat (first | exact Pk.here | apply Pk.next)))) rfl ?_)
  rintro _ _ ⟨rfl, rfl⟩
  refine WpL.lst (by simp only [List.cons_append, List.nil_append]; exact rfl) ?_
  refine WpL.nil ?_
  refine Thn.n ?_
  refine Wp.seq ?_
  refine Wp.region ?_
  refine WpL.step (Stp.rd (Rdo.fieldAddr0 rfl) rfl ?_)
  refine WpL.step (Stp.rd (Rdo.load rfl (Lds.next (Lds.next (Lds.next (Lds.one rfl))))) rfl ?_)
  refine WpL.get (Pk.next Pk.here) (fun r => rowA_at 0 (by omega)) ?_
  rintro ⟨b1, o1, k1, hv1⟩
  simp only [Value.slice.injEq, true_and] at hv1
  obtain ⟨rfl, rfl⟩ := hv1
  obtain ⟨u, hu⟩ : ∃ u, m.value[0]? = some u := ⟨m.value[0]'(by omega), List.getElem?_eq_getElem (by omega)⟩
  have hu' := bytesC_at hu
  refine WpL.step (Stp.rd (Rdo.indexSliceE (i := 0) rfl rfl rfl (by first | omega | (simp <;> omega))) rfl ?_)
  refine WpL.step (Stp.rd (Rdo.load rfl (Lds.next (Lds.row1 (by assumption)))) rfl ?_)
  refine WpL.step (Stp.rd (Rdo.xor rfl rfl) rfl ?_)
  refine WpL.step (Stp.rd (Rdo.indexSliceE (i := 0) rfl rfl rfl (by first | omega | (simp <;> omega))) rfl ?_)
  refine WpL.step (Stp.storeV rfl rfl (VC.i _ _) (by first | rfl | assumption | (simp <;> done)) (by repeat (first | (apply Sts.all; (focus (first | rfl | assumption | (simp <;> done))); (focus (first | exact oneCells1 rfl | assumption | exact oneCells1 (by assumption) | ((repeat (first | assumption | exact oneCells_nil | exact oneCells_bytesC _ | (apply oneCells_cons; (focus (first | rfl | assumption))) | apply oneCells_append)); done) | (simp [oneCells, Value.oneCell'] <;> done)))) | (apply Sts.lp (by repeat (first | exact LPut.nil _ | apply LPut.here | apply LPut.next)); (focus (first | exact oneCells1 rfl | assumption | exact oneCells1 (by assumption) | ((repeat (first | assumption | exact oneCells_nil | exact oneCells_bytesC _ | (apply oneCells_cons; (focus (first | rfl | assumption))) | apply oneCells_append)); done) | (simp [oneCells, Value.oneCell'] <;> done)))) | (refine Sts.row1 (by first | assumption | omega | (simp <;> omega)) (by first | rfl | assumption)) | (refine Sts.rowP (by assumption) (by first | rfl | assumption | (simp <;> done)) (by rfl) (by (first | exact oneCells1 rfl | assumption | exact oneCells1 (by assumption) | ((repeat (first | assumption | exact oneCells_nil | exact oneCells_bytesC _ | (apply oneCells_cons; (focus (first | rfl | assumption))) | apply oneCells_append)); done) | (simp [oneCells, Value.oneCell'] <;> done)))) | apply Sts.next)) ?_)
  refine WpL.nil ?_
  refine Thn.n ?_
  refine Wp.seq ?_
  refine Wp.seq ?_
  refine Wp.region ?_
  refine WpL.step (Stp.rd (Rdo.fieldAddr0 rfl) rfl ?_)
  refine WpL.step (Stp.rd (Rdo.load rfl (Lds.next (Lds.next (Lds.next (Lds.one rfl))))) rfl ?_)
  refine WpL.step (Stp.rd (Rdo.lenSlice rfl) rfl ?_)
  refine WpL.step (Stp.rd (Rdo.gti rfl rfl) rfl ?_)
  refine WpL.nil ?_
  refine Thn.n ?_
  have hrest : ∀ (N : List Value) (bn : Nat), True := fun _ _ => trivial
  by_cases hv0 : 0 < m.votes.length
  · have hv0' : (0 : Int) < m.votes.length := by omega
    refine Wp.get (Pk.next (Pk.next Pk.here)) (fun r => rowA_at 0 hv0) ?_
    rintro ⟨b2, o2, k2, hv2⟩
    simp only [Value.slice.injEq, true_and] at hv2
    obtain ⟨rfl, rfl⟩ := hv2
    obtain ⟨y, hy⟩ : ∃ y, m.votes[0]? = some y := ⟨m.votes[0], List.getElem?_eq_getElem hv0⟩
    have hcut : votesC m.votes = [vi y.kind, vi y.slot] ++ ([vi y.view] ++ (hc y.sum ++ (vi y.from_ :: hc y.tag) ++ votesC (m.votes.drop 1))) := by
      rw [votes_cut hy]
      simp [votesC, voteC]
    have hat : (votesC m.votes)[0 * 68 + 2]? = some (vi y.view) := by rw [hcut]; rfl
    refine Wp.condK rfl (by first | rfl | assumption | (simp only [decide_eq_true_eq, decide_eq_false_iff_not, Bool.not_eq_true', Bool.not_eq_false', List.length_cons, List.length_nil]; first | assumption | omega) | (simp <;> done) | (simp <;> omega)) ?_
    refine Wp.region ?_
    refine WpL.step (Stp.rd (Rdo.fieldAddr0 rfl) rfl ?_)
    refine WpL.step (Stp.rd (Rdo.load rfl (Lds.next (Lds.next (Lds.next (Lds.one rfl))))) rfl ?_)
    refine WpL.step (Stp.rd (Rdo.indexSliceE (i := 0) rfl rfl rfl (by first | omega | (simp <;> omega))) rfl ?_)
    refine WpL.step (Stp.rd (Rdo.fieldAddr rfl) rfl ?_)
    refine WpL.step (Stp.rd (Rdo.load rfl (Lds.next (Lds.next (Lds.rowF (by assumption))))) rfl ?_)
    refine WpL.step (Stp.rd (Rdo.xor rfl rfl) rfl ?_)
    refine WpL.step (Stp.rd (Rdo.indexSliceE (i := 0) rfl rfl rfl (by first | omega | (simp <;> omega))) rfl ?_)
    refine WpL.step (Stp.rd (Rdo.fieldAddr rfl) rfl ?_)
    refine WpL.step (Stp.storeV rfl rfl (VC.i _ _) (by first | rfl | assumption | (simp <;> done)) (by repeat (first | (apply Sts.all; (focus (first | rfl | assumption | (simp <;> done))); (focus (first | exact oneCells1 rfl | assumption | exact oneCells1 (by assumption) | ((repeat (first | assumption | exact oneCells_nil | exact oneCells_bytesC _ | (apply oneCells_cons; (focus (first | rfl | assumption))) | apply oneCells_append)); done) | (simp [oneCells, Value.oneCell'] <;> done)))) | (apply Sts.lp (by repeat (first | exact LPut.nil _ | apply LPut.here | apply LPut.next)); (focus (first | exact oneCells1 rfl | assumption | exact oneCells1 (by assumption) | ((repeat (first | assumption | exact oneCells_nil | exact oneCells_bytesC _ | (apply oneCells_cons; (focus (first | rfl | assumption))) | apply oneCells_append)); done) | (simp [oneCells, Value.oneCell'] <;> done)))) | (refine Sts.row1 (by first | assumption | omega | (simp <;> omega)) (by first | rfl | assumption)) | (refine Sts.rowP (by assumption) (by first | rfl | assumption | (simp <;> done)) (by rfl) (by (first | exact oneCells1 rfl | assumption | exact oneCells1 (by assumption) | ((repeat (first | assumption | exact oneCells_nil | exact oneCells_bytesC _ | (apply oneCells_cons; (focus (first | rfl | assumption))) | apply oneCells_append)); done) | (simp [oneCells, Value.oneCell'] <;> done)))) | apply Sts.next)) ?_)
    refine WpL.nil ?_
    refine Thn.n ?_
    refine Wp.seq ?_
    refine Wp.region ?_
    refine WpL.step (Stp.rd (Rdo.move rfl) rfl ?_)
    refine WpL.step (Stp.call (s2 _) (by kernel_rfl) rfl (by repeat (first | exact Tk.nil | apply Tk.cons (by repeat (first | exact Pk.here | apply Pk.next)))) rfl ?_)
    rintro _ _ ⟨v17_0, ⟨rfl, rfl⟩⟩
    refine WpL.lst (by simp only [List.cons_append, List.nil_append]; exact rfl) ?_
    refine WpL.step (Stp.rd (Rdo.move rfl) rfl ?_)
    refine WpL.step (Stp.rd (Rdo.extract rfl rfl) rfl ?_)
    refine WpL.step (Stp.rd (Rdo.extract rfl rfl) rfl ?_)
    (refine WpL.step (Stp.alloc rfl ?_); intro nb22)
    refine WpL.step (Stp.storeV rfl rfl (VC.ag _) (by first | rfl | assumption | (simp <;> done)) (by repeat (first | (apply Sts.all; (focus (first | rfl | assumption | (simp <;> done))); (focus (first | exact oneCells1 rfl | assumption | exact oneCells1 (by assumption) | ((repeat (first | assumption | exact oneCells_nil | exact oneCells_bytesC _ | (apply oneCells_cons; (focus (first | rfl | assumption))) | apply oneCells_append)); done) | (simp [oneCells, Value.oneCell'] <;> done)))) | (apply Sts.lp (by repeat (first | exact LPut.nil _ | apply LPut.here | apply LPut.next)); (focus (first | exact oneCells1 rfl | assumption | exact oneCells1 (by assumption) | ((repeat (first | assumption | exact oneCells_nil | exact oneCells_bytesC _ | (apply oneCells_cons; (focus (first | rfl | assumption))) | apply oneCells_append)); done) | (simp [oneCells, Value.oneCell'] <;> done)))) | (refine Sts.row1 (by first | assumption | omega | (simp <;> omega)) (by first | rfl | assumption)) | (refine Sts.rowP (by assumption) (by first | rfl | assumption | (simp <;> done)) (by rfl) (by (first | exact oneCells1 rfl | assumption | exact oneCells1 (by assumption) | ((repeat (first | assumption | exact oneCells_nil | exact oneCells_bytesC _ | (apply oneCells_cons; (focus (first | rfl | assumption))) | apply oneCells_append)); done) | (simp [oneCells, Value.oneCell'] <;> done)))) | apply Sts.next)) ?_)
    refine WpL.step (Stp.rd (Rdo.assign rfl) rfl ?_)
    refine WpL.nil ?_
    refine Thn.n ?_
    refine Wp.seq ?_
    refine Wp.seq ?_
    refine Wp.region ?_
    refine WpL.step (Stp.rd (Rdo.move rfl) rfl ?_)
    refine WpL.step (Stp.rd (Rdo.not rfl) rfl ?_)
    refine WpL.step (Stp.rd (Rdo.move rfl) rfl ?_)
    refine WpL.want rfl rfl rfl (Stp.rd (Rdo.load rfl (by apply Lds.all; (first | rfl | assumption | (simp <;> fail)))) rfl ?_)
    refine WpL.want rfl rfl rfl (Stp.rd (Rdo.load rfl (Lds.next (Lds.next (Lds.next (Lds.next (Lds.next (Lds.next (Lds.next (by apply Lds.all; (first | rfl | assumption | (simp <;> fail))))))))))) rfl ?_)
    refine WpL.want rfl rfl rfl (Stp.call (s4 _) (by kernel_rfl) rfl (by repeat (first | exact Tk.nil | apply Tk.cons (by repeat (first | exact Pk.here | apply Pk.next)))) rfl ?_)
    rintro _ _ ⟨rfl, rfl⟩
    refine WpL.lst (by simp only [List.cons_append, List.nil_append]; exact rfl) ?_
    refine WpL.want rfl rfl rfl (Stp.rd (Rdo.not rfl) rfl ?_)
    refine WpL.step (Stp.rd (Rdo.pick_f rfl rfl) rfl ?_)
    refine WpL.step (Stp.rd (Rdo.move rfl) rfl ?_)
    refine WpL.want rfl rfl rfl (Stp.rd (Rdo.fieldAddr0 rfl) rfl ?_)
    refine WpL.want rfl rfl rfl (Stp.rd (Rdo.load rfl (Lds.next (Lds.next (Lds.next (Lds.one rfl))))) rfl ?_)
    refine WpL.want rfl rfl rfl (Stp.rd (Rdo.lenSlice rfl) rfl ?_)
    refine WpL.want rfl rfl rfl (Stp.rd (Rdo.eqi rfl rfl) rfl ?_)
    refine WpL.step (Stp.rd (Rdo.pick_f rfl rfl) rfl ?_)
    refine WpL.nil ?_
    refine Thn.n ?_
    refine Wp.condL rfl (by first | rfl | assumption | (simp only [decide_eq_true_eq, decide_eq_false_iff_not, Bool.not_eq_true', Bool.not_eq_false', List.length_cons, List.length_nil]; first | assumption | omega) | (simp <;> done) | (simp <;> omega)) ?_
    refine Wp.skip ?_
    refine Thn.n ?_
    refine Wp.seq ?_
    refine Wp.region ?_
    refine WpL.step (Stp.rd (Rdo.fieldAddr0 rfl) rfl ?_)
    refine WpL.step (Stp.rd (Rdo.load rfl (Lds.next (Lds.next (Lds.next (Lds.one rfl))))) rfl ?_)
    refine WpL.get Pk.here (fun r => rowA_at 0 (by omega)) ?_
    rintro ⟨b3, o3, k3, hv3⟩
    simp only [Value.slice.injEq, true_and] at hv3
    obtain ⟨hv4, hv5⟩ := hv3
    rw [hv4]
    refine WpL.step (Stp.rd (Rdo.indexSliceE (i := 0) rfl rfl rfl (by first | omega | (simp <;> omega))) rfl ?_)
    refine WpL.step (Stp.rd (Rdo.load rfl (Lds.row1 (by assumption))) rfl ?_)
    refine WpL.step (Stp.rd (Rdo.xor rfl rfl) rfl ?_)
    refine WpL.step (Stp.rd (Rdo.indexSliceE (i := 0) rfl rfl rfl (by first | omega | (simp <;> omega))) rfl ?_)
    refine WpL.step (Stp.storeV rfl rfl (VC.i _ _) (by first | rfl | assumption | (simp <;> done)) (by repeat (first | (apply Sts.all; (focus (first | rfl | assumption | (simp <;> done))); (focus (first | exact oneCells1 rfl | assumption | exact oneCells1 (by assumption) | ((repeat (first | assumption | exact oneCells_nil | exact oneCells_bytesC _ | (apply oneCells_cons; (focus (first | rfl | assumption))) | apply oneCells_append)); done) | (simp [oneCells, Value.oneCell'] <;> done)))) | (apply Sts.lp (by repeat (first | exact LPut.nil _ | apply LPut.here | apply LPut.next)); (focus (first | exact oneCells1 rfl | assumption | exact oneCells1 (by assumption) | ((repeat (first | assumption | exact oneCells_nil | exact oneCells_bytesC _ | (apply oneCells_cons; (focus (first | rfl | assumption))) | apply oneCells_append)); done) | (simp [oneCells, Value.oneCell'] <;> done)))) | (refine Sts.row1 (by first | assumption | omega | (simp <;> omega)) (by first | rfl | assumption)) | (refine Sts.rowP (by assumption) (by first | rfl | assumption | (simp <;> done)) (by rfl) (by (first | exact oneCells1 rfl | assumption | exact oneCells1 (by assumption) | ((repeat (first | assumption | exact oneCells_nil | exact oneCells_bytesC _ | (apply oneCells_cons; (focus (first | rfl | assumption))) | apply oneCells_append)); done) | (simp [oneCells, Value.oneCell'] <;> done)))) | apply Sts.next)) ?_)
    refine WpL.nil ?_
    refine Thn.n ?_
    refine Wp.seq ?_
    refine Wp.region ?_
    refine WpL.step (Stp.rd (Rdo.move rfl) rfl ?_)
    refine WpL.step (Stp.call (s3 _) (by kernel_rfl) rfl (by repeat (first | exact Tk.nil | apply Tk.cons (by repeat (first | exact Pk.here | apply Pk.next)))) rfl ?_)
    rintro _ _ ⟨v11_0, ⟨rfl, rfl⟩⟩
    refine WpL.lst (by simp only [List.cons_append, List.nil_append]; exact rfl) ?_
    refine WpL.step (Stp.rd (Rdo.move rfl) rfl ?_)
    refine WpL.step (Stp.rd (Rdo.extract rfl rfl) rfl ?_)
    refine WpL.step (Stp.rd (Rdo.extract rfl rfl) rfl ?_)
    (refine WpL.step (Stp.alloc rfl ?_); intro nb16)
    refine WpL.step (Stp.storeV rfl rfl (VC.ag _) (by first | rfl | assumption | (simp <;> done)) (by repeat (first | (apply Sts.all; (focus (first | rfl | assumption | (simp <;> done))); (focus (first | exact oneCells1 rfl | assumption | exact oneCells1 (by assumption) | ((repeat (first | assumption | exact oneCells_nil | exact oneCells_bytesC _ | (apply oneCells_cons; (focus (first | rfl | assumption))) | apply oneCells_append)); done) | (simp [oneCells, Value.oneCell'] <;> done)))) | (apply Sts.lp (by repeat (first | exact LPut.nil _ | apply LPut.here | apply LPut.next)); (focus (first | exact oneCells1 rfl | assumption | exact oneCells1 (by assumption) | ((repeat (first | assumption | exact oneCells_nil | exact oneCells_bytesC _ | (apply oneCells_cons; (focus (first | rfl | assumption))) | apply oneCells_append)); done) | (simp [oneCells, Value.oneCell'] <;> done)))) | (refine Sts.row1 (by first | assumption | omega | (simp <;> omega)) (by first | rfl | assumption)) | (refine Sts.rowP (by assumption) (by first | rfl | assumption | (simp <;> done)) (by rfl) (by (first | exact oneCells1 rfl | assumption | exact oneCells1 (by assumption) | ((repeat (first | assumption | exact oneCells_nil | exact oneCells_bytesC _ | (apply oneCells_cons; (focus (first | rfl | assumption))) | apply oneCells_append)); done) | (simp [oneCells, Value.oneCell'] <;> done)))) | apply Sts.next)) ?_)
    refine WpL.step (Stp.rd (Rdo.assign rfl) rfl ?_)
    refine WpL.nil ?_
    refine Thn.n ?_
    refine Wp.seq ?_
    refine Wp.region ?_
    refine WpL.step (Stp.rd (Rdo.assign rfl) rfl ?_)
    refine WpL.nil ?_
    refine Thn.n ?_
    refine Wp.seq ?_
    refine Wp.region ?_
    refine WpL.step (Stp.rd (Rdo.move rfl) rfl ?_)
    refine WpL.step (Stp.call (at_nil _) (by kernel_rfl) rfl (by repeat (first | exact Tk.nil | apply Tk.cons (by repeat (first | exact Pk.here | apply Pk.next)))) rfl ?_)
    rintro _ _ ⟨rfl, rfl⟩
    refine WpL.lst (by simp only [List.cons_append, List.nil_append]; exact rfl) ?_
    refine WpL.step (Stp.rd (Rdo.move rfl) rfl ?_)
    refine WpL.step (Stp.rd (Rdo.extract rfl rfl) rfl ?_)
    refine WpL.step (Stp.rd (Rdo.extract rfl rfl) rfl ?_)
    (refine WpL.step (Stp.alloc rfl ?_); intro nb35)
    refine WpL.step (Stp.storeV rfl rfl (VC.ag _) (by first | rfl | assumption | (simp <;> done)) (by repeat (first | (apply Sts.all; (focus (first | rfl | assumption | (simp <;> done))); (focus (first | exact oneCells1 rfl | assumption | exact oneCells1 (by assumption) | ((repeat (first | assumption | exact oneCells_nil | exact oneCells_bytesC _ | (apply oneCells_cons; (focus (first | rfl | assumption))) | apply oneCells_append)); done) | (simp [oneCells, Value.oneCell'] <;> done)))) | (apply Sts.lp (by repeat (first | exact LPut.nil _ | apply LPut.here | apply LPut.next)); (focus (first | exact oneCells1 rfl | assumption | exact oneCells1 (by assumption) | ((repeat (first | assumption | exact oneCells_nil | exact oneCells_bytesC _ | (apply oneCells_cons; (focus (first | rfl | assumption))) | apply oneCells_append)); done) | (simp [oneCells, Value.oneCell'] <;> done)))) | (refine Sts.row1 (by first | assumption | omega | (simp <;> omega)) (by first | rfl | assumption)) | (refine Sts.rowP (by assumption) (by first | rfl | assumption | (simp <;> done)) (by rfl) (by (first | exact oneCells1 rfl | assumption | exact oneCells1 (by assumption) | ((repeat (first | assumption | exact oneCells_nil | exact oneCells_bytesC _ | (apply oneCells_cons; (focus (first | rfl | assumption))) | apply oneCells_append)); done) | (simp [oneCells, Value.oneCell'] <;> done)))) | apply Sts.next)) ?_)
    refine WpL.step (Stp.rd (Rdo.assign rfl) rfl ?_)
    refine WpL.nil ?_
    refine Thn.n ?_
    refine Wp.seq ?_
    refine Wp.region ?_
    refine WpL.step (Stp.rd (Rdo.move rfl) rfl ?_)
    refine WpL.step (Stp.call (pull_nil _) (by kernel_rfl) rfl (by repeat (first | exact Tk.nil | apply Tk.cons (by repeat (first | exact Pk.here | apply Pk.next)))) rfl ?_)
    rintro _ _ ⟨rfl, rfl⟩
    refine WpL.lst (by simp only [List.cons_append, List.nil_append]; exact rfl) ?_
    refine WpL.step (Stp.rd (Rdo.move rfl) rfl ?_)
    refine WpL.step (Stp.rd (Rdo.extract rfl rfl) rfl ?_)
    refine WpL.step (Stp.rd (Rdo.extract rfl rfl) rfl ?_)
    (refine WpL.step (Stp.alloc rfl ?_); intro nb49)
    refine WpL.step (Stp.storeV rfl rfl (VC.ag _) (by first | rfl | assumption | (simp <;> done)) (by repeat (first | (apply Sts.all; (focus (first | rfl | assumption | (simp <;> done))); (focus (first | exact oneCells1 rfl | assumption | exact oneCells1 (by assumption) | ((repeat (first | assumption | exact oneCells_nil | exact oneCells_bytesC _ | (apply oneCells_cons; (focus (first | rfl | assumption))) | apply oneCells_append)); done) | (simp [oneCells, Value.oneCell'] <;> done)))) | (apply Sts.lp (by repeat (first | exact LPut.nil _ | apply LPut.here | apply LPut.next)); (focus (first | exact oneCells1 rfl | assumption | exact oneCells1 (by assumption) | ((repeat (first | assumption | exact oneCells_nil | exact oneCells_bytesC _ | (apply oneCells_cons; (focus (first | rfl | assumption))) | apply oneCells_append)); done) | (simp [oneCells, Value.oneCell'] <;> done)))) | (refine Sts.row1 (by first | assumption | omega | (simp <;> omega)) (by first | rfl | assumption)) | (refine Sts.rowP (by assumption) (by first | rfl | assumption | (simp <;> done)) (by rfl) (by (first | exact oneCells1 rfl | assumption | exact oneCells1 (by assumption) | ((repeat (first | assumption | exact oneCells_nil | exact oneCells_bytesC _ | (apply oneCells_cons; (focus (first | rfl | assumption))) | apply oneCells_append)); done) | (simp [oneCells, Value.oneCell'] <;> done)))) | apply Sts.next)) ?_)
    refine WpL.step (Stp.rd (Rdo.assign rfl) rfl ?_)
    refine WpL.nil ?_
    refine Thn.n ?_
    refine Wp.seq ?_
    refine Wp.region ?_
    refine WpL.step (Stp.rd (Rdo.move rfl) rfl ?_)
    refine WpL.step (Stp.rd (Rdo.move rfl) rfl ?_)
    refine WpL.want rfl rfl rfl (Stp.rd (Rdo.load rfl (Lds.next (Lds.next (by apply Lds.all; (first | rfl | assumption | (simp <;> fail)))))) rfl ?_)
    refine WpL.want rfl rfl rfl (Stp.rd (Rdo.load rfl (Lds.next (Lds.next (Lds.next (Lds.next (Lds.next (Lds.next (Lds.next (Lds.next (Lds.next (Lds.next (Lds.next (Lds.next (by apply Lds.all; (first | rfl | assumption | (simp <;> fail)))))))))))))))) rfl ?_)
    refine WpL.want rfl rfl rfl (Stp.call (s5 _) (by kernel_rfl) rfl (by repeat (first | exact Tk.nil | apply Tk.cons (by repeat (first | exact Pk.here | apply Pk.next)))) rfl ?_)
    rintro _ _ ⟨rfl, rfl⟩
    refine WpL.lst (by simp only [List.cons_append, List.nil_append]; exact rfl) ?_
    refine WpL.step (Stp.rd (Rdo.pick_t rfl rfl) rfl ?_)
    refine WpL.step (Stp.rd (Rdo.move rfl) rfl ?_)
    refine WpL.want rfl rfl rfl (Stp.rd (Rdo.move rfl) rfl ?_)
    refine WpL.want rfl rfl rfl (Stp.rd (Rdo.load rfl (Lds.next (Lds.next (Lds.next (Lds.next (Lds.next (Lds.next (Lds.next (Lds.next (Lds.next (Lds.next (by apply Lds.all; (first | rfl | assumption | (simp <;> fail)))))))))))))) rfl ?_)
    (refine WpL.want rfl rfl rfl (Stp.sliceV rfl rfl (VCs.cons (VC.ag _) (by first | rfl | assumption | (simp <;> done)) VCs.nil) (by simp only [List.cons_append, List.nil_append, List.append_nil]; exact rfl) rfl rfl ?_); intro nb67)
    refine WpL.want rfl rfl rfl (Stp.call (put_nil _) (by kernel_rfl) rfl (by repeat (first | exact Tk.nil | apply Tk.cons (by repeat (first | exact Pk.here | apply Pk.next)))) rfl ?_)
    rintro _ _ ⟨rfl, rfl⟩
    refine WpL.lst (by simp only [List.cons_append, List.nil_append]; exact rfl) ?_
    refine WpL.want rfl rfl rfl (Stp.rd (Rdo.eqi rfl rfl) rfl ?_)
    refine WpL.step (Stp.rd (Rdo.pick_t rfl rfl) rfl ?_)
    refine WpL.step (Stp.rd (Rdo.move rfl) rfl ?_)
    refine WpL.want rfl rfl rfl (Stp.rd (Rdo.move rfl) rfl ?_)
    refine WpL.want rfl rfl rfl (Stp.call (len_nil) (by kernel_rfl) rfl (by repeat (first | exact Tk.nil | apply Tk.cons (by repeat (first | exact Pk.here | apply Pk.next)))) rfl ?_)
    rintro _ _ ⟨rfl, rfl⟩
    refine WpL.lst (by simp only [List.cons_append, List.nil_append]; exact rfl) ?_
    refine WpL.want rfl rfl rfl (Stp.rd (Rdo.eqi rfl rfl) rfl ?_)
    refine WpL.step (Stp.rd (Rdo.pick_t rfl rfl) rfl ?_)
    refine WpL.step (Stp.rd (Rdo.move rfl) rfl ?_)
    refine WpL.want rfl rfl rfl (Stp.rd (Rdo.move rfl) rfl ?_)
    refine WpL.want rfl rfl rfl (Stp.rd (Rdo.not rfl) rfl ?_)
    refine WpL.step (Stp.rd (Rdo.pick_t rfl rfl) rfl ?_)
    refine WpL.step (Stp.rd (Rdo.move rfl) rfl ?_)
    refine WpL.want rfl rfl rfl (Stp.rd (Rdo.move rfl) rfl ?_)
    refine WpL.want rfl rfl rfl (Stp.rd (Rdo.not rfl) rfl ?_)
    refine WpL.step (Stp.rd (Rdo.pick_t rfl rfl) rfl ?_)
    refine WpL.step (Stp.rd (Rdo.move rfl) rfl ?_)
    refine WpL.want rfl rfl rfl (Stp.rd (Rdo.move rfl) rfl ?_)
    refine WpL.want rfl rfl rfl (Stp.call (twice_nil _) (by kernel_rfl) rfl (by repeat (first | exact Tk.nil | apply Tk.cons (by repeat (first | exact Pk.here | apply Pk.next)))) rfl ?_)
    rintro _ _ ⟨rfl, rfl⟩
    refine WpL.lst (by simp only [List.cons_append, List.nil_append]; exact rfl) ?_
    refine WpL.want rfl rfl rfl (Stp.rd (Rdo.not rfl) rfl ?_)
    refine WpL.step (Stp.rd (Rdo.pick_t rfl rfl) rfl ?_)
    refine WpL.step (Stp.rd (Rdo.move rfl) rfl ?_)
    refine WpL.want rfl rfl rfl (Stp.rd (Rdo.move rfl) rfl ?_)
    refine WpL.want rfl rfl rfl (Stp.call (lost_nil) (by kernel_rfl) rfl (by repeat (first | exact Tk.nil | apply Tk.cons (by repeat (first | exact Pk.here | apply Pk.next)))) rfl ?_)
    rintro _ _ ⟨rfl, rfl⟩
    refine WpL.lst (by simp only [List.cons_append, List.nil_append]; exact rfl) ?_
    refine WpL.want rfl rfl rfl (Stp.rd (Rdo.eqi rfl rfl) rfl ?_)
    refine WpL.step (Stp.rd (Rdo.pick_t rfl rfl) rfl ?_)
    refine WpL.step (Stp.rd (Rdo.move rfl) rfl ?_)
    refine WpL.want rfl rfl rfl (Stp.call (known_ok) (by kernel_rfl) rfl (by repeat (first | exact Tk.nil | apply Tk.cons (by repeat (first | exact Pk.here | apply Pk.next)))) rfl ?_)
    rintro _ _ rfl
    refine WpL.step (Stp.rd (Rdo.pick_t rfl rfl) rfl ?_)
    refine WpL.step (Stp.rd (Rdo.assign rfl) rfl ?_)
    refine WpL.nil ?_
    refine Thn.n ?_
    refine Wp.ret ?_
    refine Ret.now (ResV.tmp rfl ResV.nil) (Gh.tk (by repeat (first | exact Tk.nil | apply Tk.cons (by repeat (first | exact Pk.here | apply Pk.next))))) rfl
  · have hv0' : ¬ (0 : Int) < m.votes.length := by omega
    refine Wp.condL rfl (by first | rfl | assumption | (simp only [decide_eq_true_eq, decide_eq_false_iff_not, Bool.not_eq_true', Bool.not_eq_false', List.length_cons, List.length_nil]; first | assumption | omega) | (simp <;> done) | (simp <;> omega)) ?_
    refine Wp.skip ?_
    refine Thn.n ?_
    refine Wp.seq ?_
    refine Wp.region ?_
    refine WpL.step (Stp.rd (Rdo.move rfl) rfl ?_)
    refine WpL.step (Stp.call (s2 _) (by kernel_rfl) rfl (by repeat (first | exact Tk.nil | apply Tk.cons (by repeat (first | exact Pk.here | apply Pk.next)))) rfl ?_)
    rintro _ _ ⟨v7_0, ⟨rfl, rfl⟩⟩
    refine WpL.lst (by simp only [List.cons_append, List.nil_append]; exact rfl) ?_
    refine WpL.step (Stp.rd (Rdo.move rfl) rfl ?_)
    refine WpL.step (Stp.rd (Rdo.extract rfl rfl) rfl ?_)
    refine WpL.step (Stp.rd (Rdo.extract rfl rfl) rfl ?_)
    (refine WpL.step (Stp.alloc rfl ?_); intro nb12)
    refine WpL.step (Stp.storeV rfl rfl (VC.ag _) (by first | rfl | assumption | (simp <;> done)) (by repeat (first | (apply Sts.all; (focus (first | rfl | assumption | (simp <;> done))); (focus (first | exact oneCells1 rfl | assumption | exact oneCells1 (by assumption) | ((repeat (first | assumption | exact oneCells_nil | exact oneCells_bytesC _ | (apply oneCells_cons; (focus (first | rfl | assumption))) | apply oneCells_append)); done) | (simp [oneCells, Value.oneCell'] <;> done)))) | (apply Sts.lp (by repeat (first | exact LPut.nil _ | apply LPut.here | apply LPut.next)); (focus (first | exact oneCells1 rfl | assumption | exact oneCells1 (by assumption) | ((repeat (first | assumption | exact oneCells_nil | exact oneCells_bytesC _ | (apply oneCells_cons; (focus (first | rfl | assumption))) | apply oneCells_append)); done) | (simp [oneCells, Value.oneCell'] <;> done)))) | (refine Sts.row1 (by first | assumption | omega | (simp <;> omega)) (by first | rfl | assumption)) | (refine Sts.rowP (by assumption) (by first | rfl | assumption | (simp <;> done)) (by rfl) (by (first | exact oneCells1 rfl | assumption | exact oneCells1 (by assumption) | ((repeat (first | assumption | exact oneCells_nil | exact oneCells_bytesC _ | (apply oneCells_cons; (focus (first | rfl | assumption))) | apply oneCells_append)); done) | (simp [oneCells, Value.oneCell'] <;> done)))) | apply Sts.next)) ?_)
    refine WpL.step (Stp.rd (Rdo.assign rfl) rfl ?_)
    refine WpL.nil ?_
    refine Thn.n ?_
    refine Wp.seq ?_
    refine Wp.seq ?_
    refine Wp.region ?_
    refine WpL.step (Stp.rd (Rdo.move rfl) rfl ?_)
    refine WpL.step (Stp.rd (Rdo.not rfl) rfl ?_)
    refine WpL.step (Stp.rd (Rdo.move rfl) rfl ?_)
    refine WpL.want rfl rfl rfl (Stp.rd (Rdo.load rfl (by apply Lds.all; (first | rfl | assumption | (simp <;> fail)))) rfl ?_)
    refine WpL.want rfl rfl rfl (Stp.rd (Rdo.load rfl (Lds.next (Lds.next (Lds.next (Lds.next (Lds.next (Lds.next (Lds.next (by apply Lds.all; (first | rfl | assumption | (simp <;> fail))))))))))) rfl ?_)
    refine WpL.want rfl rfl rfl (Stp.call (s4 _) (by kernel_rfl) rfl (by repeat (first | exact Tk.nil | apply Tk.cons (by repeat (first | exact Pk.here | apply Pk.next)))) rfl ?_)
    rintro _ _ ⟨rfl, rfl⟩
    refine WpL.lst (by simp only [List.cons_append, List.nil_append]; exact rfl) ?_
    refine WpL.want rfl rfl rfl (Stp.rd (Rdo.not rfl) rfl ?_)
    refine WpL.step (Stp.rd (Rdo.pick_f rfl rfl) rfl ?_)
    refine WpL.step (Stp.rd (Rdo.move rfl) rfl ?_)
    refine WpL.want rfl rfl rfl (Stp.rd (Rdo.fieldAddr0 rfl) rfl ?_)
    refine WpL.want rfl rfl rfl (Stp.rd (Rdo.load rfl (Lds.next (Lds.next (Lds.next (Lds.one rfl))))) rfl ?_)
    refine WpL.want rfl rfl rfl (Stp.rd (Rdo.lenSlice rfl) rfl ?_)
    refine WpL.want rfl rfl rfl (Stp.rd (Rdo.eqi rfl rfl) rfl ?_)
    refine WpL.step (Stp.rd (Rdo.pick_f rfl rfl) rfl ?_)
    refine WpL.nil ?_
    refine Thn.n ?_
    refine Wp.condL rfl (by first | rfl | assumption | (simp only [decide_eq_true_eq, decide_eq_false_iff_not, Bool.not_eq_true', Bool.not_eq_false', List.length_cons, List.length_nil]; first | assumption | omega) | (simp <;> done) | (simp <;> omega)) ?_
    refine Wp.skip ?_
    refine Thn.n ?_
    refine Wp.seq ?_
    refine Wp.region ?_
    refine WpL.step (Stp.rd (Rdo.fieldAddr0 rfl) rfl ?_)
    refine WpL.step (Stp.rd (Rdo.load rfl (Lds.next (Lds.next (Lds.next (Lds.one rfl))))) rfl ?_)
    refine WpL.get Pk.here (fun r => rowA_at 0 (by omega)) ?_
    rintro ⟨b3, o3, k3, hv3⟩
    simp only [Value.slice.injEq, true_and] at hv3
    obtain ⟨hv4, hv5⟩ := hv3
    rw [hv4]
    refine WpL.step (Stp.rd (Rdo.indexSliceE (i := 0) rfl rfl rfl (by first | omega | (simp <;> omega))) rfl ?_)
    refine WpL.step (Stp.rd (Rdo.load rfl (Lds.row1 (by assumption))) rfl ?_)
    refine WpL.step (Stp.rd (Rdo.xor rfl rfl) rfl ?_)
    refine WpL.step (Stp.rd (Rdo.indexSliceE (i := 0) rfl rfl rfl (by first | omega | (simp <;> omega))) rfl ?_)
    refine WpL.step (Stp.storeV rfl rfl (VC.i _ _) (by first | rfl | assumption | (simp <;> done)) (by repeat (first | (apply Sts.all; (focus (first | rfl | assumption | (simp <;> done))); (focus (first | exact oneCells1 rfl | assumption | exact oneCells1 (by assumption) | ((repeat (first | assumption | exact oneCells_nil | exact oneCells_bytesC _ | (apply oneCells_cons; (focus (first | rfl | assumption))) | apply oneCells_append)); done) | (simp [oneCells, Value.oneCell'] <;> done)))) | (apply Sts.lp (by repeat (first | exact LPut.nil _ | apply LPut.here | apply LPut.next)); (focus (first | exact oneCells1 rfl | assumption | exact oneCells1 (by assumption) | ((repeat (first | assumption | exact oneCells_nil | exact oneCells_bytesC _ | (apply oneCells_cons; (focus (first | rfl | assumption))) | apply oneCells_append)); done) | (simp [oneCells, Value.oneCell'] <;> done)))) | (refine Sts.row1 (by first | assumption | omega | (simp <;> omega)) (by first | rfl | assumption)) | (refine Sts.rowP (by assumption) (by first | rfl | assumption | (simp <;> done)) (by rfl) (by (first | exact oneCells1 rfl | assumption | exact oneCells1 (by assumption) | ((repeat (first | assumption | exact oneCells_nil | exact oneCells_bytesC _ | (apply oneCells_cons; (focus (first | rfl | assumption))) | apply oneCells_append)); done) | (simp [oneCells, Value.oneCell'] <;> done)))) | apply Sts.next)) ?_)
    refine WpL.nil ?_
    refine Thn.n ?_
    refine Wp.seq ?_
    refine Wp.region ?_
    refine WpL.step (Stp.rd (Rdo.move rfl) rfl ?_)
    refine WpL.step (Stp.call (s3 _) (by kernel_rfl) rfl (by repeat (first | exact Tk.nil | apply Tk.cons (by repeat (first | exact Pk.here | apply Pk.next)))) rfl ?_)
    rintro _ _ ⟨v11_0, ⟨rfl, rfl⟩⟩
    refine WpL.lst (by simp only [List.cons_append, List.nil_append]; exact rfl) ?_
    refine WpL.step (Stp.rd (Rdo.move rfl) rfl ?_)
    refine WpL.step (Stp.rd (Rdo.extract rfl rfl) rfl ?_)
    refine WpL.step (Stp.rd (Rdo.extract rfl rfl) rfl ?_)
    (refine WpL.step (Stp.alloc rfl ?_); intro nb16)
    refine WpL.step (Stp.storeV rfl rfl (VC.ag _) (by first | rfl | assumption | (simp <;> done)) (by repeat (first | (apply Sts.all; (focus (first | rfl | assumption | (simp <;> done))); (focus (first | exact oneCells1 rfl | assumption | exact oneCells1 (by assumption) | ((repeat (first | assumption | exact oneCells_nil | exact oneCells_bytesC _ | (apply oneCells_cons; (focus (first | rfl | assumption))) | apply oneCells_append)); done) | (simp [oneCells, Value.oneCell'] <;> done)))) | (apply Sts.lp (by repeat (first | exact LPut.nil _ | apply LPut.here | apply LPut.next)); (focus (first | exact oneCells1 rfl | assumption | exact oneCells1 (by assumption) | ((repeat (first | assumption | exact oneCells_nil | exact oneCells_bytesC _ | (apply oneCells_cons; (focus (first | rfl | assumption))) | apply oneCells_append)); done) | (simp [oneCells, Value.oneCell'] <;> done)))) | (refine Sts.row1 (by first | assumption | omega | (simp <;> omega)) (by first | rfl | assumption)) | (refine Sts.rowP (by assumption) (by first | rfl | assumption | (simp <;> done)) (by rfl) (by (first | exact oneCells1 rfl | assumption | exact oneCells1 (by assumption) | ((repeat (first | assumption | exact oneCells_nil | exact oneCells_bytesC _ | (apply oneCells_cons; (focus (first | rfl | assumption))) | apply oneCells_append)); done) | (simp [oneCells, Value.oneCell'] <;> done)))) | apply Sts.next)) ?_)
    refine WpL.step (Stp.rd (Rdo.assign rfl) rfl ?_)
    refine WpL.nil ?_
    refine Thn.n ?_
    refine Wp.seq ?_
    refine Wp.region ?_
    refine WpL.step (Stp.rd (Rdo.assign rfl) rfl ?_)
    refine WpL.nil ?_
    refine Thn.n ?_
    refine Wp.seq ?_
    refine Wp.region ?_
    refine WpL.step (Stp.rd (Rdo.move rfl) rfl ?_)
    refine WpL.step (Stp.call (at_nil _) (by kernel_rfl) rfl (by repeat (first | exact Tk.nil | apply Tk.cons (by repeat (first | exact Pk.here | apply Pk.next)))) rfl ?_)
    rintro _ _ ⟨rfl, rfl⟩
    refine WpL.lst (by simp only [List.cons_append, List.nil_append]; exact rfl) ?_
    refine WpL.step (Stp.rd (Rdo.move rfl) rfl ?_)
    refine WpL.step (Stp.rd (Rdo.extract rfl rfl) rfl ?_)
    refine WpL.step (Stp.rd (Rdo.extract rfl rfl) rfl ?_)
    (refine WpL.step (Stp.alloc rfl ?_); intro nb35)
    refine WpL.step (Stp.storeV rfl rfl (VC.ag _) (by first | rfl | assumption | (simp <;> done)) (by repeat (first | (apply Sts.all; (focus (first | rfl | assumption | (simp <;> done))); (focus (first | exact oneCells1 rfl | assumption | exact oneCells1 (by assumption) | ((repeat (first | assumption | exact oneCells_nil | exact oneCells_bytesC _ | (apply oneCells_cons; (focus (first | rfl | assumption))) | apply oneCells_append)); done) | (simp [oneCells, Value.oneCell'] <;> done)))) | (apply Sts.lp (by repeat (first | exact LPut.nil _ | apply LPut.here | apply LPut.next)); (focus (first | exact oneCells1 rfl | assumption | exact oneCells1 (by assumption) | ((repeat (first | assumption | exact oneCells_nil | exact oneCells_bytesC _ | (apply oneCells_cons; (focus (first | rfl | assumption))) | apply oneCells_append)); done) | (simp [oneCells, Value.oneCell'] <;> done)))) | (refine Sts.row1 (by first | assumption | omega | (simp <;> omega)) (by first | rfl | assumption)) | (refine Sts.rowP (by assumption) (by first | rfl | assumption | (simp <;> done)) (by rfl) (by (first | exact oneCells1 rfl | assumption | exact oneCells1 (by assumption) | ((repeat (first | assumption | exact oneCells_nil | exact oneCells_bytesC _ | (apply oneCells_cons; (focus (first | rfl | assumption))) | apply oneCells_append)); done) | (simp [oneCells, Value.oneCell'] <;> done)))) | apply Sts.next)) ?_)
    refine WpL.step (Stp.rd (Rdo.assign rfl) rfl ?_)
    refine WpL.nil ?_
    refine Thn.n ?_
    refine Wp.seq ?_
    refine Wp.region ?_
    refine WpL.step (Stp.rd (Rdo.move rfl) rfl ?_)
    refine WpL.step (Stp.call (pull_nil _) (by kernel_rfl) rfl (by repeat (first | exact Tk.nil | apply Tk.cons (by repeat (first | exact Pk.here | apply Pk.next)))) rfl ?_)
    rintro _ _ ⟨rfl, rfl⟩
    refine WpL.lst (by simp only [List.cons_append, List.nil_append]; exact rfl) ?_
    refine WpL.step (Stp.rd (Rdo.move rfl) rfl ?_)
    refine WpL.step (Stp.rd (Rdo.extract rfl rfl) rfl ?_)
    refine WpL.step (Stp.rd (Rdo.extract rfl rfl) rfl ?_)
    (refine WpL.step (Stp.alloc rfl ?_); intro nb49)
    refine WpL.step (Stp.storeV rfl rfl (VC.ag _) (by first | rfl | assumption | (simp <;> done)) (by repeat (first | (apply Sts.all; (focus (first | rfl | assumption | (simp <;> done))); (focus (first | exact oneCells1 rfl | assumption | exact oneCells1 (by assumption) | ((repeat (first | assumption | exact oneCells_nil | exact oneCells_bytesC _ | (apply oneCells_cons; (focus (first | rfl | assumption))) | apply oneCells_append)); done) | (simp [oneCells, Value.oneCell'] <;> done)))) | (apply Sts.lp (by repeat (first | exact LPut.nil _ | apply LPut.here | apply LPut.next)); (focus (first | exact oneCells1 rfl | assumption | exact oneCells1 (by assumption) | ((repeat (first | assumption | exact oneCells_nil | exact oneCells_bytesC _ | (apply oneCells_cons; (focus (first | rfl | assumption))) | apply oneCells_append)); done) | (simp [oneCells, Value.oneCell'] <;> done)))) | (refine Sts.row1 (by first | assumption | omega | (simp <;> omega)) (by first | rfl | assumption)) | (refine Sts.rowP (by assumption) (by first | rfl | assumption | (simp <;> done)) (by rfl) (by (first | exact oneCells1 rfl | assumption | exact oneCells1 (by assumption) | ((repeat (first | assumption | exact oneCells_nil | exact oneCells_bytesC _ | (apply oneCells_cons; (focus (first | rfl | assumption))) | apply oneCells_append)); done) | (simp [oneCells, Value.oneCell'] <;> done)))) | apply Sts.next)) ?_)
    refine WpL.step (Stp.rd (Rdo.assign rfl) rfl ?_)
    refine WpL.nil ?_
    refine Thn.n ?_
    refine Wp.seq ?_
    refine Wp.region ?_
    refine WpL.step (Stp.rd (Rdo.move rfl) rfl ?_)
    refine WpL.step (Stp.rd (Rdo.move rfl) rfl ?_)
    refine WpL.want rfl rfl rfl (Stp.rd (Rdo.load rfl (Lds.next (Lds.next (by apply Lds.all; (first | rfl | assumption | (simp <;> fail)))))) rfl ?_)
    refine WpL.want rfl rfl rfl (Stp.rd (Rdo.load rfl (Lds.next (Lds.next (Lds.next (Lds.next (Lds.next (Lds.next (Lds.next (Lds.next (Lds.next (Lds.next (Lds.next (Lds.next (by apply Lds.all; (first | rfl | assumption | (simp <;> fail)))))))))))))))) rfl ?_)
    refine WpL.want rfl rfl rfl (Stp.call (s5 _) (by kernel_rfl) rfl (by repeat (first | exact Tk.nil | apply Tk.cons (by repeat (first | exact Pk.here | apply Pk.next)))) rfl ?_)
    rintro _ _ ⟨rfl, rfl⟩
    refine WpL.lst (by simp only [List.cons_append, List.nil_append]; exact rfl) ?_
    refine WpL.step (Stp.rd (Rdo.pick_t rfl rfl) rfl ?_)
    refine WpL.step (Stp.rd (Rdo.move rfl) rfl ?_)
    refine WpL.want rfl rfl rfl (Stp.rd (Rdo.move rfl) rfl ?_)
    refine WpL.want rfl rfl rfl (Stp.rd (Rdo.load rfl (Lds.next (Lds.next (Lds.next (Lds.next (Lds.next (Lds.next (Lds.next (Lds.next (Lds.next (Lds.next (by apply Lds.all; (first | rfl | assumption | (simp <;> fail)))))))))))))) rfl ?_)
    (refine WpL.want rfl rfl rfl (Stp.sliceV rfl rfl (VCs.cons (VC.ag _) (by first | rfl | assumption | (simp <;> done)) VCs.nil) (by simp only [List.cons_append, List.nil_append, List.append_nil]; exact rfl) rfl rfl ?_); intro nb67)
    refine WpL.want rfl rfl rfl (Stp.call (put_nil _) (by kernel_rfl) rfl (by repeat (first | exact Tk.nil | apply Tk.cons (by repeat (first | exact Pk.here | apply Pk.next)))) rfl ?_)
    rintro _ _ ⟨rfl, rfl⟩
    refine WpL.lst (by simp only [List.cons_append, List.nil_append]; exact rfl) ?_
    refine WpL.want rfl rfl rfl (Stp.rd (Rdo.eqi rfl rfl) rfl ?_)
    refine WpL.step (Stp.rd (Rdo.pick_t rfl rfl) rfl ?_)
    refine WpL.step (Stp.rd (Rdo.move rfl) rfl ?_)
    refine WpL.want rfl rfl rfl (Stp.rd (Rdo.move rfl) rfl ?_)
    refine WpL.want rfl rfl rfl (Stp.call (len_nil) (by kernel_rfl) rfl (by repeat (first | exact Tk.nil | apply Tk.cons (by repeat (first | exact Pk.here | apply Pk.next)))) rfl ?_)
    rintro _ _ ⟨rfl, rfl⟩
    refine WpL.lst (by simp only [List.cons_append, List.nil_append]; exact rfl) ?_
    refine WpL.want rfl rfl rfl (Stp.rd (Rdo.eqi rfl rfl) rfl ?_)
    refine WpL.step (Stp.rd (Rdo.pick_t rfl rfl) rfl ?_)
    refine WpL.step (Stp.rd (Rdo.move rfl) rfl ?_)
    refine WpL.want rfl rfl rfl (Stp.rd (Rdo.move rfl) rfl ?_)
    refine WpL.want rfl rfl rfl (Stp.rd (Rdo.not rfl) rfl ?_)
    refine WpL.step (Stp.rd (Rdo.pick_t rfl rfl) rfl ?_)
    refine WpL.step (Stp.rd (Rdo.move rfl) rfl ?_)
    refine WpL.want rfl rfl rfl (Stp.rd (Rdo.move rfl) rfl ?_)
    refine WpL.want rfl rfl rfl (Stp.rd (Rdo.not rfl) rfl ?_)
    refine WpL.step (Stp.rd (Rdo.pick_t rfl rfl) rfl ?_)
    refine WpL.step (Stp.rd (Rdo.move rfl) rfl ?_)
    refine WpL.want rfl rfl rfl (Stp.rd (Rdo.move rfl) rfl ?_)
    refine WpL.want rfl rfl rfl (Stp.call (twice_nil _) (by kernel_rfl) rfl (by repeat (first | exact Tk.nil | apply Tk.cons (by repeat (first | exact Pk.here | apply Pk.next)))) rfl ?_)
    rintro _ _ ⟨rfl, rfl⟩
    refine WpL.lst (by simp only [List.cons_append, List.nil_append]; exact rfl) ?_
    refine WpL.want rfl rfl rfl (Stp.rd (Rdo.not rfl) rfl ?_)
    refine WpL.step (Stp.rd (Rdo.pick_t rfl rfl) rfl ?_)
    refine WpL.step (Stp.rd (Rdo.move rfl) rfl ?_)
    refine WpL.want rfl rfl rfl (Stp.rd (Rdo.move rfl) rfl ?_)
    refine WpL.want rfl rfl rfl (Stp.call (lost_nil) (by kernel_rfl) rfl (by repeat (first | exact Tk.nil | apply Tk.cons (by repeat (first | exact Pk.here | apply Pk.next)))) rfl ?_)
    rintro _ _ ⟨rfl, rfl⟩
    refine WpL.lst (by simp only [List.cons_append, List.nil_append]; exact rfl) ?_
    refine WpL.want rfl rfl rfl (Stp.rd (Rdo.eqi rfl rfl) rfl ?_)
    refine WpL.step (Stp.rd (Rdo.pick_t rfl rfl) rfl ?_)
    refine WpL.step (Stp.rd (Rdo.move rfl) rfl ?_)
    refine WpL.want rfl rfl rfl (Stp.call (known_ok) (by kernel_rfl) rfl (by repeat (first | exact Tk.nil | apply Tk.cons (by repeat (first | exact Pk.here | apply Pk.next)))) rfl ?_)
    rintro _ _ rfl
    refine WpL.step (Stp.rd (Rdo.pick_t rfl rfl) rfl ?_)
    refine WpL.step (Stp.rd (Rdo.assign rfl) rfl ?_)
    refine WpL.nil ?_
    refine Thn.n ?_
    refine Wp.ret ?_
    refine Ret.now (ResV.tmp rfl ResV.nil) (Gh.tk (by repeat (first | exact Tk.nil | apply Tk.cons (by repeat (first | exact Pk.here | apply Pk.next))))) rfl

theorem own_walk (cs : Array Value) (m : Msg) (w : World) (h : RMsg (fun b => w.heap[b]?) cs.toList m) :
    Calls Try.prog 5 #[.agg cs] w fun e w' => e = .returned (.bool true) ∧ Go.RowKit.Below w.heap.size w w' := by
  obtain ⟨x, hx, h1, _⟩ := h
  obtain rfl : cs = (msgCs m x).toArray := by rw [← hx]
  exact Trip.top (args := [.agg (msgCs m x).toArray]) (Φ := fun g => RdMsg g (msgCs m x) m) (post := fun r _ => r = vb true) h1 (fun _ _ h => h) (ownLaw_ok m x)
end Go.Proofs.Ytmeaekcengmfbaa
