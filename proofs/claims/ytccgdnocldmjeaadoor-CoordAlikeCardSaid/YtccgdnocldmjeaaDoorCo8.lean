/- The coordinator: a producer begins another epoch. -/
import Derived.Test.YtccgdnocldmjeaaDoorCo7
import Derived.Test.YtccgdnocldmjeaaDoorCvt
namespace Go.Proofs.YtccgdnocldmjeaaDoor
open Go
set_option maxHeartbeats 4000000
set_option linter.unusedSimpArgs false
set_option linter.unusedVariables false
set_option maxRecDepth 20000
open Tabprod

abbrev markA (v : Value) (ms : List Mark) : HP := rowA 36 4 v ms.length (ms.map markC).flatten
theorem fin0 {b : Nat} {c : CoS} (m : CoM) (hm : m.qs.length = c.prods.length) : Gh (coX b c m) [coA b c, markA vnil []] :=
  Gh.trans (coA_shut (l := []) m hm) (Gh.trans (Gh.nil 36 4) (Gh.perm (List.Perm.swap _ _ _)))
theorem fin1 {b : Nat} {c : CoS} {v : Value} {ms : List Mark} (m : CoM) (hm : m.qs.length = c.prods.length) : Gh (coX b c m ++ [markA v ms]) [coA b c, markA v ms] := coA_shut m hm
theorem prodA_shut0 {l : List HP} {q : Nat} {p : Prod} (h : p.opn = false) : Gh (cel q 74 (prodC p (.map none)) :: l) (prodA q p :: l) := by
  refine Gh.trans (Gh.mk fun F w hl => ?_) (prodA_shut (v := .map none))
  have h2 : Holds (pmA (.map none) p.opn p.parts :: cel q 74 (prodC p (.map none)) :: l) F w := by
    unfold pmA
    rw [h]
    exact Holds.shut_pure rfl hl
  exact h2.perm (List.Perm.swap _ _ _)
theorem tabE_put {qs : List Nat} {ps : List Prod} (h : qs.length = ps.length) (q : Nat) : aset (tabE 0 qs) (ps.length : Int) (vp q 0) = tabE 0 (qs ++ [q]) := by rw [← h, tabE_set]
theorem begins_full (b : Nat) (c : CoS) (o : Go.Proofs.YtccgdnocldmjeaaDoor.Op) (h8 : c.prods.length ≤ 8) (hi : nameAt c.prods o.name = none) (h : 8 ≤ c.prods.length) :
    Trip Tryd.prog 36 [vp b 0, .agg (opC o).toArray] [coA b c] (fun r l => ∃ v, r = .tuple #[.agg (repC ⟨3, 0, 0⟩).toArray, v] ∧ l = [coA b c, markA v []]) := by
  refine Trip.ghE coA_open ?_
  rintro m hm
  have s1 := named_new b m.tb m.mb 64 m.mv (.map (some m.db)) (.map (some m.ab)) (vi c.now) m.qs c.prods o.name hm h8 hi
  have h' : (8 : Int) ≤ c.prods.length := by omega
  simp only [coX, List.cons_append, List.nil_append]
  refine Trip.of_body Tryd.func36 rfl Tryd.ntmps36 Tryd.results36 rfl ?_
  refine Wp.seq ?_
  refine Wp.region ?_
  (refine WpL.step (Stp.boxV rfl (VC.ag _) rfl ?_); intro nb2)
  (refine WpL.step (Stp.alloc rfl ?_); intro nb3)
  refine WpL.step (Stp.rd (Rdo.assign rfl) rfl ?_)
  refine WpL.nil ?_
  refine Thn.n ?_
  refine Wp.seq ?_
  refine Wp.region ?_
  refine WpL.step (Stp.rd (Rdo.move rfl) rfl ?_)
  refine WpL.step (Stp.rd (Rdo.fieldAddr0 rfl) rfl ?_)
  refine WpL.step (Stp.rd (Rdo.load rfl (Lds.next (Lds.one rfl))) rfl ?_)
  refine WpL.step (Stp.call (s1) (by kernel_rfl) rfl (by repeat (first | exact Tk.nil | apply Tk.cons (by repeat (first | exact Pk.here | apply Pk.next)))) rfl ?_)
  rintro _ _ ⟨v13_0, ⟨rfl, rfl⟩⟩
  refine WpL.lst (by simp only [List.cons_append, List.nil_append]; exact rfl) ?_
  refine WpL.step (Stp.rd (Rdo.move rfl) rfl ?_)
  refine WpL.step (Stp.rd (Rdo.extract rfl rfl) rfl ?_)
  refine WpL.step (Stp.rd (Rdo.extract rfl rfl) rfl ?_)
  refine WpL.step (Stp.rd (Rdo.extract rfl rfl) rfl ?_)
  refine WpL.step (Stp.rd (Rdo.assign rfl) rfl ?_)
  refine WpL.step (Stp.rd (Rdo.assign rfl) rfl ?_)
  refine WpL.step (Stp.rd (Rdo.assign rfl) rfl ?_)
  refine WpL.nil ?_
  refine Thn.n ?_
  refine Wp.seq ?_
  refine Wp.region ?_
  refine WpL.step (Stp.rd (Rdo.assign rfl) rfl ?_)
  refine WpL.nil ?_
  refine Thn.n ?_
  refine Wp.seq ?_
  refine Wp.block ?_
  refine Wp.seq ?_
  refine Wp.region ?_
  refine WpL.step (Stp.rd (Rdo.move rfl) rfl ?_)
  refine WpL.step (Stp.rd (Rdo.not rfl) rfl ?_)
  refine WpL.step (Stp.rd (Rdo.move rfl) rfl ?_)
  refine WpL.want rfl rfl rfl (Stp.rd (Rdo.move rfl) rfl ?_)
  refine WpL.want rfl rfl rfl (Stp.rd (Rdo.gei rfl rfl) rfl ?_)
  refine WpL.step (Stp.rd (Rdo.pick_t rfl rfl) rfl ?_)
  refine WpL.step (Stp.rd (Rdo.assign rfl) rfl ?_)
  refine WpL.nil ?_
  refine Thn.n ?_
  refine Wp.condK rfl (by first | rfl | assumption | (simp only [decide_eq_true_eq, decide_eq_false_iff_not, Bool.not_eq_true', Bool.not_eq_false', List.length_cons, List.length_nil]; first | assumption | omega) | (simp <;> done) | (simp <;> omega)) ?_
  refine Wp.seq ?_
  refine Wp.region ?_
  refine WpL.step (Stp.rd (Rdo.bld rfl (BldL.cons rfl (VC.i _ _) (by first | rfl | assumption | (simp <;> done)) (by repeat (first | exact LPut.nil _ | apply LPut.here | apply LPut.next)) (BldL.nil _))) rfl ?_)
  refine WpL.step (Stp.storeV rfl rfl (VC.ag _) (by first | rfl | assumption | (simp <;> done)) (by repeat (first | (apply Sts.all; (focus (first | rfl | assumption | (simp <;> done))); (focus (first | exact oneCells1 rfl | assumption | exact oneCells1 (by assumption) | ((repeat (first | assumption | exact oneCells_nil | exact oneCells_bytesC _ | (apply oneCells_cons; (focus (first | rfl | assumption))) | apply oneCells_append)); done) | (simp [oneCells, Value.oneCell'] <;> done)))) | (apply Sts.lp (by repeat (first | exact LPut.nil _ | apply LPut.here | apply LPut.next)); (focus (first | exact oneCells1 rfl | assumption | exact oneCells1 (by assumption) | ((repeat (first | assumption | exact oneCells_nil | exact oneCells_bytesC _ | (apply oneCells_cons; (focus (first | rfl | assumption))) | apply oneCells_append)); done) | (simp [oneCells, Value.oneCell'] <;> done)))) | (refine Sts.row1 (by first | assumption | omega | (simp <;> omega)) (by first | rfl | assumption)) | (refine Sts.rowP (by assumption) (by first | rfl | assumption | (simp <;> done)) (by rfl) (by (first | exact oneCells1 rfl | assumption | exact oneCells1 (by assumption) | ((repeat (first | assumption | exact oneCells_nil | exact oneCells_bytesC _ | (apply oneCells_cons; (focus (first | rfl | assumption))) | apply oneCells_append)); done) | (simp [oneCells, Value.oneCell'] <;> done)))) | apply Sts.next)) ?_)
  refine WpL.step (Stp.rd (Rdo.assign rfl) rfl ?_)
  refine WpL.nil ?_
  refine Thn.n ?_
  refine Wp.ret ?_
  refine Blk.r ?_
  refine Thn.r ?_
  exact Ret.now (by repeat (first | exact ResV.nil | apply ResV.tmp rfl | apply ResV.cell rfl (by repeat (first | exact Lds.one rfl | (apply Lds.all; (first | rfl | assumption | (simp <;> fail))) | exact Lds.ione0 | exact Lds.ione rfl | (apply Lds.iall; (first | rfl | assumption | (simp <;> fail))) | apply Lds.next)))) (Gh.trans (Gh.tk (by repeat (first | exact Tk.nil | apply Tk.cons (by repeat (first | exact Pk.here | apply Pk.next))))) (fin0 m hm)) ⟨_, rfl, rfl⟩
theorem begins_new (b : Nat) (c : CoS) (o : Go.Proofs.YtccgdnocldmjeaaDoor.Op) (h8 : c.prods.length ≤ 8) (hi : nameAt c.prods o.name = none) (h : ¬ 8 ≤ c.prods.length) (hml : c.marks.length ≤ 900000) :
    Trip Tryd.prog 36 [vp b 0, .agg (opC o).toArray] [coA b c] (fun r l => ∃ v, r = .tuple #[.agg (repC (c.begins o.name).1).toArray, v] ∧ l = [coA b (c.begins o.name).2.2, markA v (c.begins o.name).2.1]) := by
  unfold CoS.begins
  simp only [hi]
  rw [if_neg h]
  refine Trip.ghE coA_open ?_
  rintro m hm
  have s1 := named_new b m.tb m.mb 64 m.mv (.map (some m.db)) (.map (some m.ab)) (vi c.now) m.qs c.prods o.name hm h8 hi
  have s2 := told_ok b 64 (vp m.tb 0) m.mv (.map (some m.db)) (.map (some m.ab)) (vi c.now) c.marks ⟨1, c.prods.length, 0, 0⟩ (by omega)
  have h' : ¬ (8 : Int) ≤ c.prods.length := by omega
  simp only [coX, List.cons_append, List.nil_append]
  refine Trip.of_body Tryd.func36 rfl Tryd.ntmps36 Tryd.results36 rfl ?_
  refine Wp.seq ?_
  refine Wp.region ?_
  (refine WpL.step (Stp.boxV rfl (VC.ag _) rfl ?_); intro nb2)
  (refine WpL.step (Stp.alloc rfl ?_); intro nb3)
  refine WpL.step (Stp.rd (Rdo.assign rfl) rfl ?_)
  refine WpL.nil ?_
  refine Thn.n ?_
  refine Wp.seq ?_
  refine Wp.region ?_
  refine WpL.step (Stp.rd (Rdo.move rfl) rfl ?_)
  refine WpL.step (Stp.rd (Rdo.fieldAddr0 rfl) rfl ?_)
  refine WpL.step (Stp.rd (Rdo.load rfl (Lds.next (Lds.one rfl))) rfl ?_)
  refine WpL.step (Stp.call (s1) (by kernel_rfl) rfl (by repeat (first | exact Tk.nil | apply Tk.cons (by repeat (first | exact Pk.here | apply Pk.next)))) rfl ?_)
  rintro _ _ ⟨v13_0, ⟨rfl, rfl⟩⟩
  refine WpL.lst (by simp only [List.cons_append, List.nil_append]; exact rfl) ?_
  refine WpL.step (Stp.rd (Rdo.move rfl) rfl ?_)
  refine WpL.step (Stp.rd (Rdo.extract rfl rfl) rfl ?_)
  refine WpL.step (Stp.rd (Rdo.extract rfl rfl) rfl ?_)
  refine WpL.step (Stp.rd (Rdo.extract rfl rfl) rfl ?_)
  refine WpL.step (Stp.rd (Rdo.assign rfl) rfl ?_)
  refine WpL.step (Stp.rd (Rdo.assign rfl) rfl ?_)
  refine WpL.step (Stp.rd (Rdo.assign rfl) rfl ?_)
  refine WpL.nil ?_
  refine Thn.n ?_
  refine Wp.seq ?_
  refine Wp.region ?_
  refine WpL.step (Stp.rd (Rdo.assign rfl) rfl ?_)
  refine WpL.nil ?_
  refine Thn.n ?_
  refine Wp.seq ?_
  refine Wp.block ?_
  refine Wp.seq ?_
  refine Wp.region ?_
  refine WpL.step (Stp.rd (Rdo.move rfl) rfl ?_)
  refine WpL.step (Stp.rd (Rdo.not rfl) rfl ?_)
  refine WpL.step (Stp.rd (Rdo.move rfl) rfl ?_)
  refine WpL.want rfl rfl rfl (Stp.rd (Rdo.move rfl) rfl ?_)
  refine WpL.want rfl rfl rfl (Stp.rd (Rdo.gei rfl rfl) rfl ?_)
  refine WpL.step (Stp.rd (Rdo.pick_t rfl rfl) rfl ?_)
  refine WpL.step (Stp.rd (Rdo.assign rfl) rfl ?_)
  refine WpL.nil ?_
  refine Thn.n ?_
  refine Wp.condL rfl (by first | rfl | assumption | (simp only [decide_eq_true_eq, decide_eq_false_iff_not, Bool.not_eq_true', Bool.not_eq_false', List.length_cons, List.length_nil]; first | assumption | omega) | (simp <;> done) | (simp <;> omega)) ?_
  refine Wp.seq ?_
  refine Wp.region ?_
  refine WpL.step (Stp.rd (Rdo.move rfl) rfl ?_)
  refine WpL.step (Stp.rd (Rdo.not rfl) rfl ?_)
  refine WpL.step (Stp.rd (Rdo.assign rfl) rfl ?_)
  refine WpL.nil ?_
  refine Thn.n ?_
  refine Wp.condT rfl ?_
  refine Wp.region ?_
  refine WpL.step (Stp.rd (Rdo.move rfl) rfl ?_)
  refine WpL.step (Stp.rd (Rdo.nilCheck rfl) rfl ?_)
  refine WpL.step (Stp.rd (Rdo.fieldAddr0 rfl) rfl ?_)
  refine WpL.step (Stp.rd (Rdo.load rfl (Lds.next (Lds.one rfl))) rfl ?_)
  refine WpL.step (Stp.rd (Rdo.move rfl) rfl ?_)
  refine WpL.step (Stp.rd (Rdo.move rfl) rfl ?_)
  refine WpL.step (Stp.call (Tabprod.set_ok _ _ _ _ _) (by kernel_rfl) rfl (by repeat (first | exact Tk.nil | apply Tk.cons (by repeat (first | exact Pk.here | apply Pk.next)))) rfl ?_)
  rintro _ _ ⟨rfl, rfl⟩
  refine WpL.lst (by simp only [List.cons_append, List.nil_append]; exact rfl) ?_
  refine WpL.nil ?_
  refine Blk.n ?_
  refine Thn.n ?_
  refine Wp.seq ?_
  refine Wp.region ?_
  refine WpL.step (Stp.rd (Rdo.move rfl) rfl ?_)
  refine WpL.step (Stp.rd (Rdo.move rfl) rfl ?_)
  refine WpL.step (Stp.rd (Rdo.move rfl) rfl ?_)
  refine WpL.step (Stp.rd (Rdo.move rfl) rfl ?_)
  refine WpL.step (Stp.rd (Rdo.nilCheck rfl) rfl ?_)
  refine WpL.step (Stp.rd (Rdo.fieldAddr0 rfl) rfl ?_)
  refine WpL.step (Stp.rd (Rdo.load rfl (Lds.next (Lds.next (Lds.one rfl)))) rfl ?_)
  refine WpL.step (Stp.rd (Rdo.bld rfl (BldL.cons rfl (VC.i _ _) (by first | rfl | assumption | (simp <;> done)) (by repeat (first | exact LPut.nil _ | apply LPut.here | apply LPut.next)) (BldL.cons rfl (VC.i _ _) (by first | rfl | assumption | (simp <;> done)) (by repeat (first | exact LPut.nil _ | apply LPut.here | apply LPut.next)) (BldL.cons rfl (VC.i _ _) (by first | rfl | assumption | (simp <;> done)) (by repeat (first | exact LPut.nil _ | apply LPut.here | apply LPut.next)) (BldL.nil _))))) rfl ?_)
  refine WpL.step (Stp.call (s2) (by kernel_rfl) rfl (by repeat (first | exact Tk.nil | apply Tk.cons (by repeat (first | exact Pk.here | apply Pk.next)))) rfl ?_)
  rintro _ _ ⟨v75_0, ⟨v75_1, ⟨rfl, rfl⟩⟩⟩
  refine WpL.lst (by simp only [List.cons_append, List.nil_append]; exact rfl) ?_
  (refine WpL.step (Stp.appendN rfl rfl (Src.next (Src.next (Src.cel (by first | rfl | (simp <;> done) | (simp <;> omega))))) (by first | rfl | (simp <;> done) | (simp <;> omega)) (by first | assumption | exact oneCells1 rfl | exact oneCells1 (by assumption) | exact oneCells_bytesC _ | exact oneCells_votesC _ | (simp [oneCells, Value.oneCell'] <;> done)) (by first | omega | (simp <;> omega)) (by first | omega | (simp <;> omega)) rfl (by first | rfl | (simp <;> done)) ?_); intro na77 nc77)
  refine WpL.step (Stp.rd (Rdo.assign rfl) rfl ?_)
  refine WpL.nil ?_
  refine Thn.n ?_
  refine Wp.seq ?_
  refine Wp.region ?_
  refine WpL.step (Stp.rd (Rdo.move rfl) rfl ?_)
  refine WpL.step (Stp.rd (Rdo.move rfl) rfl ?_)
  refine WpL.step (Stp.rd (Rdo.nilCheck rfl) rfl ?_)
  refine WpL.step (Stp.rd (Rdo.fieldAddr0 rfl) rfl ?_)
  refine WpL.step (Stp.rd (Rdo.load rfl (Lds.next (Lds.next (Lds.next (Lds.next (Lds.next (Lds.next (Lds.one rfl)))))))) rfl ?_)
  refine WpL.step (Stp.rd (Rdo.bld rfl (BldL.cons rfl (VC.i _ _) (by first | rfl | assumption | (simp <;> done)) (by repeat (first | exact LPut.nil _ | apply LPut.here | apply LPut.next)) (BldL.cons rfl (VC.i _ _) (by first | rfl | assumption | (simp <;> done)) (by repeat (first | exact LPut.nil _ | apply LPut.here | apply LPut.next)) (BldL.nil _)))) rfl ?_)
  refine WpL.step (Stp.rd (Rdo.move rfl) rfl ?_)
  refine WpL.step (Stp.storeV rfl rfl (VC.ag _) (by first | rfl | assumption | (simp <;> done)) (by repeat (first | (apply Sts.all; (focus (first | rfl | assumption | (simp <;> done))); (focus (first | exact oneCells1 rfl | assumption | exact oneCells1 (by assumption) | ((repeat (first | assumption | exact oneCells_nil | exact oneCells_bytesC _ | (apply oneCells_cons; (focus (first | rfl | assumption))) | apply oneCells_append)); done) | (simp [oneCells, Value.oneCell'] <;> done)))) | (apply Sts.lp (by repeat (first | exact LPut.nil _ | apply LPut.here | apply LPut.next)); (focus (first | exact oneCells1 rfl | assumption | exact oneCells1 (by assumption) | ((repeat (first | assumption | exact oneCells_nil | exact oneCells_bytesC _ | (apply oneCells_cons; (focus (first | rfl | assumption))) | apply oneCells_append)); done) | (simp [oneCells, Value.oneCell'] <;> done)))) | (refine Sts.row1 (by first | assumption | omega | (simp <;> omega)) (by first | rfl | assumption)) | (refine Sts.rowP (by assumption) (by first | rfl | assumption | (simp <;> done)) (by rfl) (by (first | exact oneCells1 rfl | assumption | exact oneCells1 (by assumption) | ((repeat (first | assumption | exact oneCells_nil | exact oneCells_bytesC _ | (apply oneCells_cons; (focus (first | rfl | assumption))) | apply oneCells_append)); done) | (simp [oneCells, Value.oneCell'] <;> done)))) | apply Sts.next)) ?_)
  refine WpL.step (Stp.rd (Rdo.assign rfl) rfl ?_)
  refine WpL.nil ?_
  refine Thn.n ?_
  refine Wp.ret ?_
  refine Ret.now (by repeat (first | exact ResV.nil | apply ResV.tmp rfl | apply ResV.cell rfl (by repeat (first | exact Lds.one rfl | (apply Lds.all; (first | rfl | assumption | (simp <;> fail))) | exact Lds.ione0 | exact Lds.ione rfl | (apply Lds.iall; (first | rfl | assumption | (simp <;> fail))) | apply Lds.next)))) (Gh.trans (b := cel v13_0 74 (prodC ⟨o.name, 0, 0, false, [], 0⟩ (.map none)) :: prodsA m.qs c.prods :: cel b 64 (coC c { m with mv := v75_0 }) :: cel m.tb 83 [.map (some m.mb)] :: mapA i64 m.mb (aset (tabE 0 m.qs) c.prods.length (vp v13_0 0)) ::
    rowA 36 4 v75_0 (c.marks ++ [(⟨1, c.prods.length, 0, 0⟩ : Mark)]).length ((c.marks ++ [(⟨1, c.prods.length, 0, 0⟩ : Mark)]).map markC).flatten :: mapA markV m.db (c.decided.map fun k => (k, vb true)) :: mapA askV m.ab (c.answers.map fun x => (x.1, .agg (repC x.2).toArray)) :: [markA (.slice na77 1 nc77) [⟨1, c.prods.length, 0, 0⟩]])
    (Gh.tk (by repeat (first | exact Tk.nil | apply Tk.cons (by repeat (first | exact Pk.here | apply Pk.next))))) (Gh.trans (prodA_shut0 rfl) (Gh.trans (Gh.partN hm) ?_))) ⟨_, rfl, rfl⟩
  rw [tabE_put hm]
  refine Gh.trans (Gh.tk (by repeat (first | exact Tk.nil | apply Tk.cons (by repeat (first | exact Pk.here | apply Pk.next))))) (fin1 (c := { c with prods := c.prods ++ [⟨o.name, 0, 0, false, [], 0⟩], marks := c.marks ++ [⟨1, c.prods.length, 0, 0⟩] }) { m with mv := v75_0, qs := m.qs ++ [v13_0] } (by simp [hm]))

theorem tab_open {b tb mb : Nat} {t : TypeId} {v1 v2 v3 v4 : Value} {qs : List Nat} {ps : List Prod} {i q : Nat} {p : Prod} (hqi : qs[i]? = some q) (hpi : ps[i]? = some p) :
    GhE (tabL b tb mb t v1 v2 v3 v4 qs ps) (fun _ : Value => True) (fun v => [cel q 74 (prodC p v), pmA v p.opn p.parts, holeA qs ps i, cel b t [vp tb 0, v1, v2, v3, v4], cel tb 83 [.map (some mb)], mapA i64 mb (tabE 0 qs)]) := by
  refine GhE.mk fun F w hl => ?_
  have h1 : Gh (tabL b tb mb t v1 v2 v3 v4 qs ps) (prodsA qs ps :: [cel b t [vp tb 0, v1, v2, v3, v4], cel tb 83 [.map (some mb)], mapA i64 mb (tabE 0 qs)]) := Gh.tk (by repeat (first | exact Tk.nil | apply Tk.cons (by repeat (first | exact Pk.here | apply Pk.next))))
  exact prodA_open.use ((Gh.part1 hqi hpi).use (h1.use hl))
theorem named_at (b tb mb : Nat) (t : TypeId) (v1 v2 v3 v4 : Value) (qs : List Nat) (ps : List Prod) (s : List UInt8) (hq : qs.length = ps.length) (h8 : ps.length ≤ 8) (i q : Nat) (p : Prod) (hi : nameAt ps s = some i) (hqi : qs[i]? = some q) (hpi : ps[i]? = some p) :
    Trip Tryd.prog 53 [vp b 0, vs s] (tabL b tb mb t v1 v2 v3 v4 qs ps)
      (fun r l => ∃ v, r = .tuple #[vi i, vp q 0, vb true] ∧ l = [cel q 74 (prodC p v), pmA v p.opn p.parts, holeA qs ps i, cel b t [vp tb 0, v1, v2, v3, v4], cel tb 83 [.map (some mb)], mapA i64 mb (tabE 0 qs)]) := by
  refine Trip.viaG (named_in b tb mb t v1 v2 v3 v4 qs ps s hq h8 i q hi hqi) (rest := []) Tk.rfl_ ?_
  rintro v l' ⟨rfl, rfl⟩ F w hl
  rw [List.append_nil] at hl
  obtain ⟨v, _, h⟩ := (tab_open hqi hpi).use hl
  exact ⟨_, ⟨v, rfl, rfl⟩, h⟩
theorem again_used (b : Nat) (c : CoS) (o : Go.Proofs.YtccgdnocldmjeaaDoor.Op) (h8 : c.prods.length ≤ 8) (i : Nat) (p : Prod) (hi : nameAt c.prods o.name = some i) (hpi : c.prods[i]? = some p) (h : 100 ≤ p.epoch) :
    Trip Tryd.prog 36 [vp b 0, .agg (opC o).toArray] [coA b c] (fun r l => ∃ v, r = .tuple #[.agg (repC (c.again i p).1).toArray, v] ∧ l = [coA b (c.again i p).2.2, markA v (c.again i p).2.1]) := by
  unfold CoS.again
  rw [if_pos h]
  refine Trip.ghE coA_open ?_
  rintro m hm
  obtain ⟨q, hqi⟩ : ∃ q, m.qs[i]? = some q := by
    have := (List.getElem?_eq_some_iff.1 hpi).1
    exact ⟨m.qs[i]'(by omega), List.getElem?_eq_getElem (by omega)⟩
  have s1 := named_at b m.tb m.mb 64 m.mv (.map (some m.db)) (.map (some m.ab)) (vi c.now) m.qs c.prods o.name hm h8 i q p hi hqi hpi
  simp only [coX, List.cons_append, List.nil_append]
  refine Trip.of_body Tryd.func36 rfl Tryd.ntmps36 Tryd.results36 rfl ?_
  refine Wp.seq ?_
  refine Wp.region ?_
  (refine WpL.step (Stp.boxV rfl (VC.ag _) rfl ?_); intro nb2)
  (refine WpL.step (Stp.alloc rfl ?_); intro nb3)
  refine WpL.step (Stp.rd (Rdo.assign rfl) rfl ?_)
  refine WpL.nil ?_
  refine Thn.n ?_
  refine Wp.seq ?_
  refine Wp.region ?_
  refine WpL.step (Stp.rd (Rdo.move rfl) rfl ?_)
  refine WpL.step (Stp.rd (Rdo.fieldAddr0 rfl) rfl ?_)
  refine WpL.step (Stp.rd (Rdo.load rfl (Lds.next (Lds.one rfl))) rfl ?_)
  refine WpL.step (Stp.call (s1) (by kernel_rfl) rfl (by repeat (first | exact Tk.nil | apply Tk.cons (by repeat (first | exact Pk.here | apply Pk.next)))) rfl ?_)
  rintro _ _ ⟨v13_0, ⟨rfl, rfl⟩⟩
  refine WpL.lst (by simp only [List.cons_append, List.nil_append]; exact rfl) ?_
  refine WpL.step (Stp.rd (Rdo.move rfl) rfl ?_)
  refine WpL.step (Stp.rd (Rdo.extract rfl rfl) rfl ?_)
  refine WpL.step (Stp.rd (Rdo.extract rfl rfl) rfl ?_)
  refine WpL.step (Stp.rd (Rdo.extract rfl rfl) rfl ?_)
  refine WpL.step (Stp.rd (Rdo.assign rfl) rfl ?_)
  refine WpL.step (Stp.rd (Rdo.assign rfl) rfl ?_)
  refine WpL.step (Stp.rd (Rdo.assign rfl) rfl ?_)
  refine WpL.nil ?_
  refine Thn.n ?_
  refine Wp.seq ?_
  refine Wp.region ?_
  refine WpL.step (Stp.rd (Rdo.assign rfl) rfl ?_)
  refine WpL.nil ?_
  refine Thn.n ?_
  refine Wp.seq ?_
  refine Wp.block ?_
  refine Wp.seq ?_
  refine Wp.region ?_
  refine WpL.step (Stp.rd (Rdo.move rfl) rfl ?_)
  refine WpL.step (Stp.rd (Rdo.not rfl) rfl ?_)
  refine WpL.step (Stp.rd (Rdo.move rfl) rfl ?_)
  refine WpL.pass rfl rfl rfl rfl ?_
  refine WpL.pass rfl rfl rfl rfl ?_
  refine WpL.step (Stp.rd (Rdo.pick_f rfl rfl) rfl ?_)
  refine WpL.step (Stp.rd (Rdo.assign rfl) rfl ?_)
  refine WpL.nil ?_
  refine Thn.n ?_
  refine Wp.condF rfl ?_
  refine Wp.seq ?_
  refine Wp.region ?_
  refine WpL.step (Stp.rd (Rdo.move rfl) rfl ?_)
  refine WpL.step (Stp.rd (Rdo.not rfl) rfl ?_)
  refine WpL.step (Stp.rd (Rdo.assign rfl) rfl ?_)
  refine WpL.nil ?_
  refine Thn.n ?_
  refine Wp.condF rfl ?_
  refine Wp.seq ?_
  refine Wp.region ?_
  refine WpL.step (Stp.rd (Rdo.move rfl) rfl ?_)
  refine WpL.step (Stp.rd (Rdo.nilCheck rfl) rfl ?_)
  refine WpL.step (Stp.rd (Rdo.fieldAddr0 rfl) rfl ?_)
  refine WpL.step (Stp.rd (Rdo.load rfl (Lds.one rfl)) rfl ?_)
  refine WpL.step (Stp.rd (Rdo.gei rfl rfl) rfl ?_)
  refine WpL.step (Stp.rd (Rdo.assign rfl) rfl ?_)
  refine WpL.nil ?_
  refine Thn.n ?_
  refine Wp.condK rfl (by first | rfl | assumption | (simp only [decide_eq_true_eq, decide_eq_false_iff_not, Bool.not_eq_true', Bool.not_eq_false', List.length_cons, List.length_nil]; first | assumption | omega) | (simp <;> done) | (simp <;> omega)) ?_
  refine Wp.seq ?_
  refine Wp.region ?_
  refine WpL.step (Stp.rd (Rdo.bld rfl (BldL.cons rfl (VC.i _ _) (by first | rfl | assumption | (simp <;> done)) (by repeat (first | exact LPut.nil _ | apply LPut.here | apply LPut.next)) (BldL.nil _))) rfl ?_)
  refine WpL.step (Stp.storeV rfl rfl (VC.ag _) (by first | rfl | assumption | (simp <;> done)) (by repeat (first | (apply Sts.all; (focus (first | rfl | assumption | (simp <;> done))); (focus (first | exact oneCells1 rfl | assumption | exact oneCells1 (by assumption) | ((repeat (first | assumption | exact oneCells_nil | exact oneCells_bytesC _ | (apply oneCells_cons; (focus (first | rfl | assumption))) | apply oneCells_append)); done) | (simp [oneCells, Value.oneCell'] <;> done)))) | (apply Sts.lp (by repeat (first | exact LPut.nil _ | apply LPut.here | apply LPut.next)); (focus (first | exact oneCells1 rfl | assumption | exact oneCells1 (by assumption) | ((repeat (first | assumption | exact oneCells_nil | exact oneCells_bytesC _ | (apply oneCells_cons; (focus (first | rfl | assumption))) | apply oneCells_append)); done) | (simp [oneCells, Value.oneCell'] <;> done)))) | (refine Sts.row1 (by first | assumption | omega | (simp <;> omega)) (by first | rfl | assumption)) | (refine Sts.rowP (by assumption) (by first | rfl | assumption | (simp <;> done)) (by rfl) (by (first | exact oneCells1 rfl | assumption | exact oneCells1 (by assumption) | ((repeat (first | assumption | exact oneCells_nil | exact oneCells_bytesC _ | (apply oneCells_cons; (focus (first | rfl | assumption))) | apply oneCells_append)); done) | (simp [oneCells, Value.oneCell'] <;> done)))) | apply Sts.next)) ?_)
  refine WpL.step (Stp.rd (Rdo.assign rfl) rfl ?_)
  refine WpL.nil ?_
  refine Thn.n ?_
  refine Wp.ret ?_
  refine Blk.r ?_
  refine Thn.r ?_
  exact Ret.now (by repeat (first | exact ResV.nil | apply ResV.tmp rfl | apply ResV.cell rfl (by repeat (first | exact Lds.one rfl | (apply Lds.all; (first | rfl | assumption | (simp <;> fail))) | exact Lds.ione0 | exact Lds.ione rfl | (apply Lds.iall; (first | rfl | assumption | (simp <;> fail))) | apply Lds.next)))) (Gh.trans (b := cel q 74 (prodC p v13_0) :: pmA v13_0 p.opn p.parts :: holeA m.qs c.prods i :: cel b 64 (coC c m) :: cel m.tb 83 [.map (some m.mb)] :: mapA i64 m.mb (tabE 0 m.qs) ::
    rowA 36 4 m.mv c.marks.length (c.marks.map markC).flatten :: mapA markV m.db (c.decided.map fun k => (k, vb true)) :: [mapA askV m.ab (c.answers.map fun x => (x.1, .agg (repC x.2).toArray))])
    (Gh.tk (by repeat (first | exact Tk.nil | apply Tk.cons (by repeat (first | exact Pk.here | apply Pk.next))))) (Gh.trans prodA_shut (Gh.trans (Gh.part0 hqi hpi) (Gh.trans (Gh.tk (by repeat (first | exact Tk.nil | apply Tk.cons (by repeat (first | exact Pk.here | apply Pk.next))))) (fin0 m hm))))) ⟨_, rfl, rfl⟩
theorem again_open (b : Nat) (c : CoS) (o : Go.Proofs.YtccgdnocldmjeaaDoor.Op) (h8 : c.prods.length ≤ 8) (i : Nat) (p : Prod) (hi : nameAt c.prods o.name = some i) (hpi : c.prods[i]? = some p) (h : ¬ 100 ≤ p.epoch) (h0 : 0 ≤ p.epoch) (ho : p.opn = true) (hml : c.marks.length ≤ 900000) :
    Trip Tryd.prog 36 [vp b 0, .agg (opC o).toArray] [coA b c] (fun r l => ∃ v, r = .tuple #[.agg (repC (c.again i p).1).toArray, v] ∧ l = [coA b (c.again i p).2.2, markA v (c.again i p).2.1]) := by
  unfold CoS.again
  rw [if_neg h, if_pos ho]
  refine Trip.ghE coA_open ?_
  rintro m hm
  obtain ⟨q, hqi⟩ : ∃ q, m.qs[i]? = some q := by
    have := (List.getElem?_eq_some_iff.1 hpi).1
    exact ⟨m.qs[i]'(by omega), List.getElem?_eq_getElem (by omega)⟩
  have s1 := named_at b m.tb m.mb 64 m.mv (.map (some m.db)) (.map (some m.ab)) (vi c.now) m.qs c.prods o.name hm h8 i q p hi hqi hpi
  have s2 := fun pv => decides_ok b q 64 (vp m.tb 0) m.mv (.map (some m.ab)) (vi c.now) pv m.db c.marks c.decided i 3 p (by omega)
  have s3 := fun v1 => told_ok b 64 (vp m.tb 0) v1 (.map (some m.db)) (.map (some m.ab)) (vi c.now) (c.marks ++ [(⟨3, i, p.epoch, p.last⟩ : Mark)]) ⟨1, i, p.epoch + 1, 0⟩ (by simp; omega)
  simp only [coX, List.cons_append, List.nil_append]
  refine Trip.of_body Tryd.func36 rfl Tryd.ntmps36 Tryd.results36 rfl ?_
  refine Wp.seq ?_
  refine Wp.region ?_
  (refine WpL.step (Stp.boxV rfl (VC.ag _) rfl ?_); intro nb2)
  (refine WpL.step (Stp.alloc rfl ?_); intro nb3)
  refine WpL.step (Stp.rd (Rdo.assign rfl) rfl ?_)
  refine WpL.nil ?_
  refine Thn.n ?_
  refine Wp.seq ?_
  refine Wp.region ?_
  refine WpL.step (Stp.rd (Rdo.move rfl) rfl ?_)
  refine WpL.step (Stp.rd (Rdo.fieldAddr0 rfl) rfl ?_)
  refine WpL.step (Stp.rd (Rdo.load rfl (Lds.next (Lds.one rfl))) rfl ?_)
  refine WpL.step (Stp.call (s1) (by kernel_rfl) rfl (by repeat (first | exact Tk.nil | apply Tk.cons (by repeat (first | exact Pk.here | apply Pk.next)))) rfl ?_)
  rintro _ _ ⟨v13_0, ⟨rfl, rfl⟩⟩
  refine WpL.lst (by simp only [List.cons_append, List.nil_append]; exact rfl) ?_
  refine WpL.step (Stp.rd (Rdo.move rfl) rfl ?_)
  refine WpL.step (Stp.rd (Rdo.extract rfl rfl) rfl ?_)
  refine WpL.step (Stp.rd (Rdo.extract rfl rfl) rfl ?_)
  refine WpL.step (Stp.rd (Rdo.extract rfl rfl) rfl ?_)
  refine WpL.step (Stp.rd (Rdo.assign rfl) rfl ?_)
  refine WpL.step (Stp.rd (Rdo.assign rfl) rfl ?_)
  refine WpL.step (Stp.rd (Rdo.assign rfl) rfl ?_)
  refine WpL.nil ?_
  refine Thn.n ?_
  refine Wp.seq ?_
  refine Wp.region ?_
  refine WpL.step (Stp.rd (Rdo.assign rfl) rfl ?_)
  refine WpL.nil ?_
  refine Thn.n ?_
  refine Wp.seq ?_
  refine Wp.block ?_
  refine Wp.seq ?_
  refine Wp.region ?_
  refine WpL.step (Stp.rd (Rdo.move rfl) rfl ?_)
  refine WpL.step (Stp.rd (Rdo.not rfl) rfl ?_)
  refine WpL.step (Stp.rd (Rdo.move rfl) rfl ?_)
  refine WpL.pass rfl rfl rfl rfl ?_
  refine WpL.pass rfl rfl rfl rfl ?_
  refine WpL.step (Stp.rd (Rdo.pick_f rfl rfl) rfl ?_)
  refine WpL.step (Stp.rd (Rdo.assign rfl) rfl ?_)
  refine WpL.nil ?_
  refine Thn.n ?_
  refine Wp.condF rfl ?_
  refine Wp.seq ?_
  refine Wp.region ?_
  refine WpL.step (Stp.rd (Rdo.move rfl) rfl ?_)
  refine WpL.step (Stp.rd (Rdo.not rfl) rfl ?_)
  refine WpL.step (Stp.rd (Rdo.assign rfl) rfl ?_)
  refine WpL.nil ?_
  refine Thn.n ?_
  refine Wp.condF rfl ?_
  refine Wp.seq ?_
  refine Wp.region ?_
  refine WpL.step (Stp.rd (Rdo.move rfl) rfl ?_)
  refine WpL.step (Stp.rd (Rdo.nilCheck rfl) rfl ?_)
  refine WpL.step (Stp.rd (Rdo.fieldAddr0 rfl) rfl ?_)
  refine WpL.step (Stp.rd (Rdo.load rfl (Lds.one rfl)) rfl ?_)
  refine WpL.step (Stp.rd (Rdo.gei rfl rfl) rfl ?_)
  refine WpL.step (Stp.rd (Rdo.assign rfl) rfl ?_)
  refine WpL.nil ?_
  refine Thn.n ?_
  refine Wp.condL rfl (by first | rfl | assumption | (simp only [decide_eq_true_eq, decide_eq_false_iff_not, Bool.not_eq_true', Bool.not_eq_false', List.length_cons, List.length_nil]; first | assumption | omega) | (simp <;> done) | (simp <;> omega)) ?_
  refine Wp.seq ?_
  refine Wp.seq ?_
  refine Wp.region ?_
  refine WpL.step (Stp.rd (Rdo.move rfl) rfl ?_)
  refine WpL.step (Stp.rd (Rdo.nilCheck rfl) rfl ?_)
  refine WpL.step (Stp.rd (Rdo.fieldAddr0 rfl) rfl ?_)
  refine WpL.step (Stp.rd (Rdo.load rfl (Lds.one rfl)) rfl ?_)
  refine WpL.nil ?_
  refine Thn.n ?_
  refine Wp.condK rfl (by first | rfl | assumption | (simp only [decide_eq_true_eq, decide_eq_false_iff_not, Bool.not_eq_true', Bool.not_eq_false', List.length_cons, List.length_nil]; first | assumption | omega) | (simp <;> done) | (simp <;> omega)) ?_
  refine Wp.region ?_
  refine WpL.step (Stp.rd (Rdo.move rfl) rfl ?_)
  refine WpL.step (Stp.rd (Rdo.move rfl) rfl ?_)
  refine WpL.step (Stp.rd (Rdo.move rfl) rfl ?_)
  refine WpL.step (Stp.call (s2 _) (by kernel_rfl) rfl (by repeat (first | exact Tk.nil | apply Tk.cons (by repeat (first | exact Pk.here | apply Pk.next)))) rfl ?_)
  rintro _ _ ⟨v77_0, ⟨v77_1, ⟨rfl, rfl⟩⟩⟩
  refine WpL.lst (by simp only [List.cons_append, List.nil_append]; exact rfl) ?_
  refine WpL.step (Stp.rd (Rdo.assign rfl) rfl ?_)
  refine WpL.nil ?_
  refine Thn.n ?_
  refine Wp.seq ?_
  refine Wp.region ?_
  refine WpL.step (Stp.rd (Rdo.move rfl) rfl ?_)
  refine WpL.step (Stp.rd (Rdo.nilCheck rfl) rfl ?_)
  refine WpL.step (Stp.rd (Rdo.fieldAddr0 rfl) rfl ?_)
  refine WpL.step (Stp.rd (Rdo.load rfl (Lds.next (Lds.next (Lds.next (Lds.next (Lds.one rfl)))))) rfl ?_)
  refine WpL.step (Stp.rd (Rdo.add64 rfl rfl (by first | omega | (dsimp only; omega))) rfl ?_)
  refine WpL.step (Stp.rd (Rdo.nilCheck rfl) rfl ?_)
  refine WpL.step (Stp.rd (Rdo.fieldAddr0 rfl) rfl ?_)
  refine WpL.step (Stp.storeV rfl rfl (VC.i _ _) rfl (Sts.next (Sts.next (Sts.next (Sts.next (Sts.lp (by repeat (first | exact LPut.nil _ | apply LPut.here | apply LPut.next)) (oneCells1 rfl)))))) ?_)
  refine WpL.nil ?_
  refine Thn.n ?_
  refine Wp.region ?_
  refine WpL.step (Stp.rd (Rdo.move rfl) rfl ?_)
  refine WpL.step (Stp.rd (Rdo.nilCheck rfl) rfl ?_)
  refine WpL.step (Stp.rd (Rdo.fieldAddr0 rfl) rfl ?_)
  refine WpL.step (Stp.storeV rfl rfl (VC.i _ _) rfl (Sts.next (Sts.next (Sts.next (Sts.next (Sts.lp (by repeat (first | exact LPut.nil _ | apply LPut.here | apply LPut.next)) (oneCells1 rfl)))))) ?_)
  refine WpL.nil ?_
  refine Blk.n ?_
  refine Thn.n ?_
  refine Wp.seq ?_
  refine Wp.region ?_
  refine WpL.step (Stp.rd (Rdo.move rfl) rfl ?_)
  refine WpL.step (Stp.rd (Rdo.move rfl) rfl ?_)
  refine WpL.step (Stp.rd (Rdo.move rfl) rfl ?_)
  refine WpL.step (Stp.rd (Rdo.move rfl) rfl ?_)
  refine WpL.step (Stp.rd (Rdo.nilCheck rfl) rfl ?_)
  refine WpL.step (Stp.rd (Rdo.fieldAddr0 rfl) rfl ?_)
  refine WpL.step (Stp.rd (Rdo.load rfl (Lds.next (Lds.next (Lds.next (Lds.next (Lds.one rfl)))))) rfl ?_)
  refine WpL.step (Stp.rd (Rdo.bld rfl (BldL.cons rfl (VC.i _ _) (by first | rfl | assumption | (simp <;> done)) (by repeat (first | exact LPut.nil _ | apply LPut.here | apply LPut.next)) (BldL.cons rfl (VC.i _ _) (by first | rfl | assumption | (simp <;> done)) (by repeat (first | exact LPut.nil _ | apply LPut.here | apply LPut.next)) (BldL.cons rfl (VC.i _ _) (by first | rfl | assumption | (simp <;> done)) (by repeat (first | exact LPut.nil _ | apply LPut.here | apply LPut.next)) (BldL.nil _))))) rfl ?_)
  refine WpL.step (Stp.call (s3 _) (by kernel_rfl) rfl (by repeat (first | exact Tk.nil | apply Tk.cons (by repeat (first | exact Pk.here | apply Pk.next)))) rfl ?_)
  rintro _ _ ⟨v113_0, ⟨v113_1, ⟨rfl, rfl⟩⟩⟩
  refine WpL.lst (by simp only [List.cons_append, List.nil_append]; exact rfl) ?_
  refine WpL.gh (Gh.row (b := v77_1) (n := 1) (sz := 4) (cs := markC ⟨3, i, p.epoch, p.last⟩) (Pk.next (Pk.next (Pk.next Pk.here))) rfl) ?_
  (refine WpL.step (Stp.appendP rfl rfl Pk.here (Src.next (Src.next (Src.cel (by first | rfl | (simp <;> done) | (simp <;> omega))))) (by first | rfl | (simp <;> done) | (simp <;> omega)) (by first | assumption | exact oneCells1 rfl | exact oneCells1 (by assumption) | exact oneCells_bytesC _ | exact oneCells_votesC _ | (simp [oneCells, Value.oneCell'] <;> done)) (by first | omega | (simp <;> omega)) (by first | omega | (simp <;> omega)) rfl (by first | rfl | (simp <;> done)) ?_); intro na0 nc0)
  refine WpL.step (Stp.rd (Rdo.assign rfl) rfl ?_)
  refine WpL.nil ?_
  refine Thn.n ?_
  refine Wp.seq ?_
  refine Wp.region ?_
  refine WpL.step (Stp.rd (Rdo.move rfl) rfl ?_)
  refine WpL.step (Stp.rd (Rdo.move rfl) rfl ?_)
  refine WpL.step (Stp.rd (Rdo.nilCheck rfl) rfl ?_)
  refine WpL.step (Stp.rd (Rdo.fieldAddr0 rfl) rfl ?_)
  refine WpL.step (Stp.rd (Rdo.load rfl (Lds.next (Lds.next (Lds.next (Lds.next (Lds.next (Lds.one rfl))))))) rfl ?_)
  refine WpL.step (Stp.rd (Rdo.bld rfl (BldL.cons rfl (VC.i _ _) (by first | rfl | assumption | (simp <;> done)) (by repeat (first | exact LPut.nil _ | apply LPut.here | apply LPut.next)) (BldL.cons rfl (VC.i _ _) (by first | rfl | assumption | (simp <;> done)) (by repeat (first | exact LPut.nil _ | apply LPut.here | apply LPut.next)) (BldL.nil _)))) rfl ?_)
  refine WpL.step (Stp.rd (Rdo.move rfl) rfl ?_)
  refine WpL.step (Stp.storeV rfl rfl (VC.ag _) (by first | rfl | assumption | (simp <;> done)) (by repeat (first | (apply Sts.all; (focus (first | rfl | assumption | (simp <;> done))); (focus (first | exact oneCells1 rfl | assumption | exact oneCells1 (by assumption) | ((repeat (first | assumption | exact oneCells_nil | exact oneCells_bytesC _ | (apply oneCells_cons; (focus (first | rfl | assumption))) | apply oneCells_append)); done) | (simp [oneCells, Value.oneCell'] <;> done)))) | (apply Sts.lp (by repeat (first | exact LPut.nil _ | apply LPut.here | apply LPut.next)); (focus (first | exact oneCells1 rfl | assumption | exact oneCells1 (by assumption) | ((repeat (first | assumption | exact oneCells_nil | exact oneCells_bytesC _ | (apply oneCells_cons; (focus (first | rfl | assumption))) | apply oneCells_append)); done) | (simp [oneCells, Value.oneCell'] <;> done)))) | (refine Sts.row1 (by first | assumption | omega | (simp <;> omega)) (by first | rfl | assumption)) | (refine Sts.rowP (by assumption) (by first | rfl | assumption | (simp <;> done)) (by rfl) (by (first | exact oneCells1 rfl | assumption | exact oneCells1 (by assumption) | ((repeat (first | assumption | exact oneCells_nil | exact oneCells_bytesC _ | (apply oneCells_cons; (focus (first | rfl | assumption))) | apply oneCells_append)); done) | (simp [oneCells, Value.oneCell'] <;> done)))) | apply Sts.next)) ?_)
  refine WpL.step (Stp.rd (Rdo.assign rfl) rfl ?_)
  refine WpL.nil ?_
  refine Thn.n ?_
  refine Wp.ret ?_
  have hc : ((c.decide i p 3).put i { p with opn := false, parts := [], epoch := p.epoch + 1, last := 0 }).lay ⟨1, i, p.epoch + 1, 0⟩ =
    { c with prods := c.prods.set i { p with opn := false, parts := [], epoch := p.epoch + 1, last := 0 }, marks := c.marks ++ [⟨3, i, p.epoch, p.last⟩] ++ [⟨1, i, p.epoch + 1, 0⟩], decided := addD c.decided ⟨3, i, p.epoch, p.last⟩ } := by simp [CoS.lay, CoS.put, CoS.decide]
  rw [hc]
  refine Ret.now (by repeat (first | exact ResV.nil | apply ResV.tmp rfl | apply ResV.cell rfl (by repeat (first | exact Lds.one rfl | (apply Lds.all; (first | rfl | assumption | (simp <;> fail))) | exact Lds.ione0 | exact Lds.ione rfl | (apply Lds.iall; (first | rfl | assumption | (simp <;> fail))) | apply Lds.next)))) (Gh.trans (b := cel q 74 (prodC { p with opn := false, parts := [], epoch := p.epoch + 1, last := 0 } (.map none)) :: holeA m.qs c.prods i :: cel b 64 (coC c { m with mv := v113_0 }) :: cel m.tb 83 [.map (some m.mb)] :: mapA i64 m.mb (tabE 0 m.qs) ::
    rowA 36 4 v113_0 (c.marks ++ [(⟨3, i, p.epoch, p.last⟩ : Mark)] ++ [(⟨1, i, p.epoch + 1, 0⟩ : Mark)]).length ((c.marks ++ [(⟨3, i, p.epoch, p.last⟩ : Mark)] ++ [(⟨1, i, p.epoch + 1, 0⟩ : Mark)]).map markC).flatten :: mapA markV m.db (aset (c.decided.map fun k => (k, vb true)) ⟨3, i, p.epoch, p.last⟩ (vb true)) :: mapA askV m.ab (c.answers.map fun x => (x.1, .agg (repC x.2).toArray)) :: [markA (.slice na0 (1 + 1) nc0) [⟨3, i, p.epoch, p.last⟩, ⟨1, i, p.epoch + 1, 0⟩]])
    (Gh.tk (by repeat (first | exact Tk.nil | apply Tk.cons (by repeat (first | exact Pk.here | apply Pk.next))))) (Gh.trans (prodA_shut0 (p := { p with opn := false, parts := [], epoch := p.epoch + 1, last := 0 }) rfl) (Gh.trans (Gh.part2 hqi (List.getElem?_eq_some_iff.1 hpi).1) ?_))) ⟨_, rfl, rfl⟩
  rw [aset_keys]
  exact Gh.trans (Gh.tk (by repeat (first | exact Tk.nil | apply Tk.cons (by repeat (first | exact Pk.here | apply Pk.next))))) (fin1 (c := { c with prods := c.prods.set i { p with opn := false, parts := [], epoch := p.epoch + 1, last := 0 }, marks := c.marks ++ [⟨3, i, p.epoch, p.last⟩] ++ [⟨1, i, p.epoch + 1, 0⟩], decided := addD c.decided ⟨3, i, p.epoch, p.last⟩ }) { m with mv := v113_0 } (by simp [hm]))
theorem again_shut (b : Nat) (c : CoS) (o : Go.Proofs.YtccgdnocldmjeaaDoor.Op) (h8 : c.prods.length ≤ 8) (i : Nat) (p : Prod) (hi : nameAt c.prods o.name = some i) (hpi : c.prods[i]? = some p) (h : ¬ 100 ≤ p.epoch) (h0 : 0 ≤ p.epoch) (ho : p.opn = false) (hml : c.marks.length ≤ 900000) :
    Trip Tryd.prog 36 [vp b 0, .agg (opC o).toArray] [coA b c] (fun r l => ∃ v, r = .tuple #[.agg (repC (c.again i p).1).toArray, v] ∧ l = [coA b (c.again i p).2.2, markA v (c.again i p).2.1]) := by
  unfold CoS.again
  rw [if_neg h, if_neg (by simp [ho])]
  refine Trip.ghE coA_open ?_
  rintro m hm
  obtain ⟨q, hqi⟩ : ∃ q, m.qs[i]? = some q := by
    have := (List.getElem?_eq_some_iff.1 hpi).1
    exact ⟨m.qs[i]'(by omega), List.getElem?_eq_getElem (by omega)⟩
  have s1 := named_at b m.tb m.mb 64 m.mv (.map (some m.db)) (.map (some m.ab)) (vi c.now) m.qs c.prods o.name hm h8 i q p hi hqi hpi
  have s3 := fun v1 => told_ok b 64 (vp m.tb 0) v1 (.map (some m.db)) (.map (some m.ab)) (vi c.now) c.marks ⟨1, i, p.epoch + 1, 0⟩ (by omega)
  simp only [coX, List.cons_append, List.nil_append]
  refine Trip.of_body Tryd.func36 rfl Tryd.ntmps36 Tryd.results36 rfl ?_
  refine Wp.seq ?_
  refine Wp.region ?_
  (refine WpL.step (Stp.boxV rfl (VC.ag _) rfl ?_); intro nb2)
  (refine WpL.step (Stp.alloc rfl ?_); intro nb3)
  refine WpL.step (Stp.rd (Rdo.assign rfl) rfl ?_)
  refine WpL.nil ?_
  refine Thn.n ?_
  refine Wp.seq ?_
  refine Wp.region ?_
  refine WpL.step (Stp.rd (Rdo.move rfl) rfl ?_)
  refine WpL.step (Stp.rd (Rdo.fieldAddr0 rfl) rfl ?_)
  refine WpL.step (Stp.rd (Rdo.load rfl (Lds.next (Lds.one rfl))) rfl ?_)
  refine WpL.step (Stp.call (s1) (by kernel_rfl) rfl (by repeat (first | exact Tk.nil | apply Tk.cons (by repeat (first | exact Pk.here | apply Pk.next)))) rfl ?_)
  rintro _ _ ⟨v13_0, ⟨rfl, rfl⟩⟩
  refine WpL.lst (by simp only [List.cons_append, List.nil_append]; exact rfl) ?_
  refine WpL.step (Stp.rd (Rdo.move rfl) rfl ?_)
  refine WpL.step (Stp.rd (Rdo.extract rfl rfl) rfl ?_)
  refine WpL.step (Stp.rd (Rdo.extract rfl rfl) rfl ?_)
  refine WpL.step (Stp.rd (Rdo.extract rfl rfl) rfl ?_)
  refine WpL.step (Stp.rd (Rdo.assign rfl) rfl ?_)
  refine WpL.step (Stp.rd (Rdo.assign rfl) rfl ?_)
  refine WpL.step (Stp.rd (Rdo.assign rfl) rfl ?_)
  refine WpL.nil ?_
  refine Thn.n ?_
  refine Wp.seq ?_
  refine Wp.region ?_
  refine WpL.step (Stp.rd (Rdo.assign rfl) rfl ?_)
  refine WpL.nil ?_
  refine Thn.n ?_
  refine Wp.seq ?_
  refine Wp.block ?_
  refine Wp.seq ?_
  refine Wp.region ?_
  refine WpL.step (Stp.rd (Rdo.move rfl) rfl ?_)
  refine WpL.step (Stp.rd (Rdo.not rfl) rfl ?_)
  refine WpL.step (Stp.rd (Rdo.move rfl) rfl ?_)
  refine WpL.pass rfl rfl rfl rfl ?_
  refine WpL.pass rfl rfl rfl rfl ?_
  refine WpL.step (Stp.rd (Rdo.pick_f rfl rfl) rfl ?_)
  refine WpL.step (Stp.rd (Rdo.assign rfl) rfl ?_)
  refine WpL.nil ?_
  refine Thn.n ?_
  refine Wp.condF rfl ?_
  refine Wp.seq ?_
  refine Wp.region ?_
  refine WpL.step (Stp.rd (Rdo.move rfl) rfl ?_)
  refine WpL.step (Stp.rd (Rdo.not rfl) rfl ?_)
  refine WpL.step (Stp.rd (Rdo.assign rfl) rfl ?_)
  refine WpL.nil ?_
  refine Thn.n ?_
  refine Wp.condF rfl ?_
  refine Wp.seq ?_
  refine Wp.region ?_
  refine WpL.step (Stp.rd (Rdo.move rfl) rfl ?_)
  refine WpL.step (Stp.rd (Rdo.nilCheck rfl) rfl ?_)
  refine WpL.step (Stp.rd (Rdo.fieldAddr0 rfl) rfl ?_)
  refine WpL.step (Stp.rd (Rdo.load rfl (Lds.one rfl)) rfl ?_)
  refine WpL.step (Stp.rd (Rdo.gei rfl rfl) rfl ?_)
  refine WpL.step (Stp.rd (Rdo.assign rfl) rfl ?_)
  refine WpL.nil ?_
  refine Thn.n ?_
  refine Wp.condL rfl (by first | rfl | assumption | (simp only [decide_eq_true_eq, decide_eq_false_iff_not, Bool.not_eq_true', Bool.not_eq_false', List.length_cons, List.length_nil]; first | assumption | omega) | (simp <;> done) | (simp <;> omega)) ?_
  refine Wp.seq ?_
  refine Wp.seq ?_
  refine Wp.region ?_
  refine WpL.step (Stp.rd (Rdo.move rfl) rfl ?_)
  refine WpL.step (Stp.rd (Rdo.nilCheck rfl) rfl ?_)
  refine WpL.step (Stp.rd (Rdo.fieldAddr0 rfl) rfl ?_)
  refine WpL.step (Stp.rd (Rdo.load rfl (Lds.one rfl)) rfl ?_)
  refine WpL.nil ?_
  refine Thn.n ?_
  refine Wp.condL rfl (by first | rfl | assumption | (simp only [decide_eq_true_eq, decide_eq_false_iff_not, Bool.not_eq_true', Bool.not_eq_false', List.length_cons, List.length_nil]; first | assumption | omega) | (simp <;> done) | (simp <;> omega)) ?_
  refine Wp.skip ?_
  refine Thn.n ?_
  refine Wp.seq ?_
  refine Wp.region ?_
  refine WpL.step (Stp.rd (Rdo.move rfl) rfl ?_)
  refine WpL.step (Stp.rd (Rdo.nilCheck rfl) rfl ?_)
  refine WpL.step (Stp.rd (Rdo.fieldAddr0 rfl) rfl ?_)
  refine WpL.step (Stp.rd (Rdo.load rfl (Lds.one rfl)) rfl ?_)
  refine WpL.step (Stp.rd (Rdo.add64 rfl rfl (by first | omega | (dsimp only; omega))) rfl ?_)
  refine WpL.step (Stp.rd (Rdo.nilCheck rfl) rfl ?_)
  refine WpL.step (Stp.rd (Rdo.fieldAddr0 rfl) rfl ?_)
  refine WpL.step (Stp.storeV rfl rfl (VC.i _ _) rfl (Sts.lp (by repeat (first | exact LPut.nil _ | apply LPut.here | apply LPut.next)) (oneCells1 rfl)) ?_)
  refine WpL.nil ?_
  refine Thn.n ?_
  refine Wp.region ?_
  refine WpL.step (Stp.rd (Rdo.move rfl) rfl ?_)
  refine WpL.step (Stp.rd (Rdo.nilCheck rfl) rfl ?_)
  refine WpL.step (Stp.rd (Rdo.fieldAddr0 rfl) rfl ?_)
  refine WpL.step (Stp.storeV rfl rfl (VC.i _ _) rfl (Sts.lp (by repeat (first | exact LPut.nil _ | apply LPut.here | apply LPut.next)) (oneCells1 rfl)) ?_)
  refine WpL.nil ?_
  refine Blk.n ?_
  refine Thn.n ?_
  refine Wp.seq ?_
  refine Wp.region ?_
  refine WpL.step (Stp.rd (Rdo.move rfl) rfl ?_)
  refine WpL.step (Stp.rd (Rdo.move rfl) rfl ?_)
  refine WpL.step (Stp.rd (Rdo.move rfl) rfl ?_)
  refine WpL.step (Stp.rd (Rdo.move rfl) rfl ?_)
  refine WpL.step (Stp.rd (Rdo.nilCheck rfl) rfl ?_)
  refine WpL.step (Stp.rd (Rdo.fieldAddr0 rfl) rfl ?_)
  refine WpL.step (Stp.rd (Rdo.load rfl (Lds.one rfl)) rfl ?_)
  refine WpL.step (Stp.rd (Rdo.bld rfl (BldL.cons rfl (VC.i _ _) (by first | rfl | assumption | (simp <;> done)) (by repeat (first | exact LPut.nil _ | apply LPut.here | apply LPut.next)) (BldL.cons rfl (VC.i _ _) (by first | rfl | assumption | (simp <;> done)) (by repeat (first | exact LPut.nil _ | apply LPut.here | apply LPut.next)) (BldL.cons rfl (VC.i _ _) (by first | rfl | assumption | (simp <;> done)) (by repeat (first | exact LPut.nil _ | apply LPut.here | apply LPut.next)) (BldL.nil _))))) rfl ?_)
  refine WpL.step (Stp.call (s3 _) (by kernel_rfl) rfl (by repeat (first | exact Tk.nil | apply Tk.cons (by repeat (first | exact Pk.here | apply Pk.next)))) rfl ?_)
  rintro _ _ ⟨v105_0, ⟨v105_1, ⟨rfl, rfl⟩⟩⟩
  refine WpL.lst (by simp only [List.cons_append, List.nil_append]; exact rfl) ?_
  (refine WpL.step (Stp.appendN rfl rfl (Src.next (Src.next (Src.cel (by first | rfl | (simp <;> done) | (simp <;> omega))))) (by first | rfl | (simp <;> done) | (simp <;> omega)) (by first | assumption | exact oneCells1 rfl | exact oneCells1 (by assumption) | exact oneCells_bytesC _ | exact oneCells_votesC _ | (simp [oneCells, Value.oneCell'] <;> done)) (by first | omega | (simp <;> omega)) (by first | omega | (simp <;> omega)) rfl (by first | rfl | (simp <;> done)) ?_); intro na107 nc107)
  refine WpL.step (Stp.rd (Rdo.assign rfl) rfl ?_)
  refine WpL.nil ?_
  refine Thn.n ?_
  refine Wp.seq ?_
  refine Wp.region ?_
  refine WpL.step (Stp.rd (Rdo.move rfl) rfl ?_)
  refine WpL.step (Stp.rd (Rdo.move rfl) rfl ?_)
  refine WpL.step (Stp.rd (Rdo.nilCheck rfl) rfl ?_)
  refine WpL.step (Stp.rd (Rdo.fieldAddr0 rfl) rfl ?_)
  refine WpL.step (Stp.rd (Rdo.load rfl (Lds.next (Lds.next (Lds.next (Lds.next (Lds.one rfl)))))) rfl ?_)
  refine WpL.step (Stp.rd (Rdo.bld rfl (BldL.cons rfl (VC.i _ _) (by first | rfl | assumption | (simp <;> done)) (by repeat (first | exact LPut.nil _ | apply LPut.here | apply LPut.next)) (BldL.cons rfl (VC.i _ _) (by first | rfl | assumption | (simp <;> done)) (by repeat (first | exact LPut.nil _ | apply LPut.here | apply LPut.next)) (BldL.nil _)))) rfl ?_)
  refine WpL.step (Stp.rd (Rdo.move rfl) rfl ?_)
  refine WpL.step (Stp.storeV rfl rfl (VC.ag _) (by first | rfl | assumption | (simp <;> done)) (by repeat (first | (apply Sts.all; (focus (first | rfl | assumption | (simp <;> done))); (focus (first | exact oneCells1 rfl | assumption | exact oneCells1 (by assumption) | ((repeat (first | assumption | exact oneCells_nil | exact oneCells_bytesC _ | (apply oneCells_cons; (focus (first | rfl | assumption))) | apply oneCells_append)); done) | (simp [oneCells, Value.oneCell'] <;> done)))) | (apply Sts.lp (by repeat (first | exact LPut.nil _ | apply LPut.here | apply LPut.next)); (focus (first | exact oneCells1 rfl | assumption | exact oneCells1 (by assumption) | ((repeat (first | assumption | exact oneCells_nil | exact oneCells_bytesC _ | (apply oneCells_cons; (focus (first | rfl | assumption))) | apply oneCells_append)); done) | (simp [oneCells, Value.oneCell'] <;> done)))) | (refine Sts.row1 (by first | assumption | omega | (simp <;> omega)) (by first | rfl | assumption)) | (refine Sts.rowP (by assumption) (by first | rfl | assumption | (simp <;> done)) (by rfl) (by (first | exact oneCells1 rfl | assumption | exact oneCells1 (by assumption) | ((repeat (first | assumption | exact oneCells_nil | exact oneCells_bytesC _ | (apply oneCells_cons; (focus (first | rfl | assumption))) | apply oneCells_append)); done) | (simp [oneCells, Value.oneCell'] <;> done)))) | apply Sts.next)) ?_)
  refine WpL.step (Stp.rd (Rdo.assign rfl) rfl ?_)
  refine WpL.nil ?_
  refine Thn.n ?_
  refine Wp.ret ?_
  refine Ret.now (by repeat (first | exact ResV.nil | apply ResV.tmp rfl | apply ResV.cell rfl (by repeat (first | exact Lds.one rfl | (apply Lds.all; (first | rfl | assumption | (simp <;> fail))) | exact Lds.ione0 | exact Lds.ione rfl | (apply Lds.iall; (first | rfl | assumption | (simp <;> fail))) | apply Lds.next)))) (Gh.trans (b := cel q 74 (prodC { p with epoch := p.epoch + 1, last := 0 } v13_0) :: pmA v13_0 p.opn p.parts :: holeA m.qs c.prods i :: cel b 64 (coC c { m with mv := v105_0 }) :: cel m.tb 83 [.map (some m.mb)] :: mapA i64 m.mb (tabE 0 m.qs) ::
    rowA 36 4 v105_0 (c.marks ++ [(⟨1, i, p.epoch + 1, 0⟩ : Mark)]).length ((c.marks ++ [(⟨1, i, p.epoch + 1, 0⟩ : Mark)]).map markC).flatten :: mapA markV m.db (c.decided.map fun k => (k, vb true)) :: mapA askV m.ab (c.answers.map fun x => (x.1, .agg (repC x.2).toArray)) :: [markA (.slice na107 1 nc107) [⟨1, i, p.epoch + 1, 0⟩]])
    (Gh.tk (by repeat (first | exact Tk.nil | apply Tk.cons (by repeat (first | exact Pk.here | apply Pk.next))))) (Gh.trans (prodA_shut (p := { p with epoch := p.epoch + 1, last := 0 })) (Gh.trans (Gh.part2 hqi (List.getElem?_eq_some_iff.1 hpi).1) ?_))) ⟨_, rfl, rfl⟩
  exact Gh.trans (Gh.tk (by repeat (first | exact Tk.nil | apply Tk.cons (by repeat (first | exact Pk.here | apply Pk.next))))) (fin1 (c := (c.put i { p with epoch := p.epoch + 1, last := 0 }).lay ⟨1, i, p.epoch + 1, 0⟩) { m with mv := v105_0 } (by simp [CoS.lay, CoS.put, hm]))
theorem nameAt_get {ps : List Prod} {s : List UInt8} {i : Nat} (h : nameAt ps s = some i) : ∃ p, ps[i]? = some p ∧ p.name = s := by
  obtain ⟨h1, h2, _⟩ := List.findIdx?_eq_some_iff_getElem.1 h
  exact ⟨ps[i], List.getElem?_eq_getElem h1, by simpa using h2⟩
theorem begins_ok (b : Nat) (c : CoS) (o : Go.Proofs.YtccgdnocldmjeaaDoor.Op) (h8 : c.prods.length ≤ 8) (hml : c.marks.length ≤ 900000) (hep : ∀ p ∈ c.prods, 0 ≤ p.epoch) :
    Trip Tryd.prog 36 [vp b 0, .agg (opC o).toArray] [coA b c] (fun r l => ∃ v, r = .tuple #[.agg (repC (c.begins o.name).1).toArray, v] ∧ l = [coA b (c.begins o.name).2.2, markA v (c.begins o.name).2.1]) := by
  cases hi : nameAt c.prods o.name with
  | none =>
    by_cases h : 8 ≤ c.prods.length
    · have h1 := begins_full b c o h8 hi h
      unfold CoS.begins
      simp only [hi]
      rw [if_pos h]
      exact h1
    · exact begins_new b c o h8 hi h hml
  | some i =>
    obtain ⟨p, hpi, _⟩ := nameAt_get hi
    have hb : c.begins o.name = c.again i p := by
      unfold CoS.begins
      simp only [hi]
      rw [List.getD_eq_getElem?_getD, hpi]
      rfl
    have h0 := hep p (List.mem_of_getElem? hpi)
    rw [hb]
    by_cases h : 100 ≤ p.epoch
    · exact again_used b c o h8 i p hi hpi h
    · cases ho : p.opn with
      | true => exact again_open b c o h8 i p hi hpi h h0 ho hml
      | false => exact again_shut b c o h8 i p hi hpi h h0 ho hml
end Go.Proofs.YtccgdnocldmjeaaDoor
