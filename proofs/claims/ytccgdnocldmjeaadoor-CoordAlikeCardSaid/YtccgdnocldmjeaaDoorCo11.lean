/- The coordinator: an operation that was not applied ahead. -/
import Derived.Test.YtccgdnocldmjeaaDoorCo10
namespace Go.Proofs.YtccgdnocldmjeaaDoor
open Go
set_option maxHeartbeats 4000000
set_option linter.unusedSimpArgs false
set_option linter.unusedVariables false
set_option maxRecDepth 20000
open Tabprod

abbrev coH (b : Nat) (c : CoS) (m : CoM) : List HP :=
  [cel b 64 (coC c m), cel m.tb 83 [.map (some m.mb)], mapA i64 m.mb (tabE 0 m.qs), rowA 36 4 m.mv c.marks.length (c.marks.map markC).flatten,
   mapA markV m.db (c.decided.map fun k => (k, vb true)), mapA askV m.ab (c.answers.map fun x => (x.1, .agg (repC x.2).toArray))]
theorem coA_at {b : Nat} {c : CoS} {i : Nat} {p : Prod} (hpi : c.prods[i]? = some p) : GhE [coA b c] (fun x : CoM × Nat × Value => x.1.qs.length = c.prods.length ∧ x.1.qs[i]? = some x.2.1)
    (fun x => cel x.2.1 74 (prodC p x.2.2) :: pmA x.2.2 p.opn p.parts :: holeA x.1.qs c.prods i :: coH b c x.1) := by
  refine GhE.mk fun F w hl => ?_
  obtain ⟨m, hm, h⟩ := coA_open.use hl
  obtain ⟨q, hqi⟩ : ∃ q, m.qs[i]? = some q := by
    have := (List.getElem?_eq_some_iff.1 hpi).1
    exact ⟨m.qs[i]'(by omega), List.getElem?_eq_getElem (by omega)⟩
  have h1 : Gh (coX b c m ++ []) (prodsA m.qs c.prods :: coH b c m) := Gh.tk (by repeat (first | exact Tk.nil | apply Tk.cons (by repeat (first | exact Pk.here | apply Pk.next))))
  obtain ⟨v, _, h2⟩ := prodA_open.use ((Gh.part1 hqi hpi).use (h1.use h))
  exact ⟨(m, q, v), ⟨hm, hqi⟩, h2⟩
theorem coA_put {b : Nat} {c c' : CoS} {m : CoM} {i q : Nat} {p' : Prod} {l : List HP} (hm : m.qs.length = c.prods.length) (hqi : m.qs[i]? = some q) (h : c'.prods = c.prods.set i p') :
    Gh (prodA q p' :: holeA m.qs c.prods i :: coH b c' m ++ l) (coA b c' :: l) := by
  have hi : i < c.prods.length := by rw [← hm]; exact (List.getElem?_eq_some_iff.1 hqi).1
  refine Gh.trans (Gh.part2 hqi hi) ?_
  rw [← h]
  refine Gh.trans ?_ (coA_shut m (by rw [h, List.length_set]; exact hm))
  exact Gh.perm (List.perm_middle (l₁ := [_, _, _]).symm)
theorem pmA_open {v : Value} {parts : List Int} {l : List HP} : GhE (pmA v true parts :: l) (fun mb : Nat => v = .map (some mb)) (fun mb => mapA i64 mb (parts.map fun k => (k, vb true)) :: l) := by
  unfold pmA
  rw [if_pos rfl]
  refine GhE.mk fun F w hl => ?_
  obtain ⟨mb, _, h⟩ := (GhE.open_ (f := fun mb : Nat => [pureH (v = .map (some mb)), mapA i64 mb (parts.map fun k => (k, vb true))]) Pk.here).use hl
  obtain ⟨h1, h2⟩ := Holds.open_pure h
  exact ⟨mb, h1, h2⟩
theorem prodA_shutM {q mb : Nat} {p : Prod} {l : List HP} (h : p.opn = true) : Gh (cel q 74 (prodC p (.map (some mb))) :: mapA i64 mb (p.parts.map fun k => (k, vb true)) :: l) (prodA q p :: l) := by
  refine Gh.trans (Gh.mk fun F w hl => ?_) (prodA_shut (v := .map (some mb)))
  have h1 := hl.perm (List.Perm.swap _ _ _)
  have h2 := Holds.shut_pure (φ := (Value.map (some mb)) = Value.map (some mb)) rfl h1
  have g := Gh.shut (rest := cel q 74 (prodC p (.map (some mb))) :: l) (f := fun mb' : Nat => [pureH ((Value.map (some mb)) = Value.map (some mb')), mapA i64 mb' (p.parts.map fun k => (k, vb true))]) mb (Tk.cons Pk.here (Tk.cons Pk.here (Tk.mk fun F w h => h)))
  have h3 := g.use h2
  unfold pmA
  rw [if_pos h]
  exact h3.perm (List.Perm.swap _ _ _)
theorem get_at {b mb : Nat} {qs : List Nat} {n : Int} {q : Nat} (h0 : 0 ≤ n) (hq : qs[n.toNat]? = some q) : Trip Tryd.prog 38 [vp b 0, vi n] (tabA b mb (tabE 0 qs))
    (fun r l => r = .tuple #[vp q 0, vb true] ∧ l = tabA b mb (tabE 0 qs)) := by
  have h1 := get_ok b mb (tabE 0 qs) n
  have h2 : alook (tabE 0 qs) n = some (vp q 0) := by
    have := (List.getElem?_eq_some_iff.1 hq).1
    rw [tabE_look, if_pos (by omega), Nat.sub_zero, hq]; rfl
  unfold mapVal at h1
  rw [h2] at h1
  exact h1
theorem get_none {b mb : Nat} {qs : List Nat} {n : Int} (h0 : ¬ (0 ≤ n ∧ n < qs.length)) : Trip Tryd.prog 38 [vp b 0, vi n] (tabA b mb (tabE 0 qs))
    (fun r l => r = .tuple #[.pointer none, vb false] ∧ l = tabA b mb (tabE 0 qs)) := by
  have h1 := get_ok b mb (tabE 0 qs) n
  have h2 : alook (tabE 0 qs) n = none := by rw [tabE_look, if_neg (by omega)]
  unfold mapVal at h1
  rw [h2] at h1
  exact h1

theorem does_init (b : Nat) (c : CoS) (o : Go.Proofs.YtccgdnocldmjeaaDoor.Op) (h8 : c.prods.length ≤ 8) (hml : c.marks.length ≤ 900000) (hep : ∀ p ∈ c.prods, 0 ≤ p.epoch) (hk : o.kind = 1) :
    Trip Tryd.prog 25 [vp b 0, .agg (opC o).toArray] [coA b c] (fun r l => ∃ v, r = .tuple #[.agg (repC (c.begins o.name).1).toArray, v] ∧ l = [coA b (c.begins o.name).2.2, markA v (c.begins o.name).2.1]) := by
  have s1 := begins_ok b c o h8 hml hep
  refine Trip.of_body Tryd.func25 rfl Tryd.ntmps25 Tryd.results25 rfl ?_
  refine Wp.seq ?_
  refine Wp.region ?_
  (refine WpL.step (Stp.boxV rfl (VC.ag _) rfl ?_); intro nb2)
  (refine WpL.step (Stp.alloc rfl ?_); intro nb3)
  refine WpL.step (Stp.rd (Rdo.assign rfl) rfl ?_)
  refine WpL.nil ?_
  refine Thn.n ?_
  refine Wp.seq ?_
  refine Wp.seq ?_
  refine Wp.region ?_
  refine WpL.step (Stp.rd (Rdo.fieldAddr0 rfl) rfl ?_)
  refine WpL.step (Stp.rd (Rdo.load rfl (Lds.next (Lds.one rfl))) rfl ?_)
  refine WpL.nil ?_
  refine Thn.n ?_
  refine Wp.block ?_
  refine Wp.seq ?_
  refine Wp.region ?_
  refine WpL.step (Stp.rd (Rdo.eqi rfl rfl) rfl ?_)
  refine WpL.step (Stp.rd (Rdo.assign rfl) rfl ?_)
  refine WpL.nil ?_
  refine Thn.n ?_
  refine Wp.condK rfl (by first | rfl | assumption | (simp only [decide_eq_true_eq, decide_eq_false_iff_not, Bool.not_eq_true', Bool.not_eq_false', List.length_cons, List.length_nil]; first | assumption | omega) | (simp <;> done) | (simp <;> omega)) ?_
  refine Wp.seq ?_
  refine Wp.region ?_
  refine WpL.step (Stp.rd (Rdo.move rfl) rfl ?_)
  refine WpL.step (Stp.rd (Rdo.load rfl (Lds.next (by apply Lds.all; (first | rfl | assumption | (simp <;> fail))))) rfl ?_)
  refine WpL.step (Stp.call (s1) (by kernel_rfl) rfl (by repeat (first | exact Tk.nil | apply Tk.cons (by repeat (first | exact Pk.here | apply Pk.next)))) rfl ?_)
  rintro _ _ ⟨v27_0, ⟨rfl, rfl⟩⟩
  refine WpL.lst (by simp only [List.cons_append, List.nil_append]; exact rfl) ?_
  refine WpL.step (Stp.rd (Rdo.extract rfl rfl) rfl ?_)
  refine WpL.step (Stp.rd (Rdo.extract rfl rfl) rfl ?_)
  refine WpL.step (Stp.storeV rfl rfl (VC.ag _) (by first | rfl | assumption | (simp <;> done)) (by repeat (first | (apply Sts.all; (focus (first | rfl | assumption | (simp <;> done))); (focus (first | exact oneCells1 rfl | assumption | exact oneCells1 (by assumption) | ((repeat (first | assumption | exact oneCells_nil | exact oneCells_bytesC _ | (apply oneCells_cons; (focus (first | rfl | assumption))) | apply oneCells_append)); done) | (simp [oneCells, Value.oneCell'] <;> done)))) | (apply Sts.lp (by repeat (first | exact LPut.nil _ | apply LPut.here | apply LPut.next)); (focus (first | exact oneCells1 rfl | assumption | exact oneCells1 (by assumption) | ((repeat (first | assumption | exact oneCells_nil | exact oneCells_bytesC _ | (apply oneCells_cons; (focus (first | rfl | assumption))) | apply oneCells_append)); done) | (simp [oneCells, Value.oneCell'] <;> done)))) | (refine Sts.row1 (by first | assumption | omega | (simp <;> omega)) (by first | rfl | assumption)) | (refine Sts.rowP (by assumption) (by first | rfl | assumption | (simp <;> done)) (by rfl) (by (first | exact oneCells1 rfl | assumption | exact oneCells1 (by assumption) | ((repeat (first | assumption | exact oneCells_nil | exact oneCells_bytesC _ | (apply oneCells_cons; (focus (first | rfl | assumption))) | apply oneCells_append)); done) | (simp [oneCells, Value.oneCell'] <;> done)))) | apply Sts.next)) ?_)
  refine WpL.step (Stp.rd (Rdo.assign rfl) rfl ?_)
  refine WpL.nil ?_
  refine Thn.n ?_
  refine Wp.ret ?_
  refine Blk.r ?_
  refine Thn.r ?_
  refine Ret.now (ResV.cell rfl (by repeat (first | exact Lds.one rfl | (apply Lds.all; (first | rfl | assumption | (simp <;> fail))) | exact Lds.ione0 | exact Lds.ione rfl | (apply Lds.iall; (first | rfl | assumption | (simp <;> fail))) | apply Lds.next)) (ResV.tmp rfl ResV.nil)) (Gh.tk (by repeat (first | exact Tk.nil | apply Tk.cons (by repeat (first | exact Pk.here | apply Pk.next))))) ⟨_, ⟨rfl, rfl⟩⟩
theorem does_tick (b : Nat) (c : CoS) (o : Go.Proofs.YtccgdnocldmjeaaDoor.Op) (h8 : c.prods.length ≤ 8) (hml : c.marks.length ≤ 900000) (hn : 0 ≤ c.now ∧ c.now ≤ 1000000) (hbg : ∀ p ∈ c.prods, 0 ≤ p.began ∧ p.began ≤ 2000000) (hk : o.kind = 4) :
    Trip Tryd.prog 25 [vp b 0, .agg (opC o).toArray] [coA b c] (fun r l => ∃ v, r = .tuple #[.agg (repC ⟨0, 0, 0⟩).toArray, v] ∧ l = [coA b c.ticks.2, markA v c.ticks.1]) := by
  have s1 := ticks_ok b c h8 hml hn hbg
  refine Trip.of_body Tryd.func25 rfl Tryd.ntmps25 Tryd.results25 rfl ?_
  refine Wp.seq ?_
  refine Wp.region ?_
  (refine WpL.step (Stp.boxV rfl (VC.ag _) rfl ?_); intro nb2)
  (refine WpL.step (Stp.alloc rfl ?_); intro nb3)
  refine WpL.step (Stp.rd (Rdo.assign rfl) rfl ?_)
  refine WpL.nil ?_
  refine Thn.n ?_
  refine Wp.seq ?_
  refine Wp.seq ?_
  refine Wp.region ?_
  refine WpL.step (Stp.rd (Rdo.fieldAddr0 rfl) rfl ?_)
  refine WpL.step (Stp.rd (Rdo.load rfl (Lds.next (Lds.one rfl))) rfl ?_)
  refine WpL.nil ?_
  refine Thn.n ?_
  refine Wp.block ?_
  refine Wp.seq ?_
  refine Wp.region ?_
  refine WpL.step (Stp.rd (Rdo.eqi rfl rfl) rfl ?_)
  refine WpL.step (Stp.rd (Rdo.assign rfl) rfl ?_)
  refine WpL.nil ?_
  refine Thn.n ?_
  refine Wp.condL rfl (by first | rfl | assumption | (simp only [decide_eq_true_eq, decide_eq_false_iff_not, Bool.not_eq_true', Bool.not_eq_false', List.length_cons, List.length_nil]; first | assumption | omega) | (simp <;> done) | (simp <;> omega)) ?_
  refine Wp.seq ?_
  refine Wp.region ?_
  refine WpL.step (Stp.rd (Rdo.eqi rfl rfl) rfl ?_)
  refine WpL.step (Stp.rd (Rdo.assign rfl) rfl ?_)
  refine WpL.nil ?_
  refine Thn.n ?_
  refine Wp.condK rfl (by first | rfl | assumption | (simp only [decide_eq_true_eq, decide_eq_false_iff_not, Bool.not_eq_true', Bool.not_eq_false', List.length_cons, List.length_nil]; first | assumption | omega) | (simp <;> done) | (simp <;> omega)) ?_
  refine Wp.seq ?_
  refine Wp.region ?_
  refine WpL.step (Stp.rd (Rdo.bld rfl (BldL.nil _)) rfl ?_)
  refine WpL.step (Stp.rd (Rdo.move rfl) rfl ?_)
  refine WpL.step (Stp.call (s1) (by kernel_rfl) rfl (by repeat (first | exact Tk.nil | apply Tk.cons (by repeat (first | exact Pk.here | apply Pk.next)))) rfl ?_)
  rintro _ _ ⟨v34_0, ⟨rfl, rfl⟩⟩
  refine WpL.lst (by simp only [List.cons_append, List.nil_append]; exact rfl) ?_
  refine WpL.step (Stp.storeV rfl rfl (VC.ag _) (by first | rfl | assumption | (simp <;> done)) (by repeat (first | (apply Sts.all; (focus (first | rfl | assumption | (simp <;> done))); (focus (first | exact oneCells1 rfl | assumption | exact oneCells1 (by assumption) | ((repeat (first | assumption | exact oneCells_nil | exact oneCells_bytesC _ | (apply oneCells_cons; (focus (first | rfl | assumption))) | apply oneCells_append)); done) | (simp [oneCells, Value.oneCell'] <;> done)))) | (apply Sts.lp (by repeat (first | exact LPut.nil _ | apply LPut.here | apply LPut.next)); (focus (first | exact oneCells1 rfl | assumption | exact oneCells1 (by assumption) | ((repeat (first | assumption | exact oneCells_nil | exact oneCells_bytesC _ | (apply oneCells_cons; (focus (first | rfl | assumption))) | apply oneCells_append)); done) | (simp [oneCells, Value.oneCell'] <;> done)))) | (refine Sts.row1 (by first | assumption | omega | (simp <;> omega)) (by first | rfl | assumption)) | (refine Sts.rowP (by assumption) (by first | rfl | assumption | (simp <;> done)) (by rfl) (by (first | exact oneCells1 rfl | assumption | exact oneCells1 (by assumption) | ((repeat (first | assumption | exact oneCells_nil | exact oneCells_bytesC _ | (apply oneCells_cons; (focus (first | rfl | assumption))) | apply oneCells_append)); done) | (simp [oneCells, Value.oneCell'] <;> done)))) | apply Sts.next)) ?_)
  refine WpL.step (Stp.rd (Rdo.assign rfl) rfl ?_)
  refine WpL.nil ?_
  refine Thn.n ?_
  refine Wp.ret ?_
  refine Blk.r ?_
  refine Thn.r ?_
  refine Ret.now (ResV.cell rfl (by repeat (first | exact Lds.one rfl | (apply Lds.all; (first | rfl | assumption | (simp <;> fail))) | exact Lds.ione0 | exact Lds.ione rfl | (apply Lds.iall; (first | rfl | assumption | (simp <;> fail))) | apply Lds.next)) (ResV.tmp rfl ResV.nil)) (Gh.tk (by repeat (first | exact Tk.nil | apply Tk.cons (by repeat (first | exact Pk.here | apply Pk.next))))) ⟨_, ⟨rfl, rfl⟩⟩
theorem does_none (b : Nat) (c : CoS) (o : Go.Proofs.YtccgdnocldmjeaaDoor.Op) (hk : ¬ o.kind = 1) (hk4 : ¬ o.kind = 4) (hp : ¬ (0 ≤ o.producer ∧ o.producer < c.prods.length)) :
    Trip Tryd.prog 25 [vp b 0, .agg (opC o).toArray] [coA b c] (fun r l => ∃ v, r = .tuple #[.agg (repC ⟨4, 0, 0⟩).toArray, v] ∧ l = [coA b c, markA v []]) := by
  refine Trip.ghE coA_open ?_
  rintro m hm
  have s1 := get_none (b := m.tb) (mb := m.mb) (qs := m.qs) (n := o.producer) (by rw [hm]; exact hp)
  simp only [coX, List.cons_append, List.nil_append]
  refine Trip.of_body Tryd.func25 rfl Tryd.ntmps25 Tryd.results25 rfl ?_
  refine Wp.seq ?_
  refine Wp.region ?_
  (refine WpL.step (Stp.boxV rfl (VC.ag _) rfl ?_); intro nb2)
  (refine WpL.step (Stp.alloc rfl ?_); intro nb3)
  refine WpL.step (Stp.rd (Rdo.assign rfl) rfl ?_)
  refine WpL.nil ?_
  refine Thn.n ?_
  refine Wp.seq ?_
  refine Wp.seq ?_
  refine Wp.region ?_
  refine WpL.step (Stp.rd (Rdo.fieldAddr0 rfl) rfl ?_)
  refine WpL.step (Stp.rd (Rdo.load rfl (Lds.next (Lds.one rfl))) rfl ?_)
  refine WpL.nil ?_
  refine Thn.n ?_
  refine Wp.block ?_
  refine Wp.seq ?_
  refine Wp.region ?_
  refine WpL.step (Stp.rd (Rdo.eqi rfl rfl) rfl ?_)
  refine WpL.step (Stp.rd (Rdo.assign rfl) rfl ?_)
  refine WpL.nil ?_
  refine Thn.n ?_
  refine Wp.condL rfl (by first | rfl | assumption | (simp only [decide_eq_true_eq, decide_eq_false_iff_not, Bool.not_eq_true', Bool.not_eq_false', List.length_cons, List.length_nil]; first | assumption | omega) | (simp <;> done) | (simp <;> omega)) ?_
  refine Wp.seq ?_
  refine Wp.region ?_
  refine WpL.step (Stp.rd (Rdo.eqi rfl rfl) rfl ?_)
  refine WpL.step (Stp.rd (Rdo.assign rfl) rfl ?_)
  refine WpL.nil ?_
  refine Thn.n ?_
  refine Wp.condL rfl (by first | rfl | assumption | (simp only [decide_eq_true_eq, decide_eq_false_iff_not, Bool.not_eq_true', Bool.not_eq_false', List.length_cons, List.length_nil]; first | assumption | omega) | (simp <;> done) | (simp <;> omega)) ?_
  refine Wp.skip ?_
  refine Blk.n ?_
  refine Thn.n ?_
  refine Wp.seq ?_
  refine Wp.draw (by kernel_rfl) ?_
  refine WpR.take (i := 0) rfl (by kernel_rfl) (by kernel_rfl) (by kernel_rfl) (Rdo.move rfl) rfl ?_
  refine WpR.take (i := 1) rfl (by kernel_rfl) (by kernel_rfl) (by kernel_rfl) (Rdo.nilCheck rfl) rfl ?_
  refine WpR.take (i := 2) rfl (by kernel_rfl) (by kernel_rfl) (by kernel_rfl) (Rdo.fieldAddr0 rfl) rfl ?_
  refine WpR.take (i := 4) rfl (by kernel_rfl) (by kernel_rfl) (by kernel_rfl) (Rdo.fieldAddr0 rfl) rfl ?_
  refine WpR.load (i := 3) [5] rfl (by kernel_rfl) (by kernel_rfl) (by kernel_rfl) (by kernel_rfl) (by kernel_rfl) rfl Tk.rfl_ (Harm.rd rfl (Rdo.load rfl (Lds.next (Lds.one rfl))) Harm.nil) (Rdo.load rfl (Lds.next (Lds.next (Lds.one rfl)))) rfl ?_
  refine WpR.one (i := 5) rfl (by kernel_rfl) (Stp.rd (Rdo.load rfl (Lds.next (Lds.one rfl))) rfl ?_)
  refine WpR.one (i := 6) rfl (by kernel_rfl) (Stp.call (s1) (by kernel_rfl) rfl (by repeat (first | exact Tk.nil | apply Tk.cons (by repeat (first | exact Pk.here | apply Pk.next)))) rfl ?_)
  rintro _ _ ⟨rfl, rfl⟩
  refine WpR.lst (by simp only [List.cons_append, List.nil_append]; exact rfl) ?_
  refine WpR.take (i := 7) rfl (by kernel_rfl) (by kernel_rfl) (by kernel_rfl) (Rdo.move rfl) rfl ?_
  refine WpR.take (i := 8) rfl (by kernel_rfl) (by kernel_rfl) (by kernel_rfl) (Rdo.extract rfl rfl) rfl ?_
  refine WpR.take (i := 9) rfl (by kernel_rfl) (by kernel_rfl) (by kernel_rfl) (Rdo.extract rfl rfl) rfl ?_
  refine WpR.take (i := 10) rfl (by kernel_rfl) (by kernel_rfl) (by kernel_rfl) (Rdo.assign rfl) rfl ?_
  refine WpR.take (i := 11) rfl (by kernel_rfl) (by kernel_rfl) (by kernel_rfl) (Rdo.assign rfl) rfl ?_
  refine WpR.done (by kernel_rfl) ?_
  refine Thn.n ?_
  refine Wp.seq ?_
  refine Wp.block ?_
  refine Wp.seq ?_
  refine Wp.region ?_
  refine WpL.step (Stp.rd (Rdo.move rfl) rfl ?_)
  refine WpL.step (Stp.rd (Rdo.not rfl) rfl ?_)
  refine WpL.step (Stp.rd (Rdo.assign rfl) rfl ?_)
  refine WpL.nil ?_
  refine Thn.n ?_
  refine Wp.condT rfl ?_
  refine Wp.seq ?_
  refine Wp.region ?_
  refine WpL.step (Stp.rd (Rdo.bld rfl (BldL.cons rfl (VC.i _ _) (by first | rfl | assumption | (simp <;> done)) (by repeat (first | exact LPut.nil _ | apply LPut.here | apply LPut.next)) (BldL.nil _))) rfl ?_)
  refine WpL.step (Stp.storeV rfl rfl (VC.ag _) (by first | rfl | assumption | (simp <;> done)) (by repeat (first | (apply Sts.all; (focus (first | rfl | assumption | (simp <;> done))); (focus (first | exact oneCells1 rfl | assumption | exact oneCells1 (by assumption) | ((repeat (first | assumption | exact oneCells_nil | exact oneCells_bytesC _ | (apply oneCells_cons; (focus (first | rfl | assumption))) | apply oneCells_append)); done) | (simp [oneCells, Value.oneCell'] <;> done)))) | (apply Sts.lp (by repeat (first | exact LPut.nil _ | apply LPut.here | apply LPut.next)); (focus (first | exact oneCells1 rfl | assumption | exact oneCells1 (by assumption) | ((repeat (first | assumption | exact oneCells_nil | exact oneCells_bytesC _ | (apply oneCells_cons; (focus (first | rfl | assumption))) | apply oneCells_append)); done) | (simp [oneCells, Value.oneCell'] <;> done)))) | (refine Sts.row1 (by first | assumption | omega | (simp <;> omega)) (by first | rfl | assumption)) | (refine Sts.rowP (by assumption) (by first | rfl | assumption | (simp <;> done)) (by rfl) (by (first | exact oneCells1 rfl | assumption | exact oneCells1 (by assumption) | ((repeat (first | assumption | exact oneCells_nil | exact oneCells_bytesC _ | (apply oneCells_cons; (focus (first | rfl | assumption))) | apply oneCells_append)); done) | (simp [oneCells, Value.oneCell'] <;> done)))) | apply Sts.next)) ?_)
  refine WpL.step (Stp.rd (Rdo.assign rfl) rfl ?_)
  refine WpL.nil ?_
  refine Thn.n ?_
  refine Wp.ret ?_
  refine Blk.r ?_
  refine Thn.r ?_
  exact Ret.now (by repeat (first | exact ResV.nil | apply ResV.tmp rfl | apply ResV.cell rfl (by repeat (first | exact Lds.one rfl | (apply Lds.all; (first | rfl | assumption | (simp <;> fail))) | exact Lds.ione0 | exact Lds.ione rfl | (apply Lds.iall; (first | rfl | assumption | (simp <;> fail))) | apply Lds.next)))) (Gh.trans (Gh.tk (by repeat (first | exact Tk.nil | apply Tk.cons (by repeat (first | exact Pk.here | apply Pk.next))))) (fin0 m hm)) ⟨_, rfl, rfl⟩
end Go.Proofs.YtccgdnocldmjeaaDoor
