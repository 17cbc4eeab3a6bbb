/- The coordinator: a tick. -/
import Derived.Test.YtccgdnocldmjeaaDoorCo9
namespace Go.Proofs.YtccgdnocldmjeaaDoor
open Go
set_option maxHeartbeats 4000000
set_option linter.unusedSimpArgs false
set_option linter.unusedVariables false
set_option maxRecDepth 20000
open Tabprod

abbrev ticL (b nc nm : Nat) (m : CoM) (r : CoS × List Mark) (mv v : Value) : List HP :=
  [prodsA m.qs r.1.prods, cel nm 31 [v], cel nc 24 [vp b 0], cel b 64 (coC r.1 { m with mv := mv }), markA v r.2, rowA 36 4 mv r.1.marks.length (r.1.marks.map markC).flatten,
   mapA markV m.db (r.1.decided.map fun k => (k, vb true)), mapA askV m.ab (r.1.answers.map fun x => (x.1, .agg (repC x.2).toArray)), cel m.tb 83 [.map (some m.mb)], mapA i64 m.mb (tabE 0 m.qs)]
theorem markA_snoc (v : Value) (ms : List Mark) (m : Mark) : rowA 36 4 v (ms.length + 1) ((ms.map markC).flatten ++ markC m) = markA v (ms ++ [m]) := by
  have h1 : (ms ++ [m]).length = ms.length + 1 := by simp
  have h2 : ((ms ++ [m]).map markC).flatten = (ms.map markC).flatten ++ markC m := by simp
  unfold markA
  rw [h1, h2]
theorem ticks_ok (b : Nat) (c : CoS) (h8 : c.prods.length ≤ 8) (hml : c.marks.length ≤ 900000) (hn : 0 ≤ c.now ∧ c.now ≤ 1000000) (hbg : ∀ p ∈ c.prods, 0 ≤ p.began ∧ p.began ≤ 2000000) :
    Trip Tryd.prog 37 [vp b 0] [coA b c] (fun r l => ∃ v, r = v ∧ l = [coA b c.ticks.2, markA v c.ticks.1]) := by
  refine Trip.ghE coA_open ?_
  rintro m hm
  simp only [coX, List.cons_append, List.nil_append]
  refine Trip.of_body Tryd.func37 rfl Tryd.ntmps37 Tryd.results37 rfl ?_
  refine Wp.seq ?_
  refine Wp.region ?_
  (refine WpL.step (Stp.boxV rfl (VC.p _) rfl ?_); intro nb2)
  refine WpL.step (Stp.rd (Rdo.assign rfl) rfl ?_)
  refine WpL.nil ?_
  refine Thn.n ?_
  refine Wp.seq ?_
  refine Wp.region ?_
  refine WpL.step (Stp.rd (Rdo.load rfl (Lds.one rfl)) rfl ?_)
  refine WpL.step (Stp.rd (Rdo.nilCheck rfl) rfl ?_)
  refine WpL.step (Stp.rd (Rdo.fieldAddr0 rfl) rfl ?_)
  refine WpL.step (Stp.rd (Rdo.load rfl (Lds.next (Lds.one rfl))) rfl ?_)
  refine WpL.step (Stp.rd (Rdo.add64 rfl rfl (by first | omega | (dsimp only; omega))) rfl ?_)
  refine WpL.step (Stp.rd (Rdo.nilCheck rfl) rfl ?_)
  refine WpL.step (Stp.rd (Rdo.fieldAddr0 rfl) rfl ?_)
  refine WpL.step (Stp.storeV rfl rfl (VC.i _ _) rfl (Sts.next (Sts.lp (by repeat (first | exact LPut.nil _ | apply LPut.here | apply LPut.next)) (oneCells1 rfl))) ?_)
  refine WpL.nil ?_
  refine Thn.n ?_
  refine Wp.seq ?_
  refine Wp.region ?_
  (refine WpL.step (Stp.alloc rfl ?_); intro nb20)
  refine WpL.nil ?_
  refine Thn.n ?_
  refine Wp.seq ?_
  refine Wp.seq ?_
  refine Wp.region ?_
  refine WpL.step (Stp.rd (Rdo.load rfl (Lds.next (Lds.one rfl))) rfl ?_)
  refine WpL.step (Stp.rd (Rdo.nilCheck rfl) rfl ?_)
  refine WpL.step (Stp.rd (Rdo.fieldAddr0 rfl) rfl ?_)
  refine WpL.step (Stp.rd (Rdo.load rfl (Lds.next (Lds.next (Lds.one rfl)))) rfl ?_)
  refine WpL.step (Stp.call (Tabprod.all_ok _) (by kernel_rfl) rfl (by repeat (first | exact Tk.nil | apply Tk.cons (by repeat (first | exact Pk.here | apply Pk.next)))) rfl ?_)
  rintro _ _ ⟨v31_0, ⟨v31_1, ⟨rfl, rfl⟩⟩⟩
  refine WpL.lst (by simp only [List.cons_append, List.nil_append]; exact rfl) ?_
  refine WpL.nil ?_
  refine Thn.n ?_
  refine Wp.block ?_
  refine Wp.rangeFunc (ps := [18, 19]) rfl (by kernel_rfl) (allIter v31_0 v31_1 m.tb m.mb _ _ (tabE 0 m.qs) (tabE 0 m.qs) (List.Perm.refl _) (tabE_keys 0 m.qs) (by rw [tabE_length]; omega)) (fun _ => rfl) rfl
    (fun pre l => ∃ mv v, l = ticL b nb2 nb20 m (c.tickN pre.length) mv v) (fun j pre l => False)
    (l0 := ticL b nb2 nb20 m (c.tickN 0) m.mv vnil) (Gh.trans (Gh.nil 36 4) (Gh.tk (by repeat (first | exact Tk.nil | apply Tk.cons (by repeat (first | exact Pk.here | apply Pk.next)))))) ⟨m.mv, vnil, rfl⟩
    (Bor.tk (Tk.cons (Pk.next (Pk.next (Pk.next (Pk.next (Pk.next (Pk.next (Pk.next (Pk.next Pk.here)))))))) (Tk.cons (Pk.next (Pk.next (Pk.next (Pk.next (Pk.next (Pk.next (Pk.next (Pk.next Pk.here)))))))) Tk.nil)) (Gh.tk (by repeat (first | exact Tk.nil | apply Tk.cons (by repeat (first | exact Pk.here | apply Pk.next)))))) ?_ ?_ ?_
  · rintro lp rec pre ⟨x, u⟩ rest _ hs ⟨mv, v, rfl⟩ st pe
    have hg : (tabE 0 m.qs)[pre.length]? = some (x, u) := by rw [← hs]; simp
    rw [tabE_get] at hg
    obtain ⟨q, hqi, hxu⟩ := Option.map_eq_some_iff.1 hg
    simp only [Nat.zero_add] at hxu
    obtain ⟨rfl, rfl⟩ := _root_.Prod.mk.inj hxu
    have hlt : pre.length < m.qs.length := (List.getElem?_eq_some_iff.1 hqi).1
    obtain ⟨s1, s2, s3, s4, s5⟩ := c.tickN_spec pre.length
    obtain ⟨p, hpi⟩ : ∃ p, c.prods[pre.length]? = some p := ⟨c.prods[pre.length]'(by omega), List.getElem?_eq_getElem (by omega)⟩
    have hpt := c.tickN_at pre.length pre.length (Nat.le_refl _)
    rw [hpi] at hpt
    have hbp := hbg p (List.mem_of_getElem? hpi)
    have hsucc := c.tickN_succ pre.length
    unfold CoS.tick1 at hsucc
    have hml2 : (c.tickN pre.length).1.marks.length ≤ 1000000 := by rw [s4, List.length_append]; omega
    generalize hN : pre.length = N at *
    generalize hR : c.tickN N = r at *
    rw [List.getD_eq_getElem?_getD, hpt, Option.getD_some] at hsucc
    have hlen : (pre ++ [((N : Int), vp q 0)]).length = N + 1 := by simp [hN]
    refine Wp.gh (Gh.part1 hqi hpt) (Wp.ghE prodA_open ?_)
    rintro pv _
    have hnow : r.1.now = c.now + 1 := s2
    obtain ⟨now', hnow'⟩ : ∃ n, n = r.1.now := ⟨_, rfl⟩
    have t1 := fun w => decides_ok b q 64 (vp m.tb 0) mv (.map (some m.ab)) w pv m.db r.1.marks r.1.decided N 3 p hml2
    have hsh : ∀ l, Gh (cel q 74 (prodC p pv) :: pmA pv p.opn p.parts :: holeA m.qs r.1.prods N :: l) (prodsA m.qs r.1.prods :: l) := fun l => Gh.trans prodA_shut (Gh.part0 hqi hpt)
    cases ho : p.opn with
    | false =>
      have ha : r.1.ages p = false := by simp [CoS.ages, ho]
      rw [ha, if_neg (by simp)] at hsucc
      refine Wp.seq ?_
      refine Wp.region ?_
      refine WpL.step (Stp.rd (Rdo.assign rfl) rfl ?_)
      refine WpL.nil ?_
      refine Thn.n ?_
      refine Wp.region ?_
      refine WpL.step (Stp.rd (Rdo.assign rfl) rfl ?_)
      refine WpL.nil ?_
      refine ⟨rfl, fun st pe => ?_⟩
      refine Wp.block ?_
      refine Wp.seq ?_
      refine Wp.draw (by kernel_rfl) ?_
      refine WpR.take (i := 0) rfl (by kernel_rfl) (by kernel_rfl) (by kernel_rfl) (Rdo.move rfl) rfl ?_
      refine WpR.take (i := 1) rfl (by kernel_rfl) (by kernel_rfl) (by kernel_rfl) (Rdo.nilCheck rfl) rfl ?_
      refine WpR.take (i := 2) rfl (by kernel_rfl) (by kernel_rfl) (by kernel_rfl) (Rdo.fieldAddr0 rfl) rfl ?_
      refine WpR.one (i := 3) rfl (by kernel_rfl) (Stp.rd (Rdo.load rfl (Lds.one rfl)) rfl ?_)
      refine WpR.take (i := 4) rfl (by kernel_rfl) (by kernel_rfl) (by kernel_rfl) (Rdo.move rfl) rfl ?_
      refine WpR.tF 24 rfl (by first | rfl | assumption | (simp only [decide_eq_true_eq, decide_eq_false_iff_not, Bool.not_eq_true', Bool.not_eq_false', List.length_cons, List.length_nil]; first | assumption | omega) | (simp <;> done) | (simp <;> omega)) ?_
      refine WpR.pass (i := 5) rfl rfl rfl rfl (by kernel_rfl) (by kernel_rfl) (by kernel_rfl) rfl ?_
      refine WpR.pass (i := 6) rfl rfl rfl rfl (by kernel_rfl) (by kernel_rfl) (by kernel_rfl) rfl ?_
      refine WpR.pass (i := 7) rfl rfl rfl rfl (by kernel_rfl) (by kernel_rfl) (by kernel_rfl) rfl ?_
      refine WpR.pass (i := 8) rfl rfl rfl rfl (by kernel_rfl) (by kernel_rfl) (by kernel_rfl) rfl ?_
      refine WpR.pass (i := 9) rfl rfl rfl rfl (by kernel_rfl) (by kernel_rfl) (by kernel_rfl) rfl ?_
      refine WpR.pass (i := 10) rfl rfl rfl rfl (by kernel_rfl) (by kernel_rfl) (by kernel_rfl) rfl ?_
      refine WpR.pass (i := 11) rfl rfl rfl rfl (by kernel_rfl) (by kernel_rfl) (by kernel_rfl) rfl ?_
      refine WpR.pass (i := 12) rfl rfl rfl rfl (by kernel_rfl) (by kernel_rfl) (by kernel_rfl) rfl ?_
      refine WpR.pass (i := 13) rfl rfl rfl rfl (by kernel_rfl) (by kernel_rfl) (by kernel_rfl) rfl ?_
      refine WpR.pass (i := 14) rfl rfl rfl rfl (by kernel_rfl) (by kernel_rfl) (by kernel_rfl) rfl ?_
      refine WpR.take (i := 15) rfl (by kernel_rfl) (by kernel_rfl) (by kernel_rfl) (Rdo.pick_f rfl rfl) rfl ?_
      refine WpR.done (by kernel_rfl) ?_
      refine Thn.n ?_
      refine Wp.condF rfl ?_
      refine Wp.skip ?_
      refine Blk.n ?_
      rw [ho] at hsh
      exact ⟨ticL b nb2 nb20 m r mv v, Gh.trans (Gh.tk (by repeat (first | exact Tk.nil | apply Tk.cons (by repeat (first | exact Pk.here | apply Pk.next))))) (hsh _), mv, v, by rw [hlen, hsucc]⟩
    | true =>
      by_cases hg5 : 5 ≤ r.1.now - p.began
      · have ha : r.1.ages p = true := by simp [CoS.ages, ho, hg5]
        rw [ha, if_pos rfl] at hsucc
        refine Wp.seq ?_
        refine Wp.region ?_
        refine WpL.step (Stp.rd (Rdo.assign rfl) rfl ?_)
        refine WpL.nil ?_
        refine Thn.n ?_
        refine Wp.region ?_
        refine WpL.step (Stp.rd (Rdo.assign rfl) rfl ?_)
        refine WpL.nil ?_
        refine ⟨rfl, fun st pe => ?_⟩
        refine Wp.block ?_
        refine Wp.seq ?_
        refine Wp.draw (by kernel_rfl) ?_
        refine WpR.take (i := 0) rfl (by kernel_rfl) (by kernel_rfl) (by kernel_rfl) (Rdo.move rfl) rfl ?_
        refine WpR.take (i := 1) rfl (by kernel_rfl) (by kernel_rfl) (by kernel_rfl) (Rdo.nilCheck rfl) rfl ?_
        refine WpR.take (i := 2) rfl (by kernel_rfl) (by kernel_rfl) (by kernel_rfl) (Rdo.fieldAddr0 rfl) rfl ?_
        refine WpR.one (i := 3) rfl (by kernel_rfl) (Stp.rd (Rdo.load rfl (Lds.one rfl)) rfl ?_)
        refine WpR.take (i := 4) rfl (by kernel_rfl) (by kernel_rfl) (by kernel_rfl) (Rdo.move rfl) rfl ?_
        refine WpR.tT 24 rfl (by first | rfl | assumption | (simp only [decide_eq_true_eq, decide_eq_false_iff_not, Bool.not_eq_true', Bool.not_eq_false', List.length_cons, List.length_nil]; first | assumption | omega) | (simp <;> done) | (simp <;> omega)) ?_
        refine WpR.want (i := 9) rfl rfl rfl rfl (by kernel_rfl) (by kernel_rfl) (by kernel_rfl) (Rdo.move rfl) rfl ?_
        refine WpR.want (i := 10) rfl rfl rfl rfl (by kernel_rfl) (by kernel_rfl) (by kernel_rfl) (Rdo.nilCheck rfl) rfl ?_
        refine WpR.want (i := 11) rfl rfl rfl rfl (by kernel_rfl) (by kernel_rfl) (by kernel_rfl) (Rdo.fieldAddr0 rfl) rfl ?_
        refine WpR.phaseL (m := 0) #[true, true, true, true, true, true, true, true, true, true, true, true, true, true, true, true] 8 _ rfl (by kernel_rfl) (Tk.cons Pk.here (Tk.cons (Pk.next (Pk.next (Pk.next Pk.here))) (Tk.cons (Pk.next (Pk.next (Pk.next Pk.here))) Tk.nil))) ?_
        refine WpA.want (i := 5) rfl rfl rfl rfl rfl (by kernel_rfl) (by kernel_rfl) (by kernel_rfl) (Rdo.load rfl (Lds.next (Lds.one rfl))) rfl ?_
        refine WpA.want (i := 6) rfl rfl rfl rfl rfl (by kernel_rfl) (by kernel_rfl) (by kernel_rfl) (Rdo.nilCheck rfl) rfl ?_
        refine WpA.want (i := 7) rfl rfl rfl rfl rfl (by kernel_rfl) (by kernel_rfl) (by kernel_rfl) (Rdo.fieldAddr0 rfl) rfl ?_
        refine WpA.want (i := 8) rfl rfl rfl rfl rfl (by kernel_rfl) (by kernel_rfl) (by kernel_rfl) (Rdo.load rfl (Lds.next (Lds.next (Lds.one rfl)))) rfl ?_
        refine WpA.want (i := 12) rfl rfl rfl rfl rfl (by kernel_rfl) (by kernel_rfl) (by kernel_rfl) (Rdo.load rfl (Lds.one rfl)) rfl ?_
        refine WpA.want (i := 13) rfl rfl rfl rfl rfl (by kernel_rfl) (by kernel_rfl) (by kernel_rfl) (Rdo.sub64 rfl rfl (by omega)) rfl ?_
        refine WpA.want (i := 14) rfl rfl rfl rfl rfl (by kernel_rfl) (by kernel_rfl) (by kernel_rfl) (Rdo.gei rfl rfl) rfl ?_
        refine WpA.take (i := 15) rfl rfl (by kernel_rfl) (by kernel_rfl) (by kernel_rfl) (Rdo.pick_t rfl rfl) rfl ?_
        refine WpA.stop (by kernel_rfl) ?_
        refine WpR.lst (by simp only [List.cons_append, List.nil_append]; exact rfl) ?_
        refine WpR.done (by kernel_rfl) ?_
        refine Thn.n ?_
        refine Wp.condK rfl (by first | rfl | assumption | (simp only [decide_eq_true_eq, decide_eq_false_iff_not, Bool.not_eq_true', Bool.not_eq_false', List.length_cons, List.length_nil]; first | assumption | omega) | (simp <;> done) | (simp <;> omega)) ?_
        refine Wp.draw (by kernel_rfl) ?_
        refine WpR.take (i := 2) rfl (by kernel_rfl) (by kernel_rfl) (by kernel_rfl) (Rdo.move rfl) rfl ?_
        refine WpR.take (i := 3) rfl (by kernel_rfl) (by kernel_rfl) (by kernel_rfl) (Rdo.move rfl) rfl ?_
        refine WpR.load (i := 1) [0] rfl (by kernel_rfl) (by kernel_rfl) (by kernel_rfl) (by kernel_rfl) (by kernel_rfl) rfl Tk.rfl_ (Harm.rd rfl (Rdo.load rfl (Lds.next (Lds.next (Lds.next (Lds.next (Lds.next (Lds.one rfl))))))) Harm.nil) (Rdo.load rfl (Lds.next (Lds.one rfl))) rfl ?_
        refine WpR.phaseL (m := 1) #[true, true, true, true, true, true, false] 3 _ rfl (by kernel_rfl) (Tk.cons (Pk.next (Pk.next (Pk.next (Pk.next (Pk.next Pk.here))))) Tk.nil) ?_
        refine WpA.take (i := 0) rfl rfl (by kernel_rfl) (by kernel_rfl) (by kernel_rfl) (Rdo.load rfl (Lds.one rfl)) rfl ?_
        refine WpA.one (i := 4) rfl (by kernel_rfl) (Stp.call (t1 _) (by kernel_rfl) rfl (by repeat (first | exact Tk.nil | apply Tk.cons (by repeat (first | exact Pk.here | apply Pk.next)))) rfl ?_)
        rintro _ _ ⟨v33_0, ⟨v33_1, ⟨rfl, rfl⟩⟩⟩
        refine WpA.lst (by simp only [List.cons_append, List.nil_append]; exact rfl) ?_
        (refine WpA.one (i := 5) rfl (by kernel_rfl) (Stp.appendP rfl rfl (Pk.next (Pk.next (Pk.next (Pk.next (Pk.next (Pk.next (Pk.next (Pk.next Pk.here)))))))) (Src.next (Src.next (Src.cel (by first | rfl | (simp <;> done) | (simp <;> omega))))) (by first | rfl | (simp <;> done) | (simp <;> omega)) (by first | assumption | exact oneCells1 rfl | exact oneCells1 (by assumption) | exact oneCells_bytesC _ | exact oneCells_votesC _ | (simp [oneCells, Value.oneCell'] <;> done)) (by first | omega | (simp <;> omega)) (by first | omega | (simp <;> omega)) rfl (by first | rfl | (simp <;> done)) ?_); intro na35 nc35)
        refine WpA.stop (by kernel_rfl) ?_
        refine WpR.lst (by simp only [List.cons_append, List.nil_append]; exact rfl) ?_
        refine WpR.one (i := 6) rfl (by kernel_rfl) (Stp.storeV rfl rfl (VC.sl _ _ _) rfl (Sts.lp (by repeat (first | exact LPut.nil _ | apply LPut.here | apply LPut.next)) (oneCells1 rfl)) ?_)
        refine WpR.done (by kernel_rfl) ?_
        refine Blk.n ?_
        rw [markA_snoc, aset_keys]
        refine ⟨ticL b nb2 nb20 m (r.1.decide N p 3, r.2 ++ [⟨3, N, p.epoch, p.last⟩]) v33_0 (.slice na35 (r.2.length + 1) nc35), Gh.trans (Gh.tk (by repeat (first | exact Tk.nil | apply Tk.cons (by repeat (first | exact Pk.here | apply Pk.next))))) (Gh.trans (prodA_shut0 (q := q) (p := { p with opn := false, parts := [] }) rfl) (Gh.part2 hqi (List.getElem?_eq_some_iff.1 hpt).1)), _, _, by rw [hlen, hsucc]⟩
      · have ha : r.1.ages p = false := by simp [CoS.ages, hg5]
        rw [ha, if_neg (by simp)] at hsucc
        refine Wp.seq ?_
        refine Wp.region ?_
        refine WpL.step (Stp.rd (Rdo.assign rfl) rfl ?_)
        refine WpL.nil ?_
        refine Thn.n ?_
        refine Wp.region ?_
        refine WpL.step (Stp.rd (Rdo.assign rfl) rfl ?_)
        refine WpL.nil ?_
        refine ⟨rfl, fun st pe => ?_⟩
        refine Wp.block ?_
        refine Wp.seq ?_
        refine Wp.draw (by kernel_rfl) ?_
        refine WpR.take (i := 0) rfl (by kernel_rfl) (by kernel_rfl) (by kernel_rfl) (Rdo.move rfl) rfl ?_
        refine WpR.take (i := 1) rfl (by kernel_rfl) (by kernel_rfl) (by kernel_rfl) (Rdo.nilCheck rfl) rfl ?_
        refine WpR.take (i := 2) rfl (by kernel_rfl) (by kernel_rfl) (by kernel_rfl) (Rdo.fieldAddr0 rfl) rfl ?_
        refine WpR.one (i := 3) rfl (by kernel_rfl) (Stp.rd (Rdo.load rfl (Lds.one rfl)) rfl ?_)
        refine WpR.take (i := 4) rfl (by kernel_rfl) (by kernel_rfl) (by kernel_rfl) (Rdo.move rfl) rfl ?_
        refine WpR.tT 24 rfl (by first | rfl | assumption | (simp only [decide_eq_true_eq, decide_eq_false_iff_not, Bool.not_eq_true', Bool.not_eq_false', List.length_cons, List.length_nil]; first | assumption | omega) | (simp <;> done) | (simp <;> omega)) ?_
        refine WpR.want (i := 9) rfl rfl rfl rfl (by kernel_rfl) (by kernel_rfl) (by kernel_rfl) (Rdo.move rfl) rfl ?_
        refine WpR.want (i := 10) rfl rfl rfl rfl (by kernel_rfl) (by kernel_rfl) (by kernel_rfl) (Rdo.nilCheck rfl) rfl ?_
        refine WpR.want (i := 11) rfl rfl rfl rfl (by kernel_rfl) (by kernel_rfl) (by kernel_rfl) (Rdo.fieldAddr0 rfl) rfl ?_
        refine WpR.phaseL (m := 0) #[true, true, true, true, true, true, true, true, true, true, true, true, true, true, true, true] 8 _ rfl (by kernel_rfl) (Tk.cons Pk.here (Tk.cons (Pk.next (Pk.next (Pk.next Pk.here))) (Tk.cons (Pk.next (Pk.next (Pk.next Pk.here))) Tk.nil))) ?_
        refine WpA.want (i := 5) rfl rfl rfl rfl rfl (by kernel_rfl) (by kernel_rfl) (by kernel_rfl) (Rdo.load rfl (Lds.next (Lds.one rfl))) rfl ?_
        refine WpA.want (i := 6) rfl rfl rfl rfl rfl (by kernel_rfl) (by kernel_rfl) (by kernel_rfl) (Rdo.nilCheck rfl) rfl ?_
        refine WpA.want (i := 7) rfl rfl rfl rfl rfl (by kernel_rfl) (by kernel_rfl) (by kernel_rfl) (Rdo.fieldAddr0 rfl) rfl ?_
        refine WpA.want (i := 8) rfl rfl rfl rfl rfl (by kernel_rfl) (by kernel_rfl) (by kernel_rfl) (Rdo.load rfl (Lds.next (Lds.next (Lds.one rfl)))) rfl ?_
        refine WpA.want (i := 12) rfl rfl rfl rfl rfl (by kernel_rfl) (by kernel_rfl) (by kernel_rfl) (Rdo.load rfl (Lds.one rfl)) rfl ?_
        refine WpA.want (i := 13) rfl rfl rfl rfl rfl (by kernel_rfl) (by kernel_rfl) (by kernel_rfl) (Rdo.sub64 rfl rfl (by omega)) rfl ?_
        refine WpA.want (i := 14) rfl rfl rfl rfl rfl (by kernel_rfl) (by kernel_rfl) (by kernel_rfl) (Rdo.gei rfl rfl) rfl ?_
        refine WpA.take (i := 15) rfl rfl (by kernel_rfl) (by kernel_rfl) (by kernel_rfl) (Rdo.pick_t rfl rfl) rfl ?_
        refine WpA.stop (by kernel_rfl) ?_
        refine WpR.lst (by simp only [List.cons_append, List.nil_append]; exact rfl) ?_
        refine WpR.done (by kernel_rfl) ?_
        refine Thn.n ?_
        refine Wp.condL rfl (by first | rfl | assumption | (simp only [decide_eq_true_eq, decide_eq_false_iff_not, Bool.not_eq_true', Bool.not_eq_false', List.length_cons, List.length_nil]; first | assumption | omega) | (simp <;> done) | (simp <;> omega)) ?_
        refine Wp.skip ?_
        refine Blk.n ?_
        rw [ho] at hsh
        exact ⟨ticL b nb2 nb20 m r mv v, Gh.trans (Gh.tk (by repeat (first | exact Tk.nil | apply Tk.cons (by repeat (first | exact Pk.here | apply Pk.next))))) (hsh _), mv, v, by rw [hlen, hsucc]⟩
  · rintro xs _ rfl ⟨mv, v, rfl⟩
    rw [tabE_length, hm]
    refine Blk.n ?_
    refine Thn.n ?_
    refine Wp.seq ?_
    refine Wp.region ?_
    refine WpL.step (Stp.rd (Rdo.load rfl (Lds.next (Lds.one rfl))) rfl ?_)
    refine WpL.step (Stp.rd (Rdo.assign rfl) rfl ?_)
    refine WpL.nil ?_
    refine Thn.n ?_
    refine Wp.ret ?_
    refine Ret.now (by repeat (first | exact ResV.nil | apply ResV.tmp rfl | apply ResV.cell rfl (by repeat (first | exact Lds.one rfl | (apply Lds.all; (first | rfl | assumption | (simp <;> fail))) | exact Lds.ione0 | exact Lds.ione rfl | (apply Lds.iall; (first | rfl | assumption | (simp <;> fail))) | apply Lds.next)))) (Gh.trans (Gh.tk (by repeat (first | exact Tk.nil | apply Tk.cons (by repeat (first | exact Pk.here | apply Pk.next))))) (fin1 (c := (c.tickN c.prods.length).1) (ms := (c.tickN c.prods.length).2) { m with mv := mv } ?_)) ⟨_, rfl, rfl⟩
    rw [(c.tickN_spec c.prods.length).1]
    exact hm
  · rintro j pre l' h
    exact h.elim
end Go.Proofs.YtccgdnocldmjeaaDoor
