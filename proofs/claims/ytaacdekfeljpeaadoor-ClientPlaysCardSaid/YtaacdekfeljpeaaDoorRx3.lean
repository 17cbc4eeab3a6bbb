/- The document's client: Acked, End. Written by gen_rx3.py. -/
import Derived.Test.YtaacdekfeljpeaaDoorRx2
namespace Go.Proofs.YtaacdekfeljpeaaDoor
open Go
set_option maxHeartbeats 4000000
set_option linter.unusedSimpArgs false
set_option linter.unusedVariables false
set_option maxRecDepth 20000

theorem pxOk.pres {c c' : CliS} {p : PartS} {x : PX} (h : pxOk c p x) (h1 : c'.opn = c.opn) (h2 : c'.last = c.last) : pxOk c' p x := ⟨h.1, h.2.1, h.2.2.1, fun ho => by rw [h2]; exact h.2.2.2 (h1 ▸ ho)⟩
theorem pxOk.ack {c : CliS} {p : PartS} {x : PX} (h : pxOk c p x) : pxOk c { p with out := none } { x with out := false } := ⟨h.1, rfl, (by intro r hr; cases hr), h.2.2.2⟩
theorem pxOk.shutT {c : CliS} {p : PartS} {x : PX} (h : pxOk c p x) {n : Int} : pxOk { c with next := n, opn := false } p x := ⟨h.1, h.2.1, h.2.2.1, fun ho => by cases ho⟩

theorem racked_ok (b : Nat) (c : CliS) (n : Int) : Trip Tryd.prog 36 [vp b 0, vi n] [simA b c] (fun v l => v = vi (c.acked n).2 ∧ l = [simA b (c.acked n).1]) := by
  refine Trip.ghE simA_open ?_; rintro ⟨⟨x0, x1, x2, x3⟩, ⟨a0, c0⟩, ⟨a1, c1⟩, ⟨a2, c2⟩, ⟨a3, c3⟩⟩ hs; simp only at hs ⊢
  unfold CliS.acked
  by_cases h1 : n < 0
  · rw [if_pos (.inl h1)]
    refine Trip.of_body Tryd.func36 rfl Tryd.ntmps36 Tryd.results36 rfl ?_
    refine Wp.seq ?_
    refine Wp.region ?_
    refine WpL.step (Stp.rd (Rdo.assign rfl) rfl ?_)
    refine WpL.nil ?_
    refine Thn.n ?_
    refine Wp.seq ?_
    refine Wp.seq ?_
    refine Wp.region ?_
    refine WpL.step (Stp.rd (Rdo.move rfl) rfl ?_)
    refine WpL.step (Stp.rd (Rdo.lti rfl rfl) rfl ?_)
    refine WpL.step (Stp.rd (Rdo.move rfl) rfl ?_)
    refine WpL.gT rfl rfl (by first | rfl | assumption | (simp only [decide_eq_true_eq, decide_eq_false_iff_not, Bool.not_eq_true', Bool.not_eq_false', List.length_cons, List.length_nil]; first | assumption | omega) | (simp <;> done) | (simp <;> omega)) ?_
    refine WpL.pass rfl rfl rfl rfl ?_
    refine WpL.pass rfl rfl rfl rfl ?_
    refine WpL.step (Stp.rd (Rdo.pick_t rfl rfl) rfl ?_)
    refine WpL.step (Stp.rd (Rdo.move rfl) rfl ?_)
    refine WpL.pass rfl rfl rfl rfl ?_
    refine WpL.pass rfl rfl rfl rfl ?_
    refine WpL.pass rfl rfl rfl rfl ?_
    refine WpL.pass rfl rfl rfl rfl ?_
    refine WpL.pass rfl rfl rfl rfl ?_
    refine WpL.pass rfl rfl rfl rfl ?_
    refine WpL.pass rfl rfl rfl rfl ?_
    refine WpL.pass rfl rfl rfl rfl ?_
    refine WpL.step (Stp.rd (Rdo.pick_t rfl rfl) rfl ?_)
    refine WpL.nil ?_
    refine Thn.n ?_
    refine Wp.condT rfl ?_
    refine Wp.seq ?_
    refine Wp.region ?_
    refine WpL.step (Stp.rd (Rdo.assign rfl) rfl ?_)
    refine WpL.nil ?_
    refine Thn.n ?_
    refine Wp.ret ?_
    refine Thn.r ?_
    refine Ret.now (ResV.tmp rfl ResV.nil) ?_ ⟨rfl, rfl⟩
    exact Gh.trans (Gh.tk (by repeat (first | exact Tk.nil | apply Tk.cons (by repeat (first | exact Pk.here | apply Pk.next))))) (shutX b c x0 x1 x2 x3 a0 c0 a1 c1 a2 c2 a3 c3 hs)
  by_cases h2 : 3 < n
  · rw [if_pos (.inr h2)]
    refine Trip.of_body Tryd.func36 rfl Tryd.ntmps36 Tryd.results36 rfl ?_
    refine Wp.seq ?_
    refine Wp.region ?_
    refine WpL.step (Stp.rd (Rdo.assign rfl) rfl ?_)
    refine WpL.nil ?_
    refine Thn.n ?_
    refine Wp.seq ?_
    refine Wp.seq ?_
    refine Wp.region ?_
    refine WpL.step (Stp.rd (Rdo.move rfl) rfl ?_)
    refine WpL.step (Stp.rd (Rdo.lti rfl rfl) rfl ?_)
    refine WpL.step (Stp.rd (Rdo.move rfl) rfl ?_)
    refine WpL.gF rfl rfl (by first | rfl | assumption | (simp only [decide_eq_true_eq, decide_eq_false_iff_not, Bool.not_eq_true', Bool.not_eq_false', List.length_cons, List.length_nil]; first | assumption | omega) | (simp <;> done) | (simp <;> omega)) ?_
    refine WpL.want rfl rfl rfl (Stp.rd (Rdo.move rfl) rfl ?_)
    refine WpL.want rfl rfl rfl (Stp.rd (Rdo.gti rfl rfl) rfl ?_)
    refine WpL.step (Stp.rd (Rdo.pick_f rfl rfl) rfl ?_)
    refine WpL.step (Stp.rd (Rdo.move rfl) rfl ?_)
    refine WpL.gT rfl rfl (by first | rfl | assumption | (simp only [decide_eq_true_eq, decide_eq_false_iff_not, Bool.not_eq_true', Bool.not_eq_false', List.length_cons, List.length_nil]; first | assumption | omega) | (simp <;> done) | (simp <;> omega)) ?_
    refine WpL.pass rfl rfl rfl rfl ?_
    refine WpL.pass rfl rfl rfl rfl ?_
    refine WpL.pass rfl rfl rfl rfl ?_
    refine WpL.pass rfl rfl rfl rfl ?_
    refine WpL.pass rfl rfl rfl rfl ?_
    refine WpL.pass rfl rfl rfl rfl ?_
    refine WpL.pass rfl rfl rfl rfl ?_
    refine WpL.pass rfl rfl rfl rfl ?_
    refine WpL.step (Stp.rd (Rdo.pick_t rfl rfl) rfl ?_)
    refine WpL.nil ?_
    refine Thn.n ?_
    refine Wp.condT rfl ?_
    refine Wp.seq ?_
    refine Wp.region ?_
    refine WpL.step (Stp.rd (Rdo.assign rfl) rfl ?_)
    refine WpL.nil ?_
    refine Thn.n ?_
    refine Wp.ret ?_
    refine Thn.r ?_
    refine Ret.now (ResV.tmp rfl ResV.nil) ?_ ⟨rfl, rfl⟩
    exact Gh.trans (Gh.tk (by repeat (first | exact Tk.nil | apply Tk.cons (by repeat (first | exact Pk.here | apply Pk.next))))) (shutX b c x0 x1 x2 x3 a0 c0 a1 c1 a2 c2 a3 c3 hs)
  rw [if_neg (by omega)]
  obtain ⟨p0, p1, p2, p3, hp, g0, g1, g2, g3⟩ := id hs
  simp only at g0 g1 g2 g3
  rcases (by omega : n = 0 ∨ n = 1 ∨ n = 2 ∨ n = 3) with rfl | rfl | rfl | rfl
  · have hpt : c.part 0 = p0 := by unfold CliS.part; rw [hp]; rfl
    rw [hpt]
    have ho := g0.2.1
    cases hpo : p0.out with
    | none =>
      rw [hpo] at ho
      have ho' : x0.out = false := ho
      rw [if_pos rfl]
      refine Trip.of_body Tryd.func36 rfl Tryd.ntmps36 Tryd.results36 rfl ?_
      refine Wp.seq ?_
      refine Wp.region ?_
      refine WpL.step (Stp.rd (Rdo.assign rfl) rfl ?_)
      refine WpL.nil ?_
      refine Thn.n ?_
      refine Wp.seq ?_
      refine Wp.seq ?_
      refine Wp.region ?_
      refine WpL.step (Stp.rd (Rdo.move rfl) rfl ?_)
      refine WpL.step (Stp.rd (Rdo.lti rfl rfl) rfl ?_)
      refine WpL.step (Stp.rd (Rdo.move rfl) rfl ?_)
      refine WpL.want rfl rfl rfl (Stp.rd (Rdo.move rfl) rfl ?_)
      refine WpL.want rfl rfl rfl (Stp.rd (Rdo.gti rfl rfl) rfl ?_)
      refine WpL.step (Stp.rd (Rdo.pick_f rfl rfl) rfl ?_)
      refine WpL.step (Stp.rd (Rdo.move rfl) rfl ?_)
      refine WpL.want rfl rfl rfl (Stp.rd (Rdo.move rfl) rfl ?_)
      refine WpL.want rfl rfl rfl (Stp.rd (Rdo.move rfl) rfl ?_)
      refine WpL.want rfl rfl rfl (Stp.rd (Rdo.nilCheck rfl) rfl ?_)
      refine WpL.want rfl rfl rfl (Stp.rd (Rdo.fieldAddr0 rfl) rfl ?_)
      refine WpL.want rfl rfl rfl (Stp.rd (Rdo.indexArrE (i := 0) rfl rfl rfl (by first | omega | (simp <;> omega))) rfl ?_)
      refine WpL.want rfl rfl rfl (Stp.rd (Rdo.fieldAddr rfl) rfl ?_)
      refine WpL.want rfl rfl rfl (Stp.rd (Rdo.load rfl (Lds.one rfl)) rfl ?_)
      refine WpL.want rfl rfl rfl (Stp.rd (Rdo.not rfl) rfl ?_)
      refine WpL.step (Stp.rd (Rdo.pick_f rfl rfl) rfl ?_)
      refine WpL.nil ?_
      refine Thn.n ?_
      refine Wp.condK rfl (by first | rfl | assumption | (simp only [decide_eq_true_eq, decide_eq_false_iff_not, Bool.not_eq_true', Bool.not_eq_false', List.length_cons, List.length_nil]; first | assumption | omega) | (simp <;> done) | (simp <;> omega)) ?_
      refine Wp.seq ?_
      refine Wp.region ?_
      refine WpL.step (Stp.rd (Rdo.assign rfl) rfl ?_)
      refine WpL.nil ?_
      refine Thn.n ?_
      refine Wp.ret ?_
      refine Thn.r ?_
      refine Ret.now (ResV.tmp rfl ResV.nil) ?_ ⟨rfl, rfl⟩
      exact Gh.trans (Gh.tk (by repeat (first | exact Tk.nil | apply Tk.cons (by repeat (first | exact Pk.here | apply Pk.next))))) (shutX b c x0 x1 x2 x3 a0 c0 a1 c1 a2 c2 a3 c3 hs)
    | some r =>
      rw [hpo] at ho
      have ho' : x0.out = true := ho
      rw [if_neg (by simp)]
      have hs2 : Sim { c with parts := c.parts.set (Int.toNat 0) { p0 with out := none } } ({ x0 with out := false }, x1, x2, x3) := ⟨{ p0 with out := none }, p1, p2, p3, by rw [hp]; rfl, (g0.ack).pres rfl rfl, g1.pres rfl rfl, g2.pres rfl rfl, g3.pres rfl rfl⟩
      refine Trip.of_body Tryd.func36 rfl Tryd.ntmps36 Tryd.results36 rfl ?_
      refine Wp.seq ?_
      refine Wp.region ?_
      refine WpL.step (Stp.rd (Rdo.assign rfl) rfl ?_)
      refine WpL.nil ?_
      refine Thn.n ?_
      refine Wp.seq ?_
      refine Wp.seq ?_
      refine Wp.region ?_
      refine WpL.step (Stp.rd (Rdo.move rfl) rfl ?_)
      refine WpL.step (Stp.rd (Rdo.lti rfl rfl) rfl ?_)
      refine WpL.step (Stp.rd (Rdo.move rfl) rfl ?_)
      refine WpL.want rfl rfl rfl (Stp.rd (Rdo.move rfl) rfl ?_)
      refine WpL.want rfl rfl rfl (Stp.rd (Rdo.gti rfl rfl) rfl ?_)
      refine WpL.step (Stp.rd (Rdo.pick_f rfl rfl) rfl ?_)
      refine WpL.step (Stp.rd (Rdo.move rfl) rfl ?_)
      refine WpL.want rfl rfl rfl (Stp.rd (Rdo.move rfl) rfl ?_)
      refine WpL.want rfl rfl rfl (Stp.rd (Rdo.move rfl) rfl ?_)
      refine WpL.want rfl rfl rfl (Stp.rd (Rdo.nilCheck rfl) rfl ?_)
      refine WpL.want rfl rfl rfl (Stp.rd (Rdo.fieldAddr0 rfl) rfl ?_)
      refine WpL.want rfl rfl rfl (Stp.rd (Rdo.indexArrE (i := 0) rfl rfl rfl (by first | omega | (simp <;> omega))) rfl ?_)
      refine WpL.want rfl rfl rfl (Stp.rd (Rdo.fieldAddr rfl) rfl ?_)
      refine WpL.want rfl rfl rfl (Stp.rd (Rdo.load rfl (Lds.one rfl)) rfl ?_)
      refine WpL.want rfl rfl rfl (Stp.rd (Rdo.not rfl) rfl ?_)
      refine WpL.step (Stp.rd (Rdo.pick_f rfl rfl) rfl ?_)
      refine WpL.nil ?_
      refine Thn.n ?_
      refine Wp.condL rfl (by first | rfl | assumption | (simp only [decide_eq_true_eq, decide_eq_false_iff_not, Bool.not_eq_true', Bool.not_eq_false', List.length_cons, List.length_nil]; first | assumption | omega) | (simp <;> done) | (simp <;> omega)) ?_
      refine Wp.skip ?_
      refine Thn.n ?_
      refine Wp.seq ?_
      refine Wp.region ?_
      refine WpL.step (Stp.rd (Rdo.move rfl) rfl ?_)
      refine WpL.step (Stp.rd (Rdo.move rfl) rfl ?_)
      refine WpL.step (Stp.rd (Rdo.nilCheck rfl) rfl ?_)
      refine WpL.step (Stp.rd (Rdo.fieldAddr0 rfl) rfl ?_)
      refine WpL.step (Stp.rd (Rdo.indexArrE (i := 0) rfl rfl rfl (by first | omega | (simp <;> omega))) rfl ?_)
      refine WpL.step (Stp.rd (Rdo.fieldAddr rfl) rfl ?_)
      refine WpL.step (Stp.storeV rfl rfl (VC.b _) rfl (Sts.lp (by repeat (first | exact LPut.nil _ | apply LPut.here | apply LPut.next)) (oneCells1 rfl)) ?_)
      refine WpL.nil ?_
      refine Thn.n ?_
      refine Wp.seq ?_
      refine Wp.region ?_
      refine WpL.step (Stp.rd (Rdo.assign rfl) rfl ?_)
      refine WpL.nil ?_
      refine Thn.n ?_
      refine Wp.ret ?_
      refine Ret.now (ResV.tmp rfl ResV.nil) ?_ ⟨rfl, rfl⟩
      exact Gh.trans (Gh.tk (by repeat (first | exact Tk.nil | apply Tk.cons (by repeat (first | exact Pk.here | apply Pk.next))))) (shutX b _ { x0 with out := false } x1 x2 x3 a0 c0 a1 c1 a2 c2 a3 c3 hs2)
  · have hpt : c.part 1 = p1 := by unfold CliS.part; rw [hp]; rfl
    rw [hpt]
    have ho := g1.2.1
    cases hpo : p1.out with
    | none =>
      rw [hpo] at ho
      have ho' : x1.out = false := ho
      rw [if_pos rfl]
      refine Trip.of_body Tryd.func36 rfl Tryd.ntmps36 Tryd.results36 rfl ?_
      refine Wp.seq ?_
      refine Wp.region ?_
      refine WpL.step (Stp.rd (Rdo.assign rfl) rfl ?_)
      refine WpL.nil ?_
      refine Thn.n ?_
      refine Wp.seq ?_
      refine Wp.seq ?_
      refine Wp.region ?_
      refine WpL.step (Stp.rd (Rdo.move rfl) rfl ?_)
      refine WpL.step (Stp.rd (Rdo.lti rfl rfl) rfl ?_)
      refine WpL.step (Stp.rd (Rdo.move rfl) rfl ?_)
      refine WpL.want rfl rfl rfl (Stp.rd (Rdo.move rfl) rfl ?_)
      refine WpL.want rfl rfl rfl (Stp.rd (Rdo.gti rfl rfl) rfl ?_)
      refine WpL.step (Stp.rd (Rdo.pick_f rfl rfl) rfl ?_)
      refine WpL.step (Stp.rd (Rdo.move rfl) rfl ?_)
      refine WpL.want rfl rfl rfl (Stp.rd (Rdo.move rfl) rfl ?_)
      refine WpL.want rfl rfl rfl (Stp.rd (Rdo.move rfl) rfl ?_)
      refine WpL.want rfl rfl rfl (Stp.rd (Rdo.nilCheck rfl) rfl ?_)
      refine WpL.want rfl rfl rfl (Stp.rd (Rdo.fieldAddr0 rfl) rfl ?_)
      refine WpL.want rfl rfl rfl (Stp.rd (Rdo.indexArrE (i := 1) rfl rfl rfl (by first | omega | (simp <;> omega))) rfl ?_)
      refine WpL.want rfl rfl rfl (Stp.rd (Rdo.fieldAddr rfl) rfl ?_)
      refine WpL.want rfl rfl rfl (Stp.rd (Rdo.load rfl (Lds.one rfl)) rfl ?_)
      refine WpL.want rfl rfl rfl (Stp.rd (Rdo.not rfl) rfl ?_)
      refine WpL.step (Stp.rd (Rdo.pick_f rfl rfl) rfl ?_)
      refine WpL.nil ?_
      refine Thn.n ?_
      refine Wp.condK rfl (by first | rfl | assumption | (simp only [decide_eq_true_eq, decide_eq_false_iff_not, Bool.not_eq_true', Bool.not_eq_false', List.length_cons, List.length_nil]; first | assumption | omega) | (simp <;> done) | (simp <;> omega)) ?_
      refine Wp.seq ?_
      refine Wp.region ?_
      refine WpL.step (Stp.rd (Rdo.assign rfl) rfl ?_)
      refine WpL.nil ?_
      refine Thn.n ?_
      refine Wp.ret ?_
      refine Thn.r ?_
      refine Ret.now (ResV.tmp rfl ResV.nil) ?_ ⟨rfl, rfl⟩
      exact Gh.trans (Gh.tk (by repeat (first | exact Tk.nil | apply Tk.cons (by repeat (first | exact Pk.here | apply Pk.next))))) (shutX b c x0 x1 x2 x3 a0 c0 a1 c1 a2 c2 a3 c3 hs)
    | some r =>
      rw [hpo] at ho
      have ho' : x1.out = true := ho
      rw [if_neg (by simp)]
      have hs2 : Sim { c with parts := c.parts.set (Int.toNat 1) { p1 with out := none } } (x0, { x1 with out := false }, x2, x3) := ⟨p0, { p1 with out := none }, p2, p3, by rw [hp]; rfl, g0.pres rfl rfl, (g1.ack).pres rfl rfl, g2.pres rfl rfl, g3.pres rfl rfl⟩
      refine Trip.of_body Tryd.func36 rfl Tryd.ntmps36 Tryd.results36 rfl ?_
      refine Wp.seq ?_
      refine Wp.region ?_
      refine WpL.step (Stp.rd (Rdo.assign rfl) rfl ?_)
      refine WpL.nil ?_
      refine Thn.n ?_
      refine Wp.seq ?_
      refine Wp.seq ?_
      refine Wp.region ?_
      refine WpL.step (Stp.rd (Rdo.move rfl) rfl ?_)
      refine WpL.step (Stp.rd (Rdo.lti rfl rfl) rfl ?_)
      refine WpL.step (Stp.rd (Rdo.move rfl) rfl ?_)
      refine WpL.want rfl rfl rfl (Stp.rd (Rdo.move rfl) rfl ?_)
      refine WpL.want rfl rfl rfl (Stp.rd (Rdo.gti rfl rfl) rfl ?_)
      refine WpL.step (Stp.rd (Rdo.pick_f rfl rfl) rfl ?_)
      refine WpL.step (Stp.rd (Rdo.move rfl) rfl ?_)
      refine WpL.want rfl rfl rfl (Stp.rd (Rdo.move rfl) rfl ?_)
      refine WpL.want rfl rfl rfl (Stp.rd (Rdo.move rfl) rfl ?_)
      refine WpL.want rfl rfl rfl (Stp.rd (Rdo.nilCheck rfl) rfl ?_)
      refine WpL.want rfl rfl rfl (Stp.rd (Rdo.fieldAddr0 rfl) rfl ?_)
      refine WpL.want rfl rfl rfl (Stp.rd (Rdo.indexArrE (i := 1) rfl rfl rfl (by first | omega | (simp <;> omega))) rfl ?_)
      refine WpL.want rfl rfl rfl (Stp.rd (Rdo.fieldAddr rfl) rfl ?_)
      refine WpL.want rfl rfl rfl (Stp.rd (Rdo.load rfl (Lds.one rfl)) rfl ?_)
      refine WpL.want rfl rfl rfl (Stp.rd (Rdo.not rfl) rfl ?_)
      refine WpL.step (Stp.rd (Rdo.pick_f rfl rfl) rfl ?_)
      refine WpL.nil ?_
      refine Thn.n ?_
      refine Wp.condL rfl (by first | rfl | assumption | (simp only [decide_eq_true_eq, decide_eq_false_iff_not, Bool.not_eq_true', Bool.not_eq_false', List.length_cons, List.length_nil]; first | assumption | omega) | (simp <;> done) | (simp <;> omega)) ?_
      refine Wp.skip ?_
      refine Thn.n ?_
      refine Wp.seq ?_
      refine Wp.region ?_
      refine WpL.step (Stp.rd (Rdo.move rfl) rfl ?_)
      refine WpL.step (Stp.rd (Rdo.move rfl) rfl ?_)
      refine WpL.step (Stp.rd (Rdo.nilCheck rfl) rfl ?_)
      refine WpL.step (Stp.rd (Rdo.fieldAddr0 rfl) rfl ?_)
      refine WpL.step (Stp.rd (Rdo.indexArrE (i := 1) rfl rfl rfl (by first | omega | (simp <;> omega))) rfl ?_)
      refine WpL.step (Stp.rd (Rdo.fieldAddr rfl) rfl ?_)
      refine WpL.step (Stp.storeV rfl rfl (VC.b _) rfl (Sts.lp (by repeat (first | exact LPut.nil _ | apply LPut.here | apply LPut.next)) (oneCells1 rfl)) ?_)
      refine WpL.nil ?_
      refine Thn.n ?_
      refine Wp.seq ?_
      refine Wp.region ?_
      refine WpL.step (Stp.rd (Rdo.assign rfl) rfl ?_)
      refine WpL.nil ?_
      refine Thn.n ?_
      refine Wp.ret ?_
      refine Ret.now (ResV.tmp rfl ResV.nil) ?_ ⟨rfl, rfl⟩
      exact Gh.trans (Gh.tk (by repeat (first | exact Tk.nil | apply Tk.cons (by repeat (first | exact Pk.here | apply Pk.next))))) (shutX b _ x0 { x1 with out := false } x2 x3 a0 c0 a1 c1 a2 c2 a3 c3 hs2)
  · have hpt : c.part 2 = p2 := by unfold CliS.part; rw [hp]; rfl
    rw [hpt]
    have ho := g2.2.1
    cases hpo : p2.out with
    | none =>
      rw [hpo] at ho
      have ho' : x2.out = false := ho
      rw [if_pos rfl]
      refine Trip.of_body Tryd.func36 rfl Tryd.ntmps36 Tryd.results36 rfl ?_
      refine Wp.seq ?_
      refine Wp.region ?_
      refine WpL.step (Stp.rd (Rdo.assign rfl) rfl ?_)
      refine WpL.nil ?_
      refine Thn.n ?_
      refine Wp.seq ?_
      refine Wp.seq ?_
      refine Wp.region ?_
      refine WpL.step (Stp.rd (Rdo.move rfl) rfl ?_)
      refine WpL.step (Stp.rd (Rdo.lti rfl rfl) rfl ?_)
      refine WpL.step (Stp.rd (Rdo.move rfl) rfl ?_)
      refine WpL.want rfl rfl rfl (Stp.rd (Rdo.move rfl) rfl ?_)
      refine WpL.want rfl rfl rfl (Stp.rd (Rdo.gti rfl rfl) rfl ?_)
      refine WpL.step (Stp.rd (Rdo.pick_f rfl rfl) rfl ?_)
      refine WpL.step (Stp.rd (Rdo.move rfl) rfl ?_)
      refine WpL.want rfl rfl rfl (Stp.rd (Rdo.move rfl) rfl ?_)
      refine WpL.want rfl rfl rfl (Stp.rd (Rdo.move rfl) rfl ?_)
      refine WpL.want rfl rfl rfl (Stp.rd (Rdo.nilCheck rfl) rfl ?_)
      refine WpL.want rfl rfl rfl (Stp.rd (Rdo.fieldAddr0 rfl) rfl ?_)
      refine WpL.want rfl rfl rfl (Stp.rd (Rdo.indexArrE (i := 2) rfl rfl rfl (by first | omega | (simp <;> omega))) rfl ?_)
      refine WpL.want rfl rfl rfl (Stp.rd (Rdo.fieldAddr rfl) rfl ?_)
      refine WpL.want rfl rfl rfl (Stp.rd (Rdo.load rfl (Lds.one rfl)) rfl ?_)
      refine WpL.want rfl rfl rfl (Stp.rd (Rdo.not rfl) rfl ?_)
      refine WpL.step (Stp.rd (Rdo.pick_f rfl rfl) rfl ?_)
      refine WpL.nil ?_
      refine Thn.n ?_
      refine Wp.condK rfl (by first | rfl | assumption | (simp only [decide_eq_true_eq, decide_eq_false_iff_not, Bool.not_eq_true', Bool.not_eq_false', List.length_cons, List.length_nil]; first | assumption | omega) | (simp <;> done) | (simp <;> omega)) ?_
      refine Wp.seq ?_
      refine Wp.region ?_
      refine WpL.step (Stp.rd (Rdo.assign rfl) rfl ?_)
      refine WpL.nil ?_
      refine Thn.n ?_
      refine Wp.ret ?_
      refine Thn.r ?_
      refine Ret.now (ResV.tmp rfl ResV.nil) ?_ ⟨rfl, rfl⟩
      exact Gh.trans (Gh.tk (by repeat (first | exact Tk.nil | apply Tk.cons (by repeat (first | exact Pk.here | apply Pk.next))))) (shutX b c x0 x1 x2 x3 a0 c0 a1 c1 a2 c2 a3 c3 hs)
    | some r =>
      rw [hpo] at ho
      have ho' : x2.out = true := ho
      rw [if_neg (by simp)]
      have hs2 : Sim { c with parts := c.parts.set (Int.toNat 2) { p2 with out := none } } (x0, x1, { x2 with out := false }, x3) := ⟨p0, p1, { p2 with out := none }, p3, by rw [hp]; rfl, g0.pres rfl rfl, g1.pres rfl rfl, (g2.ack).pres rfl rfl, g3.pres rfl rfl⟩
      refine Trip.of_body Tryd.func36 rfl Tryd.ntmps36 Tryd.results36 rfl ?_
      refine Wp.seq ?_
      refine Wp.region ?_
      refine WpL.step (Stp.rd (Rdo.assign rfl) rfl ?_)
      refine WpL.nil ?_
      refine Thn.n ?_
      refine Wp.seq ?_
      refine Wp.seq ?_
      refine Wp.region ?_
      refine WpL.step (Stp.rd (Rdo.move rfl) rfl ?_)
      refine WpL.step (Stp.rd (Rdo.lti rfl rfl) rfl ?_)
      refine WpL.step (Stp.rd (Rdo.move rfl) rfl ?_)
      refine WpL.want rfl rfl rfl (Stp.rd (Rdo.move rfl) rfl ?_)
      refine WpL.want rfl rfl rfl (Stp.rd (Rdo.gti rfl rfl) rfl ?_)
      refine WpL.step (Stp.rd (Rdo.pick_f rfl rfl) rfl ?_)
      refine WpL.step (Stp.rd (Rdo.move rfl) rfl ?_)
      refine WpL.want rfl rfl rfl (Stp.rd (Rdo.move rfl) rfl ?_)
      refine WpL.want rfl rfl rfl (Stp.rd (Rdo.move rfl) rfl ?_)
      refine WpL.want rfl rfl rfl (Stp.rd (Rdo.nilCheck rfl) rfl ?_)
      refine WpL.want rfl rfl rfl (Stp.rd (Rdo.fieldAddr0 rfl) rfl ?_)
      refine WpL.want rfl rfl rfl (Stp.rd (Rdo.indexArrE (i := 2) rfl rfl rfl (by first | omega | (simp <;> omega))) rfl ?_)
      refine WpL.want rfl rfl rfl (Stp.rd (Rdo.fieldAddr rfl) rfl ?_)
      refine WpL.want rfl rfl rfl (Stp.rd (Rdo.load rfl (Lds.one rfl)) rfl ?_)
      refine WpL.want rfl rfl rfl (Stp.rd (Rdo.not rfl) rfl ?_)
      refine WpL.step (Stp.rd (Rdo.pick_f rfl rfl) rfl ?_)
      refine WpL.nil ?_
      refine Thn.n ?_
      refine Wp.condL rfl (by first | rfl | assumption | (simp only [decide_eq_true_eq, decide_eq_false_iff_not, Bool.not_eq_true', Bool.not_eq_false', List.length_cons, List.length_nil]; first | assumption | omega) | (simp <;> done) | (simp <;> omega)) ?_
      refine Wp.skip ?_
      refine Thn.n ?_
      refine Wp.seq ?_
      refine Wp.region ?_
      refine WpL.step (Stp.rd (Rdo.move rfl) rfl ?_)
      refine WpL.step (Stp.rd (Rdo.move rfl) rfl ?_)
      refine WpL.step (Stp.rd (Rdo.nilCheck rfl) rfl ?_)
      refine WpL.step (Stp.rd (Rdo.fieldAddr0 rfl) rfl ?_)
      refine WpL.step (Stp.rd (Rdo.indexArrE (i := 2) rfl rfl rfl (by first | omega | (simp <;> omega))) rfl ?_)
      refine WpL.step (Stp.rd (Rdo.fieldAddr rfl) rfl ?_)
      refine WpL.step (Stp.storeV rfl rfl (VC.b _) rfl (Sts.lp (by repeat (first | exact LPut.nil _ | apply LPut.here | apply LPut.next)) (oneCells1 rfl)) ?_)
      refine WpL.nil ?_
      refine Thn.n ?_
      refine Wp.seq ?_
      refine Wp.region ?_
      refine WpL.step (Stp.rd (Rdo.assign rfl) rfl ?_)
      refine WpL.nil ?_
      refine Thn.n ?_
      refine Wp.ret ?_
      refine Ret.now (ResV.tmp rfl ResV.nil) ?_ ⟨rfl, rfl⟩
      exact Gh.trans (Gh.tk (by repeat (first | exact Tk.nil | apply Tk.cons (by repeat (first | exact Pk.here | apply Pk.next))))) (shutX b _ x0 x1 { x2 with out := false } x3 a0 c0 a1 c1 a2 c2 a3 c3 hs2)
  · have hpt : c.part 3 = p3 := by unfold CliS.part; rw [hp]; rfl
    rw [hpt]
    have ho := g3.2.1
    cases hpo : p3.out with
    | none =>
      rw [hpo] at ho
      have ho' : x3.out = false := ho
      rw [if_pos rfl]
      refine Trip.of_body Tryd.func36 rfl Tryd.ntmps36 Tryd.results36 rfl ?_
      refine Wp.seq ?_
      refine Wp.region ?_
      refine WpL.step (Stp.rd (Rdo.assign rfl) rfl ?_)
      refine WpL.nil ?_
      refine Thn.n ?_
      refine Wp.seq ?_
      refine Wp.seq ?_
      refine Wp.region ?_
      refine WpL.step (Stp.rd (Rdo.move rfl) rfl ?_)
      refine WpL.step (Stp.rd (Rdo.lti rfl rfl) rfl ?_)
      refine WpL.step (Stp.rd (Rdo.move rfl) rfl ?_)
      refine WpL.want rfl rfl rfl (Stp.rd (Rdo.move rfl) rfl ?_)
      refine WpL.want rfl rfl rfl (Stp.rd (Rdo.gti rfl rfl) rfl ?_)
      refine WpL.step (Stp.rd (Rdo.pick_f rfl rfl) rfl ?_)
      refine WpL.step (Stp.rd (Rdo.move rfl) rfl ?_)
      refine WpL.want rfl rfl rfl (Stp.rd (Rdo.move rfl) rfl ?_)
      refine WpL.want rfl rfl rfl (Stp.rd (Rdo.move rfl) rfl ?_)
      refine WpL.want rfl rfl rfl (Stp.rd (Rdo.nilCheck rfl) rfl ?_)
      refine WpL.want rfl rfl rfl (Stp.rd (Rdo.fieldAddr0 rfl) rfl ?_)
      refine WpL.want rfl rfl rfl (Stp.rd (Rdo.indexArrE (i := 3) rfl rfl rfl (by first | omega | (simp <;> omega))) rfl ?_)
      refine WpL.want rfl rfl rfl (Stp.rd (Rdo.fieldAddr rfl) rfl ?_)
      refine WpL.want rfl rfl rfl (Stp.rd (Rdo.load rfl (Lds.one rfl)) rfl ?_)
      refine WpL.want rfl rfl rfl (Stp.rd (Rdo.not rfl) rfl ?_)
      refine WpL.step (Stp.rd (Rdo.pick_f rfl rfl) rfl ?_)
      refine WpL.nil ?_
      refine Thn.n ?_
      refine Wp.condK rfl (by first | rfl | assumption | (simp only [decide_eq_true_eq, decide_eq_false_iff_not, Bool.not_eq_true', Bool.not_eq_false', List.length_cons, List.length_nil]; first | assumption | omega) | (simp <;> done) | (simp <;> omega)) ?_
      refine Wp.seq ?_
      refine Wp.region ?_
      refine WpL.step (Stp.rd (Rdo.assign rfl) rfl ?_)
      refine WpL.nil ?_
      refine Thn.n ?_
      refine Wp.ret ?_
      refine Thn.r ?_
      refine Ret.now (ResV.tmp rfl ResV.nil) ?_ ⟨rfl, rfl⟩
      exact Gh.trans (Gh.tk (by repeat (first | exact Tk.nil | apply Tk.cons (by repeat (first | exact Pk.here | apply Pk.next))))) (shutX b c x0 x1 x2 x3 a0 c0 a1 c1 a2 c2 a3 c3 hs)
    | some r =>
      rw [hpo] at ho
      have ho' : x3.out = true := ho
      rw [if_neg (by simp)]
      have hs2 : Sim { c with parts := c.parts.set (Int.toNat 3) { p3 with out := none } } (x0, x1, x2, { x3 with out := false }) := ⟨p0, p1, p2, { p3 with out := none }, by rw [hp]; rfl, g0.pres rfl rfl, g1.pres rfl rfl, g2.pres rfl rfl, (g3.ack).pres rfl rfl⟩
      refine Trip.of_body Tryd.func36 rfl Tryd.ntmps36 Tryd.results36 rfl ?_
      refine Wp.seq ?_
      refine Wp.region ?_
      refine WpL.step (Stp.rd (Rdo.assign rfl) rfl ?_)
      refine WpL.nil ?_
      refine Thn.n ?_
      refine Wp.seq ?_
      refine Wp.seq ?_
      refine Wp.region ?_
      refine WpL.step (Stp.rd (Rdo.move rfl) rfl ?_)
      refine WpL.step (Stp.rd (Rdo.lti rfl rfl) rfl ?_)
      refine WpL.step (Stp.rd (Rdo.move rfl) rfl ?_)
      refine WpL.want rfl rfl rfl (Stp.rd (Rdo.move rfl) rfl ?_)
      refine WpL.want rfl rfl rfl (Stp.rd (Rdo.gti rfl rfl) rfl ?_)
      refine WpL.step (Stp.rd (Rdo.pick_f rfl rfl) rfl ?_)
      refine WpL.step (Stp.rd (Rdo.move rfl) rfl ?_)
      refine WpL.want rfl rfl rfl (Stp.rd (Rdo.move rfl) rfl ?_)
      refine WpL.want rfl rfl rfl (Stp.rd (Rdo.move rfl) rfl ?_)
      refine WpL.want rfl rfl rfl (Stp.rd (Rdo.nilCheck rfl) rfl ?_)
      refine WpL.want rfl rfl rfl (Stp.rd (Rdo.fieldAddr0 rfl) rfl ?_)
      refine WpL.want rfl rfl rfl (Stp.rd (Rdo.indexArrE (i := 3) rfl rfl rfl (by first | omega | (simp <;> omega))) rfl ?_)
      refine WpL.want rfl rfl rfl (Stp.rd (Rdo.fieldAddr rfl) rfl ?_)
      refine WpL.want rfl rfl rfl (Stp.rd (Rdo.load rfl (Lds.one rfl)) rfl ?_)
      refine WpL.want rfl rfl rfl (Stp.rd (Rdo.not rfl) rfl ?_)
      refine WpL.step (Stp.rd (Rdo.pick_f rfl rfl) rfl ?_)
      refine WpL.nil ?_
      refine Thn.n ?_
      refine Wp.condL rfl (by first | rfl | assumption | (simp only [decide_eq_true_eq, decide_eq_false_iff_not, Bool.not_eq_true', Bool.not_eq_false', List.length_cons, List.length_nil]; first | assumption | omega) | (simp <;> done) | (simp <;> omega)) ?_
      refine Wp.skip ?_
      refine Thn.n ?_
      refine Wp.seq ?_
      refine Wp.region ?_
      refine WpL.step (Stp.rd (Rdo.move rfl) rfl ?_)
      refine WpL.step (Stp.rd (Rdo.move rfl) rfl ?_)
      refine WpL.step (Stp.rd (Rdo.nilCheck rfl) rfl ?_)
      refine WpL.step (Stp.rd (Rdo.fieldAddr0 rfl) rfl ?_)
      refine WpL.step (Stp.rd (Rdo.indexArrE (i := 3) rfl rfl rfl (by first | omega | (simp <;> omega))) rfl ?_)
      refine WpL.step (Stp.rd (Rdo.fieldAddr rfl) rfl ?_)
      refine WpL.step (Stp.storeV rfl rfl (VC.b _) rfl (Sts.lp (by repeat (first | exact LPut.nil _ | apply LPut.here | apply LPut.next)) (oneCells1 rfl)) ?_)
      refine WpL.nil ?_
      refine Thn.n ?_
      refine Wp.seq ?_
      refine Wp.region ?_
      refine WpL.step (Stp.rd (Rdo.assign rfl) rfl ?_)
      refine WpL.nil ?_
      refine Thn.n ?_
      refine Wp.ret ?_
      refine Ret.now (ResV.tmp rfl ResV.nil) ?_ ⟨rfl, rfl⟩
      exact Gh.trans (Gh.tk (by repeat (first | exact Tk.nil | apply Tk.cons (by repeat (first | exact Pk.here | apply Pk.next))))) (shutX b _ x0 x1 x2 { x3 with out := false } a0 c0 a1 c1 a2 c2 a3 c3 hs2)

theorem rop_end1 (b : Nat) (c : CliS) (x : X4) (v : V4) (a e t : Int) (cm : Bool) (h : c.next > 1048576) : Trip Tryd.prog 49 [vp b 0, .agg #[vi 3, vi 0, vi 0, vs [], vi a, vi e, vi t, vi 0, vb cm]] [ropC b c x v]
    (fun r l => r = .tuple #[.agg (opC op0).toArray, vi 7] ∧ l = [ropC b c x v]) := by
  have h1 := rop_ok b c x v ⟨3, 0, 0, [], a, e, t, 0, cm⟩ (by omega)
  unfold CliS.num at h1
  rw [if_pos h] at h1
  exact h1
theorem rop_end2 (b : Nat) (c : CliS) (x : X4) (v : V4) (a e t : Int) (cm : Bool) (h0 : 0 ≤ c.next) (h : ¬ c.next > 1048576) : Trip Tryd.prog 49 [vp b 0, .agg #[vi 3, vi 0, vi 0, vs [], vi a, vi e, vi t, vi 0, vb cm]] [ropC b c x v]
    (fun r l => r = .tuple #[.agg (opC ⟨3, c.number, c.next, [], a, e, t, 0, cm⟩).toArray, vi 0] ∧ l = [ropC b { c with next := c.next + 1 } x v]) := by
  have h1 := rop_ok b c x v ⟨3, 0, 0, [], a, e, t, 0, cm⟩ h0
  unfold CliS.num at h1
  rw [if_neg h] at h1
  exact h1

def outs4 (x : X4) : Nat → Bool
  | 0 => false
  | 1 => x.1.out
  | 2 => x.1.out || x.2.1.out
  | 3 => x.1.out || x.2.1.out || x.2.2.1.out
  | _ => x.1.out || x.2.1.out || x.2.2.1.out || x.2.2.2.out
theorem outs4_f0 {x : X4} (h : outs4 x 0 = false) : x.1.out = outs4 x 1 := by revert h; simp only [outs4]; cases x.1.out <;> simp <;> (try intros) <;> simp_all
theorem outs4_t0 {x : X4} (h : outs4 x 0 = true) : true = outs4 x 1 := by revert h; simp only [outs4]; intro h; simp_all
theorem outs4_f1 {x : X4} (h : outs4 x 1 = false) : x.2.1.out = outs4 x 2 := by revert h; simp only [outs4]; cases x.2.1.out <;> simp <;> (try intros) <;> simp_all
theorem outs4_t1 {x : X4} (h : outs4 x 1 = true) : true = outs4 x 2 := by revert h; simp only [outs4]; intro h; simp_all
theorem outs4_f2 {x : X4} (h : outs4 x 2 = false) : x.2.2.1.out = outs4 x 3 := by revert h; simp only [outs4]; cases x.2.2.1.out <;> simp <;> (try intros) <;> simp_all
theorem outs4_t2 {x : X4} (h : outs4 x 2 = true) : true = outs4 x 3 := by revert h; simp only [outs4]; intro h; simp_all
theorem outs4_f3 {x : X4} (h : outs4 x 3 = false) : x.2.2.2.out = outs4 x 4 := by revert h; simp only [outs4]; cases x.2.2.2.out <;> simp <;> (try intros) <;> simp_all
theorem outs4_t3 {x : X4} (h : outs4 x 3 = true) : true = outs4 x 4 := by revert h; simp only [outs4]; intro h; simp_all
abbrev endE (b : Nat) (cm : Bool) (nb : Nat) (o : Bool) (i : Nat) : Env := [(0, vp b 0), (1, vb cm), (4, vp nb 0), (5, vi 0), (6, vb o), (7, vi i)]
theorem rend_ok (b : Nat) (c : CliS) (cm : Bool) (hn : 0 ≤ c.next) : Trip Tryd.prog 37 [vp b 0, vb cm] [simA b c]
    (fun v l => v = .tuple #[.agg (opC (c.end_ cm).2.1).toArray, vi (c.end_ cm).2.2] ∧ l = [simA b (c.end_ cm).1]) := by
  refine Trip.ghE simA_open ?_; rintro ⟨⟨x0, x1, x2, x3⟩, ⟨a0, c0⟩, ⟨a1, c1⟩, ⟨a2, c2⟩, ⟨a3, c3⟩⟩ hs; simp only at hs ⊢
  obtain ⟨p0, p1, p2, p3, hp, g0, g1, g2, g3⟩ := id hs
  simp only at g0 g1 g2 g3
  have hw : c.waits = (x0.out || x1.out || x2.out || x3.out) := by
    unfold CliS.waits
    rw [hp, g0.2.1, g1.2.1, g2.2.1, g3.2.1]
    simp [Bool.or_assoc]
  have s1 := rop_end1 b c (x0, x1, x2, x3) (vals4 (x0, x1, x2, x3) a0 c0 a1 c1 a2 c2 a3 c3) c.producer c.epoch c.last cm
  have s2 := rop_end2 b c (x0, x1, x2, x3) (vals4 (x0, x1, x2, x3) a0 c0 a1 c1 a2 c2 a3 c3) c.producer c.epoch c.last cm hn
  refine Trip.of_body Tryd.func37 rfl Tryd.ntmps37 Tryd.results37 rfl ?_
  refine Wp.seq ?_
  refine Wp.region ?_
  (refine WpL.step (Stp.alloc rfl ?_); intro nb2)
  refine WpL.step (Stp.rd (Rdo.assign rfl) rfl ?_)
  refine WpL.nil ?_
  refine Thn.n ?_
  refine Wp.seq ?_
  refine Wp.region ?_
  refine WpL.step (Stp.rd (Rdo.assign rfl) rfl ?_)
  refine WpL.nil ?_
  refine Thn.n ?_
  refine Wp.seq ?_
  refine Wp.seq ?_
  refine Wp.region ?_
  refine WpL.step (Stp.rd (Rdo.assign rfl) rfl ?_)
  refine WpL.nil ?_
  refine Thn.n ?_
  refine Wp.block ?_
  refine Wp.loopE (fun k e h => ∃ i : Nat, i + k = 4 ∧ e = endE b cm nb2 (outs4 (x0, x1, x2, x3) i) i ∧ h = [cel nb2 29 (opC op0), ropC b c (x0, x1, x2, x3) (vals4 (x0, x1, x2, x3) a0 c0 a1 c1 a2 c2 a3 c3), simF (.slice a0 x0.r.value.length c0) x0, simF (.slice a1 x1.r.value.length c1) x1, simF (.slice a2 x2.r.value.length c2) x2, simF (.slice a3 x3.r.value.length c3) x3]) 4
    (e0 := endE b cm nb2 false 0) (l0 := [cel nb2 29 (opC op0), ropC b c (x0, x1, x2, x3) (vals4 (x0, x1, x2, x3) a0 c0 a1 c1 a2 c2 a3 c3), simF (.slice a0 x0.r.value.length c0) x0, simF (.slice a1 x1.r.value.length c1) x1, simF (.slice a2 x2.r.value.length c2) x2, simF (.slice a3 x3.r.value.length c3) x3]) (by repeat (first | exact trivial | refine ⟨rfl, ?_⟩)) (by repeat (first | exact trivial | refine ⟨rfl, ?_⟩)) (Gh.tk (by repeat (first | exact Tk.nil | apply Tk.cons (by repeat (first | exact Pk.here | apply Pk.next))))) ⟨0, rfl, rfl, rfl⟩ ?_
  rintro k e h ⟨i, hik, rfl, rfl⟩
  by_cases hi : i < 4
  · rcases (by omega : i = 0 ∨ i = 1 ∨ i = 2 ∨ i = 3) with rfl | rfl | rfl | rfl
    · cases hO : outs4 (x0, x1, x2, x3) 0
      · refine Wp.seq ?_
        refine Wp.seq ?_
        refine Wp.region ?_
        refine WpL.step (Stp.rd (Rdo.move rfl) rfl ?_)
        refine WpL.step (Stp.rd (Rdo.lei rfl rfl) rfl ?_)
        refine WpL.nil ?_
        refine Thn.n ?_
        refine Wp.condT rfl ?_
        refine Wp.skip ?_
        refine Thn.n ?_
        refine Wp.seq ?_
        refine Wp.block ?_
        refine Wp.region ?_
        refine WpL.step (Stp.rd (Rdo.move rfl) rfl ?_)
        refine WpL.step (Stp.rd (Rdo.move rfl) rfl ?_)
        refine WpL.want rfl rfl rfl (Stp.rd (Rdo.move rfl) rfl ?_)
        refine WpL.want rfl rfl rfl (Stp.rd (Rdo.move rfl) rfl ?_)
        refine WpL.want rfl rfl rfl (Stp.rd (Rdo.nilCheck rfl) rfl ?_)
        refine WpL.want rfl rfl rfl (Stp.rd (Rdo.fieldAddr0 rfl) rfl ?_)
        refine WpL.want rfl rfl rfl (Stp.rd (Rdo.indexArrE (i := 0) rfl rfl rfl (by first | omega | (simp <;> omega))) rfl ?_)
        refine WpL.want rfl rfl rfl (Stp.rd (Rdo.fieldAddr rfl) rfl ?_)
        refine WpL.want rfl rfl rfl (Stp.rd (Rdo.load rfl (Lds.next (Lds.one rfl))) rfl ?_)
        refine WpL.step (Stp.rd (Rdo.pick_f rfl rfl) rfl ?_)
        refine WpL.step (Stp.rd (Rdo.assign rfl) rfl ?_)
        refine WpL.nil ?_
        refine Blk.n ?_
        refine Thn.n ?_
        refine Wp.region ?_
        refine WpL.step (Stp.rd (Rdo.move rfl) rfl ?_)
        refine WpL.step (Stp.rd (Rdo.succ rfl rfl (by omega)) rfl ?_)
        refine WpL.step (Stp.rd (Rdo.assign rfl) rfl ?_)
        refine WpL.nil ?_
        refine Thn.n ?_
        exact ⟨k - 1, _, _, by omega, ⟨1, by omega, rfl, rfl⟩, (outs4_f0 hO) ▸ (by repeat (first | exact trivial | refine ⟨rfl, ?_⟩)), Gh.tk (by repeat (first | exact Tk.nil | apply Tk.cons (by repeat (first | exact Pk.here | apply Pk.next))))⟩
      · refine Wp.seq ?_
        refine Wp.seq ?_
        refine Wp.region ?_
        refine WpL.step (Stp.rd (Rdo.move rfl) rfl ?_)
        refine WpL.step (Stp.rd (Rdo.lei rfl rfl) rfl ?_)
        refine WpL.nil ?_
        refine Thn.n ?_
        refine Wp.condT rfl ?_
        refine Wp.skip ?_
        refine Thn.n ?_
        refine Wp.seq ?_
        refine Wp.block ?_
        refine Wp.region ?_
        refine WpL.step (Stp.rd (Rdo.move rfl) rfl ?_)
        refine WpL.step (Stp.rd (Rdo.move rfl) rfl ?_)
        refine WpL.pass rfl rfl rfl rfl ?_
        refine WpL.pass rfl rfl rfl rfl ?_
        refine WpL.pass rfl rfl rfl rfl ?_
        refine WpL.pass rfl rfl rfl rfl ?_
        refine WpL.pass rfl rfl rfl rfl ?_
        refine WpL.pass rfl rfl rfl rfl ?_
        refine WpL.pass rfl rfl rfl rfl ?_
        refine WpL.step (Stp.rd (Rdo.pick_t rfl rfl) rfl ?_)
        refine WpL.step (Stp.rd (Rdo.assign rfl) rfl ?_)
        refine WpL.nil ?_
        refine Blk.n ?_
        refine Thn.n ?_
        refine Wp.region ?_
        refine WpL.step (Stp.rd (Rdo.move rfl) rfl ?_)
        refine WpL.step (Stp.rd (Rdo.succ rfl rfl (by omega)) rfl ?_)
        refine WpL.step (Stp.rd (Rdo.assign rfl) rfl ?_)
        refine WpL.nil ?_
        refine Thn.n ?_
        exact ⟨k - 1, _, _, by omega, ⟨1, by omega, rfl, rfl⟩, (outs4_t0 hO) ▸ (by repeat (first | exact trivial | refine ⟨rfl, ?_⟩)), Gh.tk (by repeat (first | exact Tk.nil | apply Tk.cons (by repeat (first | exact Pk.here | apply Pk.next))))⟩
    · cases hO : outs4 (x0, x1, x2, x3) 1
      · refine Wp.seq ?_
        refine Wp.seq ?_
        refine Wp.region ?_
        refine WpL.step (Stp.rd (Rdo.move rfl) rfl ?_)
        refine WpL.step (Stp.rd (Rdo.lei rfl rfl) rfl ?_)
        refine WpL.nil ?_
        refine Thn.n ?_
        refine Wp.condT rfl ?_
        refine Wp.skip ?_
        refine Thn.n ?_
        refine Wp.seq ?_
        refine Wp.block ?_
        refine Wp.region ?_
        refine WpL.step (Stp.rd (Rdo.move rfl) rfl ?_)
        refine WpL.step (Stp.rd (Rdo.move rfl) rfl ?_)
        refine WpL.want rfl rfl rfl (Stp.rd (Rdo.move rfl) rfl ?_)
        refine WpL.want rfl rfl rfl (Stp.rd (Rdo.move rfl) rfl ?_)
        refine WpL.want rfl rfl rfl (Stp.rd (Rdo.nilCheck rfl) rfl ?_)
        refine WpL.want rfl rfl rfl (Stp.rd (Rdo.fieldAddr0 rfl) rfl ?_)
        refine WpL.want rfl rfl rfl (Stp.rd (Rdo.indexArrE (i := 1) rfl rfl rfl (by first | omega | (simp <;> omega))) rfl ?_)
        refine WpL.want rfl rfl rfl (Stp.rd (Rdo.fieldAddr rfl) rfl ?_)
        refine WpL.want rfl rfl rfl (Stp.rd (Rdo.load rfl (Lds.next (Lds.one rfl))) rfl ?_)
        refine WpL.step (Stp.rd (Rdo.pick_f rfl rfl) rfl ?_)
        refine WpL.step (Stp.rd (Rdo.assign rfl) rfl ?_)
        refine WpL.nil ?_
        refine Blk.n ?_
        refine Thn.n ?_
        refine Wp.region ?_
        refine WpL.step (Stp.rd (Rdo.move rfl) rfl ?_)
        refine WpL.step (Stp.rd (Rdo.succ rfl rfl (by omega)) rfl ?_)
        refine WpL.step (Stp.rd (Rdo.assign rfl) rfl ?_)
        refine WpL.nil ?_
        refine Thn.n ?_
        exact ⟨k - 1, _, _, by omega, ⟨2, by omega, rfl, rfl⟩, (outs4_f1 hO) ▸ (by repeat (first | exact trivial | refine ⟨rfl, ?_⟩)), Gh.tk (by repeat (first | exact Tk.nil | apply Tk.cons (by repeat (first | exact Pk.here | apply Pk.next))))⟩
      · refine Wp.seq ?_
        refine Wp.seq ?_
        refine Wp.region ?_
        refine WpL.step (Stp.rd (Rdo.move rfl) rfl ?_)
        refine WpL.step (Stp.rd (Rdo.lei rfl rfl) rfl ?_)
        refine WpL.nil ?_
        refine Thn.n ?_
        refine Wp.condT rfl ?_
        refine Wp.skip ?_
        refine Thn.n ?_
        refine Wp.seq ?_
        refine Wp.block ?_
        refine Wp.region ?_
        refine WpL.step (Stp.rd (Rdo.move rfl) rfl ?_)
        refine WpL.step (Stp.rd (Rdo.move rfl) rfl ?_)
        refine WpL.pass rfl rfl rfl rfl ?_
        refine WpL.pass rfl rfl rfl rfl ?_
        refine WpL.pass rfl rfl rfl rfl ?_
        refine WpL.pass rfl rfl rfl rfl ?_
        refine WpL.pass rfl rfl rfl rfl ?_
        refine WpL.pass rfl rfl rfl rfl ?_
        refine WpL.pass rfl rfl rfl rfl ?_
        refine WpL.step (Stp.rd (Rdo.pick_t rfl rfl) rfl ?_)
        refine WpL.step (Stp.rd (Rdo.assign rfl) rfl ?_)
        refine WpL.nil ?_
        refine Blk.n ?_
        refine Thn.n ?_
        refine Wp.region ?_
        refine WpL.step (Stp.rd (Rdo.move rfl) rfl ?_)
        refine WpL.step (Stp.rd (Rdo.succ rfl rfl (by omega)) rfl ?_)
        refine WpL.step (Stp.rd (Rdo.assign rfl) rfl ?_)
        refine WpL.nil ?_
        refine Thn.n ?_
        exact ⟨k - 1, _, _, by omega, ⟨2, by omega, rfl, rfl⟩, (outs4_t1 hO) ▸ (by repeat (first | exact trivial | refine ⟨rfl, ?_⟩)), Gh.tk (by repeat (first | exact Tk.nil | apply Tk.cons (by repeat (first | exact Pk.here | apply Pk.next))))⟩
    · cases hO : outs4 (x0, x1, x2, x3) 2
      · refine Wp.seq ?_
        refine Wp.seq ?_
        refine Wp.region ?_
        refine WpL.step (Stp.rd (Rdo.move rfl) rfl ?_)
        refine WpL.step (Stp.rd (Rdo.lei rfl rfl) rfl ?_)
        refine WpL.nil ?_
        refine Thn.n ?_
        refine Wp.condT rfl ?_
        refine Wp.skip ?_
        refine Thn.n ?_
        refine Wp.seq ?_
        refine Wp.block ?_
        refine Wp.region ?_
        refine WpL.step (Stp.rd (Rdo.move rfl) rfl ?_)
        refine WpL.step (Stp.rd (Rdo.move rfl) rfl ?_)
        refine WpL.want rfl rfl rfl (Stp.rd (Rdo.move rfl) rfl ?_)
        refine WpL.want rfl rfl rfl (Stp.rd (Rdo.move rfl) rfl ?_)
        refine WpL.want rfl rfl rfl (Stp.rd (Rdo.nilCheck rfl) rfl ?_)
        refine WpL.want rfl rfl rfl (Stp.rd (Rdo.fieldAddr0 rfl) rfl ?_)
        refine WpL.want rfl rfl rfl (Stp.rd (Rdo.indexArrE (i := 2) rfl rfl rfl (by first | omega | (simp <;> omega))) rfl ?_)
        refine WpL.want rfl rfl rfl (Stp.rd (Rdo.fieldAddr rfl) rfl ?_)
        refine WpL.want rfl rfl rfl (Stp.rd (Rdo.load rfl (Lds.next (Lds.one rfl))) rfl ?_)
        refine WpL.step (Stp.rd (Rdo.pick_f rfl rfl) rfl ?_)
        refine WpL.step (Stp.rd (Rdo.assign rfl) rfl ?_)
        refine WpL.nil ?_
        refine Blk.n ?_
        refine Thn.n ?_
        refine Wp.region ?_
        refine WpL.step (Stp.rd (Rdo.move rfl) rfl ?_)
        refine WpL.step (Stp.rd (Rdo.succ rfl rfl (by omega)) rfl ?_)
        refine WpL.step (Stp.rd (Rdo.assign rfl) rfl ?_)
        refine WpL.nil ?_
        refine Thn.n ?_
        exact ⟨k - 1, _, _, by omega, ⟨3, by omega, rfl, rfl⟩, (outs4_f2 hO) ▸ (by repeat (first | exact trivial | refine ⟨rfl, ?_⟩)), Gh.tk (by repeat (first | exact Tk.nil | apply Tk.cons (by repeat (first | exact Pk.here | apply Pk.next))))⟩
      · refine Wp.seq ?_
        refine Wp.seq ?_
        refine Wp.region ?_
        refine WpL.step (Stp.rd (Rdo.move rfl) rfl ?_)
        refine WpL.step (Stp.rd (Rdo.lei rfl rfl) rfl ?_)
        refine WpL.nil ?_
        refine Thn.n ?_
        refine Wp.condT rfl ?_
        refine Wp.skip ?_
        refine Thn.n ?_
        refine Wp.seq ?_
        refine Wp.block ?_
        refine Wp.region ?_
        refine WpL.step (Stp.rd (Rdo.move rfl) rfl ?_)
        refine WpL.step (Stp.rd (Rdo.move rfl) rfl ?_)
        refine WpL.pass rfl rfl rfl rfl ?_
        refine WpL.pass rfl rfl rfl rfl ?_
        refine WpL.pass rfl rfl rfl rfl ?_
        refine WpL.pass rfl rfl rfl rfl ?_
        refine WpL.pass rfl rfl rfl rfl ?_
        refine WpL.pass rfl rfl rfl rfl ?_
        refine WpL.pass rfl rfl rfl rfl ?_
        refine WpL.step (Stp.rd (Rdo.pick_t rfl rfl) rfl ?_)
        refine WpL.step (Stp.rd (Rdo.assign rfl) rfl ?_)
        refine WpL.nil ?_
        refine Blk.n ?_
        refine Thn.n ?_
        refine Wp.region ?_
        refine WpL.step (Stp.rd (Rdo.move rfl) rfl ?_)
        refine WpL.step (Stp.rd (Rdo.succ rfl rfl (by omega)) rfl ?_)
        refine WpL.step (Stp.rd (Rdo.assign rfl) rfl ?_)
        refine WpL.nil ?_
        refine Thn.n ?_
        exact ⟨k - 1, _, _, by omega, ⟨3, by omega, rfl, rfl⟩, (outs4_t2 hO) ▸ (by repeat (first | exact trivial | refine ⟨rfl, ?_⟩)), Gh.tk (by repeat (first | exact Tk.nil | apply Tk.cons (by repeat (first | exact Pk.here | apply Pk.next))))⟩
    · cases hO : outs4 (x0, x1, x2, x3) 3
      · refine Wp.seq ?_
        refine Wp.seq ?_
        refine Wp.region ?_
        refine WpL.step (Stp.rd (Rdo.move rfl) rfl ?_)
        refine WpL.step (Stp.rd (Rdo.lei rfl rfl) rfl ?_)
        refine WpL.nil ?_
        refine Thn.n ?_
        refine Wp.condT rfl ?_
        refine Wp.skip ?_
        refine Thn.n ?_
        refine Wp.seq ?_
        refine Wp.block ?_
        refine Wp.region ?_
        refine WpL.step (Stp.rd (Rdo.move rfl) rfl ?_)
        refine WpL.step (Stp.rd (Rdo.move rfl) rfl ?_)
        refine WpL.want rfl rfl rfl (Stp.rd (Rdo.move rfl) rfl ?_)
        refine WpL.want rfl rfl rfl (Stp.rd (Rdo.move rfl) rfl ?_)
        refine WpL.want rfl rfl rfl (Stp.rd (Rdo.nilCheck rfl) rfl ?_)
        refine WpL.want rfl rfl rfl (Stp.rd (Rdo.fieldAddr0 rfl) rfl ?_)
        refine WpL.want rfl rfl rfl (Stp.rd (Rdo.indexArrE (i := 3) rfl rfl rfl (by first | omega | (simp <;> omega))) rfl ?_)
        refine WpL.want rfl rfl rfl (Stp.rd (Rdo.fieldAddr rfl) rfl ?_)
        refine WpL.want rfl rfl rfl (Stp.rd (Rdo.load rfl (Lds.next (Lds.one rfl))) rfl ?_)
        refine WpL.step (Stp.rd (Rdo.pick_f rfl rfl) rfl ?_)
        refine WpL.step (Stp.rd (Rdo.assign rfl) rfl ?_)
        refine WpL.nil ?_
        refine Blk.n ?_
        refine Thn.n ?_
        refine Wp.region ?_
        refine WpL.step (Stp.rd (Rdo.move rfl) rfl ?_)
        refine WpL.step (Stp.rd (Rdo.succ rfl rfl (by omega)) rfl ?_)
        refine WpL.step (Stp.rd (Rdo.assign rfl) rfl ?_)
        refine WpL.nil ?_
        refine Thn.n ?_
        exact ⟨k - 1, _, _, by omega, ⟨4, by omega, rfl, rfl⟩, (outs4_f3 hO) ▸ (by repeat (first | exact trivial | refine ⟨rfl, ?_⟩)), Gh.tk (by repeat (first | exact Tk.nil | apply Tk.cons (by repeat (first | exact Pk.here | apply Pk.next))))⟩
      · refine Wp.seq ?_
        refine Wp.seq ?_
        refine Wp.region ?_
        refine WpL.step (Stp.rd (Rdo.move rfl) rfl ?_)
        refine WpL.step (Stp.rd (Rdo.lei rfl rfl) rfl ?_)
        refine WpL.nil ?_
        refine Thn.n ?_
        refine Wp.condT rfl ?_
        refine Wp.skip ?_
        refine Thn.n ?_
        refine Wp.seq ?_
        refine Wp.block ?_
        refine Wp.region ?_
        refine WpL.step (Stp.rd (Rdo.move rfl) rfl ?_)
        refine WpL.step (Stp.rd (Rdo.move rfl) rfl ?_)
        refine WpL.pass rfl rfl rfl rfl ?_
        refine WpL.pass rfl rfl rfl rfl ?_
        refine WpL.pass rfl rfl rfl rfl ?_
        refine WpL.pass rfl rfl rfl rfl ?_
        refine WpL.pass rfl rfl rfl rfl ?_
        refine WpL.pass rfl rfl rfl rfl ?_
        refine WpL.pass rfl rfl rfl rfl ?_
        refine WpL.step (Stp.rd (Rdo.pick_t rfl rfl) rfl ?_)
        refine WpL.step (Stp.rd (Rdo.assign rfl) rfl ?_)
        refine WpL.nil ?_
        refine Blk.n ?_
        refine Thn.n ?_
        refine Wp.region ?_
        refine WpL.step (Stp.rd (Rdo.move rfl) rfl ?_)
        refine WpL.step (Stp.rd (Rdo.succ rfl rfl (by omega)) rfl ?_)
        refine WpL.step (Stp.rd (Rdo.assign rfl) rfl ?_)
        refine WpL.nil ?_
        refine Thn.n ?_
        exact ⟨k - 1, _, _, by omega, ⟨4, by omega, rfl, rfl⟩, (outs4_t3 hO) ▸ (by repeat (first | exact trivial | refine ⟨rfl, ?_⟩)), Gh.tk (by repeat (first | exact Tk.nil | apply Tk.cons (by repeat (first | exact Pk.here | apply Pk.next))))⟩
  · obtain rfl : i = 4 := by omega
    rw [show outs4 (x0, x1, x2, x3) 4 = c.waits from hw.symm]
    unfold CliS.end_
    by_cases h1 : c.opn = false
    · rw [if_pos (.inl h1)]
      refine Wp.seq ?_
      refine Wp.seq ?_
      refine Wp.region ?_
      refine WpL.step (Stp.rd (Rdo.move rfl) rfl ?_)
      refine WpL.step (Stp.rd (Rdo.lei rfl rfl) rfl ?_)
      refine WpL.nil ?_
      refine Thn.n ?_
      refine Wp.condF rfl ?_
      refine Wp.exit ?_
      refine Thn.x ?_
      refine Thn.x ?_
      refine Blk.here ?_
      refine Thn.n ?_
      refine Wp.seq ?_
      refine Wp.seq ?_
      refine Wp.region ?_
      refine WpL.step (Stp.rd (Rdo.move rfl) rfl ?_)
      refine WpL.step (Stp.rd (Rdo.nilCheck rfl) rfl ?_)
      refine WpL.step (Stp.rd (Rdo.fieldAddr0 rfl) rfl ?_)
      refine WpL.step (Stp.rd (Rdo.load rfl (Lds.next (Lds.one rfl))) rfl ?_)
      refine WpL.step (Stp.rd (Rdo.not rfl) rfl ?_)
      refine WpL.step (Stp.rd (Rdo.move rfl) rfl ?_)
      refine WpL.gT rfl rfl (by first | rfl | assumption | (simp only [decide_eq_true_eq, decide_eq_false_iff_not, Bool.not_eq_true', Bool.not_eq_false', List.length_cons, List.length_nil]; first | assumption | omega) | (simp <;> done) | (simp <;> omega)) ?_
      refine WpL.pass rfl rfl rfl rfl ?_
      refine WpL.step (Stp.rd (Rdo.pick_t rfl rfl) rfl ?_)
      refine WpL.nil ?_
      refine Thn.n ?_
      refine Wp.condT rfl ?_
      refine Wp.seq ?_
      refine Wp.region ?_
      refine WpL.step (Stp.rd (Rdo.bld rfl (BldL.nil _)) rfl ?_)
      refine WpL.step (Stp.storeV rfl rfl (VC.ag _) (by first | rfl | assumption | (simp <;> done)) (by repeat (first | (apply Sts.all; (focus (first | rfl | assumption | (simp <;> done))); (focus (first | exact oneCells1 rfl | assumption | exact oneCells1 (by assumption) | ((repeat (first | assumption | exact oneCells_nil | exact oneCells_bytesC _ | (apply oneCells_cons; (focus (first | rfl | assumption))) | apply oneCells_append)); done) | (simp [oneCells, Value.oneCell'] <;> done)))) | (apply Sts.lp (by repeat (first | exact LPut.nil _ | apply LPut.here | apply LPut.next)); (focus (first | exact oneCells1 rfl | assumption | exact oneCells1 (by assumption) | ((repeat (first | assumption | exact oneCells_nil | exact oneCells_bytesC _ | (apply oneCells_cons; (focus (first | rfl | assumption))) | apply oneCells_append)); done) | (simp [oneCells, Value.oneCell'] <;> done)))) | (refine Sts.row1 (by first | assumption | omega | (simp <;> omega)) (by first | rfl | assumption)) | (refine Sts.rowP (by assumption) (by first | rfl | assumption | (simp <;> done)) (by rfl) (by (first | exact oneCells1 rfl | assumption | exact oneCells1 (by assumption) | ((repeat (first | assumption | exact oneCells_nil | exact oneCells_bytesC _ | (apply oneCells_cons; (focus (first | rfl | assumption))) | apply oneCells_append)); done) | (simp [oneCells, Value.oneCell'] <;> done)))) | apply Sts.next)) ?_)
      refine WpL.step (Stp.rd (Rdo.assign rfl) rfl ?_)
      refine WpL.nil ?_
      refine Thn.n ?_
      refine Wp.ret ?_
      refine Thn.r ?_
      refine Ret.now (ResV.cell rfl (by repeat (first | exact Lds.one rfl | (apply Lds.all; (first | rfl | assumption | (simp <;> fail))) | exact Lds.ione0 | exact Lds.ione rfl | (apply Lds.iall; (first | rfl | assumption | (simp <;> fail))) | apply Lds.next)) (ResV.tmp rfl ResV.nil)) ?_ ⟨rfl, rfl⟩
      exact Gh.trans (Gh.tk (by repeat (first | exact Tk.nil | apply Tk.cons (by repeat (first | exact Pk.here | apply Pk.next))))) (shutX b c x0 x1 x2 x3 a0 c0 a1 c1 a2 c2 a3 c3 hs)
    have ho : c.opn = true := by simpa using h1
    by_cases h2 : c.waits = true
    · rw [if_pos (.inr h2)]
      refine Wp.seq ?_
      refine Wp.seq ?_
      refine Wp.region ?_
      refine WpL.step (Stp.rd (Rdo.move rfl) rfl ?_)
      refine WpL.step (Stp.rd (Rdo.lei rfl rfl) rfl ?_)
      refine WpL.nil ?_
      refine Thn.n ?_
      refine Wp.condF rfl ?_
      refine Wp.exit ?_
      refine Thn.x ?_
      refine Thn.x ?_
      refine Blk.here ?_
      refine Thn.n ?_
      refine Wp.seq ?_
      refine Wp.seq ?_
      refine Wp.region ?_
      refine WpL.step (Stp.rd (Rdo.move rfl) rfl ?_)
      refine WpL.step (Stp.rd (Rdo.nilCheck rfl) rfl ?_)
      refine WpL.step (Stp.rd (Rdo.fieldAddr0 rfl) rfl ?_)
      refine WpL.step (Stp.rd (Rdo.load rfl (Lds.next (Lds.one rfl))) rfl ?_)
      refine WpL.step (Stp.rd (Rdo.not rfl) rfl ?_)
      refine WpL.step (Stp.rd (Rdo.move rfl) rfl ?_)
      refine WpL.gF rfl rfl (by first | rfl | assumption | (simp only [decide_eq_true_eq, decide_eq_false_iff_not, Bool.not_eq_true', Bool.not_eq_false', List.length_cons, List.length_nil]; first | assumption | omega) | (simp <;> done) | (simp <;> omega)) ?_
      refine WpL.want rfl rfl rfl (Stp.rd (Rdo.move rfl) rfl ?_)
      refine WpL.step (Stp.rd (Rdo.pick_f rfl rfl) rfl ?_)
      refine WpL.nil ?_
      refine Thn.n ?_
      refine Wp.condK rfl (by first | rfl | assumption | (simp only [decide_eq_true_eq, decide_eq_false_iff_not, Bool.not_eq_true', Bool.not_eq_false', List.length_cons, List.length_nil]; first | assumption | omega) | (simp <;> done) | (simp <;> omega)) ?_
      refine Wp.seq ?_
      refine Wp.region ?_
      refine WpL.step (Stp.rd (Rdo.bld rfl (BldL.nil _)) rfl ?_)
      refine WpL.step (Stp.storeV rfl rfl (VC.ag _) (by first | rfl | assumption | (simp <;> done)) (by repeat (first | (apply Sts.all; (focus (first | rfl | assumption | (simp <;> done))); (focus (first | exact oneCells1 rfl | assumption | exact oneCells1 (by assumption) | ((repeat (first | assumption | exact oneCells_nil | exact oneCells_bytesC _ | (apply oneCells_cons; (focus (first | rfl | assumption))) | apply oneCells_append)); done) | (simp [oneCells, Value.oneCell'] <;> done)))) | (apply Sts.lp (by repeat (first | exact LPut.nil _ | apply LPut.here | apply LPut.next)); (focus (first | exact oneCells1 rfl | assumption | exact oneCells1 (by assumption) | ((repeat (first | assumption | exact oneCells_nil | exact oneCells_bytesC _ | (apply oneCells_cons; (focus (first | rfl | assumption))) | apply oneCells_append)); done) | (simp [oneCells, Value.oneCell'] <;> done)))) | (refine Sts.row1 (by first | assumption | omega | (simp <;> omega)) (by first | rfl | assumption)) | (refine Sts.rowP (by assumption) (by first | rfl | assumption | (simp <;> done)) (by rfl) (by (first | exact oneCells1 rfl | assumption | exact oneCells1 (by assumption) | ((repeat (first | assumption | exact oneCells_nil | exact oneCells_bytesC _ | (apply oneCells_cons; (focus (first | rfl | assumption))) | apply oneCells_append)); done) | (simp [oneCells, Value.oneCell'] <;> done)))) | apply Sts.next)) ?_)
      refine WpL.step (Stp.rd (Rdo.assign rfl) rfl ?_)
      refine WpL.nil ?_
      refine Thn.n ?_
      refine Wp.ret ?_
      refine Thn.r ?_
      refine Ret.now (ResV.cell rfl (by repeat (first | exact Lds.one rfl | (apply Lds.all; (first | rfl | assumption | (simp <;> fail))) | exact Lds.ione0 | exact Lds.ione rfl | (apply Lds.iall; (first | rfl | assumption | (simp <;> fail))) | apply Lds.next)) (ResV.tmp rfl ResV.nil)) ?_ ⟨rfl, rfl⟩
      exact Gh.trans (Gh.tk (by repeat (first | exact Tk.nil | apply Tk.cons (by repeat (first | exact Pk.here | apply Pk.next))))) (shutX b c x0 x1 x2 x3 a0 c0 a1 c1 a2 c2 a3 c3 hs)
    · rw [if_neg (by simp [ho, h2])]
      have h2' : c.waits = false := by simpa using h2
      split
      · rename_i hmx
        have s1 := s1 hmx
        refine Wp.seq ?_
        refine Wp.seq ?_
        refine Wp.region ?_
        refine WpL.step (Stp.rd (Rdo.move rfl) rfl ?_)
        refine WpL.step (Stp.rd (Rdo.lei rfl rfl) rfl ?_)
        refine WpL.nil ?_
        refine Thn.n ?_
        refine Wp.condF rfl ?_
        refine Wp.exit ?_
        refine Thn.x ?_
        refine Thn.x ?_
        refine Blk.here ?_
        refine Thn.n ?_
        refine Wp.seq ?_
        refine Wp.seq ?_
        refine Wp.region ?_
        refine WpL.step (Stp.rd (Rdo.move rfl) rfl ?_)
        refine WpL.step (Stp.rd (Rdo.nilCheck rfl) rfl ?_)
        refine WpL.step (Stp.rd (Rdo.fieldAddr0 rfl) rfl ?_)
        refine WpL.step (Stp.rd (Rdo.load rfl (Lds.next (Lds.one rfl))) rfl ?_)
        refine WpL.step (Stp.rd (Rdo.not rfl) rfl ?_)
        refine WpL.step (Stp.rd (Rdo.move rfl) rfl ?_)
        refine WpL.gF rfl rfl (by first | rfl | assumption | (simp only [decide_eq_true_eq, decide_eq_false_iff_not, Bool.not_eq_true', Bool.not_eq_false', List.length_cons, List.length_nil]; first | assumption | omega) | (simp <;> done) | (simp <;> omega)) ?_
        refine WpL.want rfl rfl rfl (Stp.rd (Rdo.move rfl) rfl ?_)
        refine WpL.step (Stp.rd (Rdo.pick_f rfl rfl) rfl ?_)
        refine WpL.nil ?_
        refine Thn.n ?_
        refine Wp.condL rfl (by first | rfl | assumption | (simp only [decide_eq_true_eq, decide_eq_false_iff_not, Bool.not_eq_true', Bool.not_eq_false', List.length_cons, List.length_nil]; first | assumption | omega) | (simp <;> done) | (simp <;> omega)) ?_
        refine Wp.skip ?_
        refine Thn.n ?_
        refine Wp.seq ?_
        refine Wp.draw (by kernel_rfl) ?_
        refine WpR.take (i := 0) rfl (by kernel_rfl) (by kernel_rfl) (by kernel_rfl) (Rdo.move rfl) rfl ?_
        refine WpR.take (i := 1) rfl (by kernel_rfl) (by kernel_rfl) (by kernel_rfl) (Rdo.move rfl) rfl ?_
        refine WpR.take (i := 2) rfl (by kernel_rfl) (by kernel_rfl) (by kernel_rfl) (Rdo.nilCheck rfl) rfl ?_
        refine WpR.take (i := 3) rfl (by kernel_rfl) (by kernel_rfl) (by kernel_rfl) (Rdo.fieldAddr0 rfl) rfl ?_
        refine WpR.take (i := 5) rfl (by kernel_rfl) (by kernel_rfl) (by kernel_rfl) (Rdo.move rfl) rfl ?_
        refine WpR.take (i := 6) rfl (by kernel_rfl) (by kernel_rfl) (by kernel_rfl) (Rdo.nilCheck rfl) rfl ?_
        refine WpR.take (i := 7) rfl (by kernel_rfl) (by kernel_rfl) (by kernel_rfl) (Rdo.fieldAddr0 rfl) rfl ?_
        refine WpR.take (i := 9) rfl (by kernel_rfl) (by kernel_rfl) (by kernel_rfl) (Rdo.move rfl) rfl ?_
        refine WpR.take (i := 10) rfl (by kernel_rfl) (by kernel_rfl) (by kernel_rfl) (Rdo.nilCheck rfl) rfl ?_
        refine WpR.take (i := 11) rfl (by kernel_rfl) (by kernel_rfl) (by kernel_rfl) (Rdo.fieldAddr0 rfl) rfl ?_
        refine WpR.take (i := 13) rfl (by kernel_rfl) (by kernel_rfl) (by kernel_rfl) (Rdo.move rfl) rfl ?_
        refine WpR.load (i := 4) [8, 12, 19] rfl (by kernel_rfl) (by kernel_rfl) (by kernel_rfl) (by kernel_rfl) (by kernel_rfl) rfl Tk.rfl_ (Harm.rd rfl (Rdo.load rfl (Lds.next (Lds.one rfl))) (Harm.rd rfl (Rdo.load rfl (Lds.next (Lds.one rfl))) (Harm.al rfl inferInstance Harm.nil))) (Rdo.load rfl (Lds.next (Lds.one rfl))) rfl ?_
        refine WpR.load (i := 8) [12, 19] rfl (by kernel_rfl) (by kernel_rfl) (by kernel_rfl) (by kernel_rfl) (by kernel_rfl) rfl Tk.rfl_ (Harm.rd rfl (Rdo.load rfl (Lds.next (Lds.one rfl))) (Harm.al rfl inferInstance Harm.nil)) (Rdo.load rfl (Lds.next (Lds.one rfl))) rfl ?_
        refine WpR.load (i := 12) [19] rfl (by kernel_rfl) (by kernel_rfl) (by kernel_rfl) (by kernel_rfl) (by kernel_rfl) rfl Tk.rfl_ (Harm.al rfl inferInstance Harm.nil) (Rdo.load rfl (Lds.next (Lds.one rfl))) rfl ?_
        refine WpR.take (i := 14) rfl (by kernel_rfl) (by kernel_rfl) (by kernel_rfl) (Rdo.bld rfl (BldL.cons rfl (VC.i _ _) (by first | rfl | assumption | (simp <;> done)) (by repeat (first | exact LPut.nil _ | apply LPut.here | apply LPut.next)) (BldL.cons rfl (VC.i _ _) (by first | rfl | assumption | (simp <;> done)) (by repeat (first | exact LPut.nil _ | apply LPut.here | apply LPut.next)) (BldL.cons rfl (VC.i _ _) (by first | rfl | assumption | (simp <;> done)) (by repeat (first | exact LPut.nil _ | apply LPut.here | apply LPut.next)) (BldL.cons rfl (VC.i _ _) (by first | rfl | assumption | (simp <;> done)) (by repeat (first | exact LPut.nil _ | apply LPut.here | apply LPut.next)) (BldL.cons rfl (VC.b _) (by first | rfl | assumption | (simp <;> done)) (by repeat (first | exact LPut.nil _ | apply LPut.here | apply LPut.next)) (BldL.nil _))))))) rfl ?_
        refine Pend.start (i := 19) rfl ?_
        refine Pend.one (j := 15) rfl rfl (by kernel_rfl) (by kernel_rfl) (by kernel_rfl) rfl (by simp) rfl rfl (Stp.call (s1) (by kernel_rfl) rfl (by repeat (first | exact Tk.nil | apply Tk.cons (by repeat (first | exact Pk.here | apply Pk.next)))) rfl ?_)
        rintro _ _ ⟨rfl, rfl⟩
        refine Pend.lst (by simp only [List.cons_append, List.nil_append]; exact rfl) ?_
        refine Pend.take (j := 16) rfl (by kernel_rfl) (by kernel_rfl) (by kernel_rfl) rfl rfl (Rdo.move rfl) rfl ?_
        refine Pend.take (j := 17) rfl (by kernel_rfl) (by kernel_rfl) (by kernel_rfl) rfl rfl (Rdo.extract rfl rfl) rfl ?_
        refine Pend.take (j := 18) rfl (by kernel_rfl) (by kernel_rfl) (by kernel_rfl) rfl rfl (Rdo.extract rfl rfl) rfl ?_
        refine Pend.made rfl (by kernel_rfl) rfl (fun nb54 => ?_)
        refine WpR.one (i := 20) rfl (by kernel_rfl) (Stp.storeV rfl rfl (VC.ag _) (by first | rfl | assumption | (simp <;> done)) (by repeat (first | (apply Sts.all; (focus (first | rfl | assumption | (simp <;> done))); (focus (first | exact oneCells1 rfl | assumption | exact oneCells1 (by assumption) | ((repeat (first | assumption | exact oneCells_nil | exact oneCells_bytesC _ | (apply oneCells_cons; (focus (first | rfl | assumption))) | apply oneCells_append)); done) | (simp [oneCells, Value.oneCell'] <;> done)))) | (apply Sts.lp (by repeat (first | exact LPut.nil _ | apply LPut.here | apply LPut.next)); (focus (first | exact oneCells1 rfl | assumption | exact oneCells1 (by assumption) | ((repeat (first | assumption | exact oneCells_nil | exact oneCells_bytesC _ | (apply oneCells_cons; (focus (first | rfl | assumption))) | apply oneCells_append)); done) | (simp [oneCells, Value.oneCell'] <;> done)))) | (refine Sts.row1 (by first | assumption | omega | (simp <;> omega)) (by first | rfl | assumption)) | (refine Sts.rowP (by assumption) (by first | rfl | assumption | (simp <;> done)) (by rfl) (by (first | exact oneCells1 rfl | assumption | exact oneCells1 (by assumption) | ((repeat (first | assumption | exact oneCells_nil | exact oneCells_bytesC _ | (apply oneCells_cons; (focus (first | rfl | assumption))) | apply oneCells_append)); done) | (simp [oneCells, Value.oneCell'] <;> done)))) | apply Sts.next)) ?_)
        refine WpR.take (i := 21) rfl (by kernel_rfl) (by kernel_rfl) (by kernel_rfl) (Rdo.assign rfl) rfl ?_
        refine WpR.done (by kernel_rfl) ?_
        refine Thn.n ?_
        refine Wp.seq ?_
        refine Wp.seq ?_
        refine Wp.region ?_
        refine WpL.step (Stp.rd (Rdo.move rfl) rfl ?_)
        refine WpL.step (Stp.rd (Rdo.nei rfl rfl) rfl ?_)
        refine WpL.nil ?_
        refine Thn.n ?_
        refine Wp.condT rfl ?_
        refine Wp.seq ?_
        refine Wp.region ?_
        refine WpL.step (Stp.rd (Rdo.load rfl (by apply Lds.all; (first | rfl | assumption | (simp <;> fail)))) rfl ?_)
        refine WpL.step (Stp.rd (Rdo.move rfl) rfl ?_)
        refine WpL.step (Stp.storeV rfl rfl (VC.ag _) (by first | rfl | assumption | (simp <;> done)) (by repeat (first | (apply Sts.all; (focus (first | rfl | assumption | (simp <;> done))); (focus (first | exact oneCells1 rfl | assumption | exact oneCells1 (by assumption) | ((repeat (first | assumption | exact oneCells_nil | exact oneCells_bytesC _ | (apply oneCells_cons; (focus (first | rfl | assumption))) | apply oneCells_append)); done) | (simp [oneCells, Value.oneCell'] <;> done)))) | (apply Sts.lp (by repeat (first | exact LPut.nil _ | apply LPut.here | apply LPut.next)); (focus (first | exact oneCells1 rfl | assumption | exact oneCells1 (by assumption) | ((repeat (first | assumption | exact oneCells_nil | exact oneCells_bytesC _ | (apply oneCells_cons; (focus (first | rfl | assumption))) | apply oneCells_append)); done) | (simp [oneCells, Value.oneCell'] <;> done)))) | (refine Sts.row1 (by first | assumption | omega | (simp <;> omega)) (by first | rfl | assumption)) | (refine Sts.rowP (by assumption) (by first | rfl | assumption | (simp <;> done)) (by rfl) (by (first | exact oneCells1 rfl | assumption | exact oneCells1 (by assumption) | ((repeat (first | assumption | exact oneCells_nil | exact oneCells_bytesC _ | (apply oneCells_cons; (focus (first | rfl | assumption))) | apply oneCells_append)); done) | (simp [oneCells, Value.oneCell'] <;> done)))) | apply Sts.next)) ?_)
        refine WpL.step (Stp.rd (Rdo.assign rfl) rfl ?_)
        refine WpL.nil ?_
        refine Thn.n ?_
        refine Wp.ret ?_
        refine Thn.r ?_
        refine Ret.now (ResV.cell rfl (by repeat (first | exact Lds.one rfl | (apply Lds.all; (first | rfl | assumption | (simp <;> fail))) | exact Lds.ione0 | exact Lds.ione rfl | (apply Lds.iall; (first | rfl | assumption | (simp <;> fail))) | apply Lds.next)) (ResV.tmp rfl ResV.nil)) ?_ ⟨rfl, rfl⟩
        exact Gh.trans (Gh.tk (by repeat (first | exact Tk.nil | apply Tk.cons (by repeat (first | exact Pk.here | apply Pk.next))))) (shutX b c x0 x1 x2 x3 a0 c0 a1 c1 a2 c2 a3 c3 hs)
      · rename_i hmx
        have s2 := s2 hmx
        have hs2 : Sim { c with next := c.next + 1, opn := false } (x0, x1, x2, x3) := ⟨p0, p1, p2, p3, hp, g0.shutT, g1.shutT, g2.shutT, g3.shutT⟩
        refine Wp.seq ?_
        refine Wp.seq ?_
        refine Wp.region ?_
        refine WpL.step (Stp.rd (Rdo.move rfl) rfl ?_)
        refine WpL.step (Stp.rd (Rdo.lei rfl rfl) rfl ?_)
        refine WpL.nil ?_
        refine Thn.n ?_
        refine Wp.condF rfl ?_
        refine Wp.exit ?_
        refine Thn.x ?_
        refine Thn.x ?_
        refine Blk.here ?_
        refine Thn.n ?_
        refine Wp.seq ?_
        refine Wp.seq ?_
        refine Wp.region ?_
        refine WpL.step (Stp.rd (Rdo.move rfl) rfl ?_)
        refine WpL.step (Stp.rd (Rdo.nilCheck rfl) rfl ?_)
        refine WpL.step (Stp.rd (Rdo.fieldAddr0 rfl) rfl ?_)
        refine WpL.step (Stp.rd (Rdo.load rfl (Lds.next (Lds.one rfl))) rfl ?_)
        refine WpL.step (Stp.rd (Rdo.not rfl) rfl ?_)
        refine WpL.step (Stp.rd (Rdo.move rfl) rfl ?_)
        refine WpL.gF rfl rfl (by first | rfl | assumption | (simp only [decide_eq_true_eq, decide_eq_false_iff_not, Bool.not_eq_true', Bool.not_eq_false', List.length_cons, List.length_nil]; first | assumption | omega) | (simp <;> done) | (simp <;> omega)) ?_
        refine WpL.want rfl rfl rfl (Stp.rd (Rdo.move rfl) rfl ?_)
        refine WpL.step (Stp.rd (Rdo.pick_f rfl rfl) rfl ?_)
        refine WpL.nil ?_
        refine Thn.n ?_
        refine Wp.condL rfl (by first | rfl | assumption | (simp only [decide_eq_true_eq, decide_eq_false_iff_not, Bool.not_eq_true', Bool.not_eq_false', List.length_cons, List.length_nil]; first | assumption | omega) | (simp <;> done) | (simp <;> omega)) ?_
        refine Wp.skip ?_
        refine Thn.n ?_
        refine Wp.seq ?_
        refine Wp.draw (by kernel_rfl) ?_
        refine WpR.take (i := 0) rfl (by kernel_rfl) (by kernel_rfl) (by kernel_rfl) (Rdo.move rfl) rfl ?_
        refine WpR.take (i := 1) rfl (by kernel_rfl) (by kernel_rfl) (by kernel_rfl) (Rdo.move rfl) rfl ?_
        refine WpR.take (i := 2) rfl (by kernel_rfl) (by kernel_rfl) (by kernel_rfl) (Rdo.nilCheck rfl) rfl ?_
        refine WpR.take (i := 3) rfl (by kernel_rfl) (by kernel_rfl) (by kernel_rfl) (Rdo.fieldAddr0 rfl) rfl ?_
        refine WpR.take (i := 5) rfl (by kernel_rfl) (by kernel_rfl) (by kernel_rfl) (Rdo.move rfl) rfl ?_
        refine WpR.take (i := 6) rfl (by kernel_rfl) (by kernel_rfl) (by kernel_rfl) (Rdo.nilCheck rfl) rfl ?_
        refine WpR.take (i := 7) rfl (by kernel_rfl) (by kernel_rfl) (by kernel_rfl) (Rdo.fieldAddr0 rfl) rfl ?_
        refine WpR.take (i := 9) rfl (by kernel_rfl) (by kernel_rfl) (by kernel_rfl) (Rdo.move rfl) rfl ?_
        refine WpR.take (i := 10) rfl (by kernel_rfl) (by kernel_rfl) (by kernel_rfl) (Rdo.nilCheck rfl) rfl ?_
        refine WpR.take (i := 11) rfl (by kernel_rfl) (by kernel_rfl) (by kernel_rfl) (Rdo.fieldAddr0 rfl) rfl ?_
        refine WpR.take (i := 13) rfl (by kernel_rfl) (by kernel_rfl) (by kernel_rfl) (Rdo.move rfl) rfl ?_
        refine WpR.load (i := 4) [8, 12, 19] rfl (by kernel_rfl) (by kernel_rfl) (by kernel_rfl) (by kernel_rfl) (by kernel_rfl) rfl Tk.rfl_ (Harm.rd rfl (Rdo.load rfl (Lds.next (Lds.one rfl))) (Harm.rd rfl (Rdo.load rfl (Lds.next (Lds.one rfl))) (Harm.al rfl inferInstance Harm.nil))) (Rdo.load rfl (Lds.next (Lds.one rfl))) rfl ?_
        refine WpR.load (i := 8) [12, 19] rfl (by kernel_rfl) (by kernel_rfl) (by kernel_rfl) (by kernel_rfl) (by kernel_rfl) rfl Tk.rfl_ (Harm.rd rfl (Rdo.load rfl (Lds.next (Lds.one rfl))) (Harm.al rfl inferInstance Harm.nil)) (Rdo.load rfl (Lds.next (Lds.one rfl))) rfl ?_
        refine WpR.load (i := 12) [19] rfl (by kernel_rfl) (by kernel_rfl) (by kernel_rfl) (by kernel_rfl) (by kernel_rfl) rfl Tk.rfl_ (Harm.al rfl inferInstance Harm.nil) (Rdo.load rfl (Lds.next (Lds.one rfl))) rfl ?_
        refine WpR.take (i := 14) rfl (by kernel_rfl) (by kernel_rfl) (by kernel_rfl) (Rdo.bld rfl (BldL.cons rfl (VC.i _ _) (by first | rfl | assumption | (simp <;> done)) (by repeat (first | exact LPut.nil _ | apply LPut.here | apply LPut.next)) (BldL.cons rfl (VC.i _ _) (by first | rfl | assumption | (simp <;> done)) (by repeat (first | exact LPut.nil _ | apply LPut.here | apply LPut.next)) (BldL.cons rfl (VC.i _ _) (by first | rfl | assumption | (simp <;> done)) (by repeat (first | exact LPut.nil _ | apply LPut.here | apply LPut.next)) (BldL.cons rfl (VC.i _ _) (by first | rfl | assumption | (simp <;> done)) (by repeat (first | exact LPut.nil _ | apply LPut.here | apply LPut.next)) (BldL.cons rfl (VC.b _) (by first | rfl | assumption | (simp <;> done)) (by repeat (first | exact LPut.nil _ | apply LPut.here | apply LPut.next)) (BldL.nil _))))))) rfl ?_
        refine Pend.start (i := 19) rfl ?_
        refine Pend.one (j := 15) rfl rfl (by kernel_rfl) (by kernel_rfl) (by kernel_rfl) rfl (by simp) rfl rfl (Stp.call (s2) (by kernel_rfl) rfl (by repeat (first | exact Tk.nil | apply Tk.cons (by repeat (first | exact Pk.here | apply Pk.next)))) rfl ?_)
        rintro _ _ ⟨rfl, rfl⟩
        refine Pend.lst (by simp only [List.cons_append, List.nil_append]; exact rfl) ?_
        refine Pend.take (j := 16) rfl (by kernel_rfl) (by kernel_rfl) (by kernel_rfl) rfl rfl (Rdo.move rfl) rfl ?_
        refine Pend.take (j := 17) rfl (by kernel_rfl) (by kernel_rfl) (by kernel_rfl) rfl rfl (Rdo.extract rfl rfl) rfl ?_
        refine Pend.take (j := 18) rfl (by kernel_rfl) (by kernel_rfl) (by kernel_rfl) rfl rfl (Rdo.extract rfl rfl) rfl ?_
        refine Pend.made rfl (by kernel_rfl) rfl (fun nb54 => ?_)
        refine WpR.one (i := 20) rfl (by kernel_rfl) (Stp.storeV rfl rfl (VC.ag _) (by first | rfl | assumption | (simp <;> done)) (by repeat (first | (apply Sts.all; (focus (first | rfl | assumption | (simp <;> done))); (focus (first | exact oneCells1 rfl | assumption | exact oneCells1 (by assumption) | ((repeat (first | assumption | exact oneCells_nil | exact oneCells_bytesC _ | (apply oneCells_cons; (focus (first | rfl | assumption))) | apply oneCells_append)); done) | (simp [oneCells, Value.oneCell'] <;> done)))) | (apply Sts.lp (by repeat (first | exact LPut.nil _ | apply LPut.here | apply LPut.next)); (focus (first | exact oneCells1 rfl | assumption | exact oneCells1 (by assumption) | ((repeat (first | assumption | exact oneCells_nil | exact oneCells_bytesC _ | (apply oneCells_cons; (focus (first | rfl | assumption))) | apply oneCells_append)); done) | (simp [oneCells, Value.oneCell'] <;> done)))) | (refine Sts.row1 (by first | assumption | omega | (simp <;> omega)) (by first | rfl | assumption)) | (refine Sts.rowP (by assumption) (by first | rfl | assumption | (simp <;> done)) (by rfl) (by (first | exact oneCells1 rfl | assumption | exact oneCells1 (by assumption) | ((repeat (first | assumption | exact oneCells_nil | exact oneCells_bytesC _ | (apply oneCells_cons; (focus (first | rfl | assumption))) | apply oneCells_append)); done) | (simp [oneCells, Value.oneCell'] <;> done)))) | apply Sts.next)) ?_)
        refine WpR.take (i := 21) rfl (by kernel_rfl) (by kernel_rfl) (by kernel_rfl) (Rdo.assign rfl) rfl ?_
        refine WpR.done (by kernel_rfl) ?_
        refine Thn.n ?_
        refine Wp.seq ?_
        refine Wp.seq ?_
        refine Wp.region ?_
        refine WpL.step (Stp.rd (Rdo.move rfl) rfl ?_)
        refine WpL.step (Stp.rd (Rdo.nei rfl rfl) rfl ?_)
        refine WpL.nil ?_
        refine Thn.n ?_
        refine Wp.condF rfl ?_
        refine Wp.skip ?_
        refine Thn.n ?_
        refine Wp.seq ?_
        refine Wp.region ?_
        refine WpL.step (Stp.rd (Rdo.move rfl) rfl ?_)
        refine WpL.step (Stp.rd (Rdo.nilCheck rfl) rfl ?_)
        refine WpL.step (Stp.rd (Rdo.fieldAddr0 rfl) rfl ?_)
        refine WpL.step (Stp.storeV rfl rfl (VC.b _) rfl (Sts.next (Sts.lp (by repeat (first | exact LPut.nil _ | apply LPut.here | apply LPut.next)) (oneCells1 rfl))) ?_)
        refine WpL.nil ?_
        refine Thn.n ?_
        refine Wp.seq ?_
        refine Wp.region ?_
        refine WpL.step (Stp.rd (Rdo.load rfl (by apply Lds.all; (first | rfl | assumption | (simp <;> fail)))) rfl ?_)
        refine WpL.step (Stp.storeV rfl rfl (VC.ag _) (by first | rfl | assumption | (simp <;> done)) (by repeat (first | (apply Sts.all; (focus (first | rfl | assumption | (simp <;> done))); (focus (first | exact oneCells1 rfl | assumption | exact oneCells1 (by assumption) | ((repeat (first | assumption | exact oneCells_nil | exact oneCells_bytesC _ | (apply oneCells_cons; (focus (first | rfl | assumption))) | apply oneCells_append)); done) | (simp [oneCells, Value.oneCell'] <;> done)))) | (apply Sts.lp (by repeat (first | exact LPut.nil _ | apply LPut.here | apply LPut.next)); (focus (first | exact oneCells1 rfl | assumption | exact oneCells1 (by assumption) | ((repeat (first | assumption | exact oneCells_nil | exact oneCells_bytesC _ | (apply oneCells_cons; (focus (first | rfl | assumption))) | apply oneCells_append)); done) | (simp [oneCells, Value.oneCell'] <;> done)))) | (refine Sts.row1 (by first | assumption | omega | (simp <;> omega)) (by first | rfl | assumption)) | (refine Sts.rowP (by assumption) (by first | rfl | assumption | (simp <;> done)) (by rfl) (by (first | exact oneCells1 rfl | assumption | exact oneCells1 (by assumption) | ((repeat (first | assumption | exact oneCells_nil | exact oneCells_bytesC _ | (apply oneCells_cons; (focus (first | rfl | assumption))) | apply oneCells_append)); done) | (simp [oneCells, Value.oneCell'] <;> done)))) | apply Sts.next)) ?_)
        refine WpL.step (Stp.rd (Rdo.assign rfl) rfl ?_)
        refine WpL.nil ?_
        refine Thn.n ?_
        refine Wp.ret ?_
        refine Ret.now (ResV.cell rfl (by repeat (first | exact Lds.one rfl | (apply Lds.all; (first | rfl | assumption | (simp <;> fail))) | exact Lds.ione0 | exact Lds.ione rfl | (apply Lds.iall; (first | rfl | assumption | (simp <;> fail))) | apply Lds.next)) (ResV.tmp rfl ResV.nil)) ?_ ⟨rfl, rfl⟩
        exact Gh.trans (Gh.tk (by repeat (first | exact Tk.nil | apply Tk.cons (by repeat (first | exact Pk.here | apply Pk.next))))) (shutX b _ x0 x1 x2 x3 a0 c0 a1 c1 a2 c2 a3 c3 hs2)
end Go.Proofs.YtaacdekfeljpeaaDoor
