/- A bag: what it holds; put, New, Len, Lost. -/
import Derived.Test.YtmeaekcengmfbaaBag1
namespace Go.Proofs.Ytmeaekcengmfbaa
open Go
set_option maxHeartbeats 4000000
set_option linter.unusedSimpArgs false
set_option linter.unusedVariables false
set_option maxRecDepth 20000

def RdRows (g : FH) (css : List (List Value)) (ms : List Msg) : Prop := (∀ c ∈ css, c.length = 39) ∧ All2 (RdMsg g) css ms
theorem RdRows.mono (css : List (List Value)) (ms : List Msg) : Mono fun g => RdRows g css ms := fun g g' hle ⟨h1, h2⟩ => ⟨h1, h2.mono fun c m h => RdMsg.mono c m g g' hle h⟩
theorem RdRows.snoc {g : FH} {css : List (List Value)} {ms : List Msg} {c : List Value} {m : Msg} (h : RdRows g css ms) (hc : c.length = 39) (hm : RdMsg g c m) : RdRows g (css ++ [c]) (ms ++ [m]) :=
  ⟨fun x hx => (List.mem_append.1 hx).elim (h.1 x) fun hx => by rw [List.mem_singleton.1 hx]; exact hc, h.2.append (.cons hm .nil)⟩

/-- A bag at b: its messages, how many were lost. -/
def bagX (b : Nat) (ms : List Msg) (lost : Int) (x : Value × List (List Value)) : List HP :=
  [cel b 55 [x.1, vi 512, vi lost], rowA 30 39 x.1 ms.length x.2.flatten, fz (fun g => RdRows g x.2 ms)]
def bagA (b : Nat) (ms : List Msg) (lost : Int) : HP := exH fun x => starH (bagX b ms lost x)
theorem bagA_open {l rest : List HP} {b : Nat} {ms : List Msg} {lost : Int} (hp : Pk l (bagA b ms lost) rest) : GhE l (fun _ : Value × List (List Value) => True) (fun x => bagX b ms lost x ++ rest) := GhE.open_ (f := bagX b ms lost) hp
theorem bagA_shut {l : List HP} {b : Nat} {ms : List Msg} {lost : Int} (v : Value) (css : List (List Value)) : Gh (cel b 55 [v, vi 512, vi lost] :: rowA 30 39 v ms.length css.flatten :: fz (fun g => RdRows g css ms) :: l) (bagA b ms lost :: l) :=
  Gh.shut (f := bagX b ms lost) (v, css) (Tk.cons Pk.here (Tk.cons Pk.here (Tk.cons Pk.here (Tk.mk fun F w h => h))))

theorem netNew_ok : Trip Try.prog 8 [] [] (fun r l => ∃ b, r = vp b 0 ∧ l = [bagA b [] 0]) := by
  refine Trip.of_body Try.func8 rfl Try.ntmps8 Try.results8 rfl ?_
  refine Wp.seq ?_
  refine Wp.region ?_
  refine WpL.step (Stp.rd (Rdo.assign rfl) rfl ?_)
  refine WpL.nil ?_
  refine Thn.n ?_
  refine Wp.seq ?_
  refine Wp.region ?_
  refine WpL.step (Stp.rd (Rdo.bld rfl (BldL.cons rfl (VC.i _ _) (by first | rfl | assumption | (simp <;> done)) (by repeat (first | exact LPut.nil _ | apply LPut.here | apply LPut.next)) (BldL.nil _))) rfl ?_)
  refine WpL.step (Stp.rd (Rdo.bld rfl (BldL.cons rfl (VC.ag _) (by first | rfl | assumption | (simp <;> done)) (by repeat (first | exact LPut.nil _ | apply LPut.here | apply LPut.next)) (BldL.nil _))) rfl ?_)
  (refine WpL.step (Stp.boxV rfl (VC.ag _) rfl ?_); intro nb9)
  refine WpL.step (Stp.rd (Rdo.assign rfl) rfl ?_)
  refine WpL.nil ?_
  refine Thn.n ?_
  refine Wp.ret ?_
  exact Ret.now (by repeat (first | exact ResV.nil | apply ResV.tmp rfl | apply ResV.cell rfl (by repeat (first | exact Lds.one rfl | (apply Lds.all; (first | rfl | assumption | (simp <;> fail))) | exact Lds.ione0 | exact Lds.ione rfl | (apply Lds.iall; (first | rfl | assumption | (simp <;> fail))) | apply Lds.next)))) (Gh.trans (Gh.fzTrue (Φ := fun g => RdRows g [] []) fun g => ⟨by simp, .nil⟩) (Gh.trans (Gh.nil 30 39) (Gh.trans (Gh.tk (by repeat (first | exact Tk.nil | apply Tk.cons (by repeat (first | exact Pk.here | apply Pk.next))))) (bagA_shut (l := []) vnil [])))) ⟨_, rfl, rfl⟩

theorem netLen_ok (b : Nat) (ms : List Msg) (lost : Int) : Trip Try.prog 11 [vp b 0] [bagA b ms lost] (fun r l => r = vi ms.length ∧ l = [bagA b ms lost]) := by
  refine Trip.ghE (bagA_open Pk.here) ?_
  rintro ⟨v, css⟩ -
  simp only [bagX, List.cons_append, List.nil_append]
  refine Trip.get (Pk.next Pk.here) (fun r => rowA_shape) ?_
  rintro ⟨a, c, rfl⟩
  refine Trip.of_body Try.func11 rfl Try.ntmps11 Try.results11 rfl ?_
  refine Wp.seq ?_
  refine Wp.region ?_
  refine WpL.step (Stp.rd (Rdo.assign rfl) rfl ?_)
  refine WpL.nil ?_
  refine Thn.n ?_
  refine Wp.seq ?_
  refine Wp.seq ?_
  refine Wp.region ?_
  refine WpL.step (Stp.rd (Rdo.move rfl) rfl ?_)
  refine WpL.step (Stp.rd (Rdo.eqnil rfl rfl) rfl ?_)
  refine WpL.nil ?_
  refine Thn.n ?_
  refine Wp.condF rfl ?_
  refine Wp.skip ?_
  refine Thn.n ?_
  refine Wp.seq ?_
  refine Wp.region ?_
  refine WpL.step (Stp.rd (Rdo.move rfl) rfl ?_)
  refine WpL.step (Stp.rd (Rdo.nilCheck rfl) rfl ?_)
  refine WpL.step (Stp.rd (Rdo.fieldAddr0 rfl) rfl ?_)
  refine WpL.step (Stp.rd (Rdo.fieldAddr0 rfl) rfl ?_)
  refine WpL.step (Stp.rd (Rdo.load rfl (Lds.one rfl)) rfl ?_)
  refine WpL.step (Stp.rd (Rdo.lenSlice rfl) rfl ?_)
  refine WpL.step (Stp.rd (Rdo.assign rfl) rfl ?_)
  refine WpL.nil ?_
  refine Thn.n ?_
  refine Wp.ret ?_
  refine Ret.now (ResV.tmp rfl ResV.nil) ?_ ⟨rfl, rfl⟩
  exact Gh.trans (Gh.tk (by repeat (first | exact Tk.nil | apply Tk.cons (by repeat (first | exact Pk.here | apply Pk.next))))) (bagA_shut (l := []) _ css)

theorem netLost_ok (b : Nat) (ms : List Msg) (lost : Int) : Trip Try.prog 16 [vp b 0] [bagA b ms lost] (fun r l => r = vi lost ∧ l = [bagA b ms lost]) := by
  refine Trip.ghE (bagA_open Pk.here) ?_
  rintro ⟨v, css⟩ -
  simp only [bagX, List.cons_append, List.nil_append]
  refine Trip.of_body Try.func16 rfl Try.ntmps16 Try.results16 rfl ?_
  refine Wp.seq ?_
  refine Wp.region ?_
  refine WpL.step (Stp.rd (Rdo.assign rfl) rfl ?_)
  refine WpL.nil ?_
  refine Thn.n ?_
  refine Wp.seq ?_
  refine Wp.seq ?_
  refine Wp.region ?_
  refine WpL.step (Stp.rd (Rdo.move rfl) rfl ?_)
  refine WpL.step (Stp.rd (Rdo.eqnil rfl rfl) rfl ?_)
  refine WpL.nil ?_
  refine Thn.n ?_
  refine Wp.condF rfl ?_
  refine Wp.skip ?_
  refine Thn.n ?_
  refine Wp.seq ?_
  refine Wp.region ?_
  refine WpL.step (Stp.rd (Rdo.move rfl) rfl ?_)
  refine WpL.step (Stp.rd (Rdo.nilCheck rfl) rfl ?_)
  refine WpL.step (Stp.rd (Rdo.fieldAddr0 rfl) rfl ?_)
  refine WpL.step (Stp.rd (Rdo.load rfl (Lds.one rfl)) rfl ?_)
  refine WpL.step (Stp.rd (Rdo.assign rfl) rfl ?_)
  refine WpL.nil ?_
  refine Thn.n ?_
  refine Wp.ret ?_
  refine Ret.now (ResV.tmp rfl ResV.nil) ?_ ⟨rfl, rfl⟩
  exact Gh.trans (Gh.tk (by repeat (first | exact Tk.nil | apply Tk.cons (by repeat (first | exact Pk.here | apply Pk.next))))) (bagA_shut (l := []) _ css)

/-- There is room. -/
theorem put_in (b : Nat) (tb : TypeId) (v x : Value) (n : Nat) (most : Int) (xs m : List Value) (hm : m.length = 39) (hone : oneCells m) (hmo : most ≤ 512) (hn : (n : Int) < most) :
    Trip Try.prog 19 [vp b 0, .agg m.toArray] [cel b tb [v, vi most, x], rowA 30 39 v n xs]
      (fun r l => r = vb true ∧ ∃ v', l = [cel b tb [v', vi most, x], rowA 30 39 v' (n + 1) (xs ++ m)]) := by
  refine Trip.get (Pk.next Pk.here) (fun r => rowA_shape) ?_
  rintro ⟨a, c, rfl⟩
  refine Trip.of_body Try.func19 rfl Try.ntmps19 Try.results19 rfl ?_
  refine Wp.seq ?_
  refine Wp.region ?_
  (refine WpL.step (Stp.boxV rfl (VC.ag _) rfl ?_); intro nb2)
  refine WpL.step (Stp.rd (Rdo.assign rfl) rfl ?_)
  refine WpL.nil ?_
  refine Thn.n ?_
  refine Wp.seq ?_
  refine Wp.seq ?_
  refine Wp.draw (by kernel_rfl) ?_
  refine WpR.take (i := 0) rfl (by kernel_rfl) (by kernel_rfl) (by kernel_rfl) (Rdo.move rfl) rfl ?_
  refine WpR.take (i := 1) rfl (by kernel_rfl) (by kernel_rfl) (by kernel_rfl) (Rdo.nilCheck rfl) rfl ?_
  refine WpR.take (i := 2) rfl (by kernel_rfl) (by kernel_rfl) (by kernel_rfl) (Rdo.fieldAddr0 rfl) rfl ?_
  refine WpR.take (i := 5) rfl (by kernel_rfl) (by kernel_rfl) (by kernel_rfl) (Rdo.move rfl) rfl ?_
  refine WpR.take (i := 6) rfl (by kernel_rfl) (by kernel_rfl) (by kernel_rfl) (Rdo.nilCheck rfl) rfl ?_
  refine WpR.take (i := 7) rfl (by kernel_rfl) (by kernel_rfl) (by kernel_rfl) (Rdo.fieldAddr0 rfl) rfl ?_
  refine WpR.load (i := 3) [8] rfl (by kernel_rfl) (by kernel_rfl) (by kernel_rfl) (by kernel_rfl) (by kernel_rfl) rfl Tk.rfl_ (Harm.rd rfl (Rdo.load rfl (Lds.next (Lds.one rfl))) Harm.nil) (Rdo.load rfl (Lds.next (Lds.one rfl))) rfl ?_
  refine WpR.take (i := 4) rfl (by kernel_rfl) (by kernel_rfl) (by kernel_rfl) (Rdo.lenSlice rfl) rfl ?_
  refine WpR.one (i := 8) rfl (by kernel_rfl) (Stp.rd (Rdo.load rfl (Lds.next (Lds.one rfl))) rfl ?_)
  refine WpR.take (i := 9) rfl (by kernel_rfl) (by kernel_rfl) (by kernel_rfl) (Rdo.gei rfl rfl) rfl ?_
  refine WpR.done (by kernel_rfl) ?_
  refine Thn.n ?_
  refine Wp.condL rfl (by first | rfl | assumption | (simp only [decide_eq_true_eq, decide_eq_false_iff_not, Bool.not_eq_true', Bool.not_eq_false', List.length_cons, List.length_nil]; first | assumption | omega) | (simp <;> done) | (simp <;> omega)) ?_
  refine Wp.skip ?_
  refine Thn.n ?_
  refine Wp.seq ?_
  refine Wp.draw (by kernel_rfl) ?_
  refine WpR.take (i := 0) rfl (by kernel_rfl) (by kernel_rfl) (by kernel_rfl) (Rdo.move rfl) rfl ?_
  refine WpR.take (i := 1) rfl (by kernel_rfl) (by kernel_rfl) (by kernel_rfl) (Rdo.move rfl) rfl ?_
  refine WpR.take (i := 2) rfl (by kernel_rfl) (by kernel_rfl) (by kernel_rfl) (Rdo.nilCheck rfl) rfl ?_
  refine WpR.take (i := 3) rfl (by kernel_rfl) (by kernel_rfl) (by kernel_rfl) (Rdo.fieldAddr0 rfl) rfl ?_
  refine WpR.load (i := 5) [4] rfl (by kernel_rfl) (by kernel_rfl) (by kernel_rfl) (by kernel_rfl) (by kernel_rfl) rfl Tk.rfl_ (Harm.rd rfl (Rdo.load rfl (Lds.next (Lds.one rfl))) Harm.nil) (Rdo.load rfl (by apply Lds.all; (first | rfl | assumption | (simp <;> fail)))) rfl ?_
  refine WpR.phaseL (m := 3) #[true, true, true, true, true, true, true, true, false, false, false] 3 _ rfl (by kernel_rfl) (Tk.cons (Pk.next Pk.here) Tk.nil) ?_
  refine WpA.take (i := 4) rfl rfl (by kernel_rfl) (by kernel_rfl) (by kernel_rfl) (Rdo.load rfl (Lds.one rfl)) rfl ?_
  (refine WpA.one (i := 6) rfl (by kernel_rfl) (Stp.sliceV rfl rfl (VCs.cons (VC.ag _) (by first | rfl | assumption | (simp <;> done)) VCs.nil) (by simp only [List.cons_append, List.nil_append, List.append_nil]; exact rfl) rfl rfl ?_); intro nb33)
  (refine WpA.one (i := 7) rfl (by kernel_rfl) (Stp.appendP rfl rfl (Pk.next (Pk.next Pk.here)) (Src.cel (by first | rfl | (simp <;> done) | (simp <;> omega))) (by first | rfl | (simp <;> done) | (simp <;> omega)) (by first | assumption | exact oneCells1 rfl | exact oneCells1 (by assumption) | exact oneCells_bytesC _ | exact oneCells_votesC _ | (simp [oneCells, Value.oneCell'] <;> done)) (by first | omega | (simp <;> omega)) (by first | omega | (simp <;> omega)) rfl (by first | rfl | (simp <;> done)) ?_); intro na34 nc34)
  refine WpA.stop (by kernel_rfl) ?_
  refine WpR.lst (by simp only [List.cons_append, List.nil_append]; exact rfl) ?_
  refine WpR.take (i := 8) rfl (by kernel_rfl) (by kernel_rfl) (by kernel_rfl) (Rdo.nilCheck rfl) rfl ?_
  refine WpR.take (i := 9) rfl (by kernel_rfl) (by kernel_rfl) (by kernel_rfl) (Rdo.fieldAddr0 rfl) rfl ?_
  refine WpR.one (i := 10) rfl (by kernel_rfl) (Stp.storeV rfl rfl (VC.sl _ _ _) rfl (Sts.lp (by repeat (first | exact LPut.nil _ | apply LPut.here | apply LPut.next)) (oneCells1 rfl)) ?_)
  refine WpR.done (by kernel_rfl) ?_
  refine Thn.n ?_
  refine Wp.seq ?_
  refine Wp.region ?_
  refine WpL.step (Stp.rd (Rdo.assign rfl) rfl ?_)
  refine WpL.nil ?_
  refine Thn.n ?_
  refine Wp.ret ?_
  refine Ret.now (ResV.tmp rfl ResV.nil) (Gh.tk (by repeat (first | exact Tk.nil | apply Tk.cons (by repeat (first | exact Pk.here | apply Pk.next))))) ⟨rfl, ⟨_, rfl⟩⟩
theorem put_full (b : Nat) (tb : TypeId) (v x : Value) (n : Nat) (most : Int) (xs m : List Value) (hm : m.length = 39) (hone : oneCells m) (hmo : most ≤ 512) (hn : ¬ (n : Int) < most) :
    Trip Try.prog 19 [vp b 0, .agg m.toArray] [cel b tb [v, vi most, x], rowA 30 39 v n xs]
      (fun r l => r = vb false ∧ l = [cel b tb [v, vi most, x], rowA 30 39 v n xs]) := by
  refine Trip.get (Pk.next Pk.here) (fun r => rowA_shape) ?_
  rintro ⟨a, c, rfl⟩
  refine Trip.of_body Try.func19 rfl Try.ntmps19 Try.results19 rfl ?_
  refine Wp.seq ?_
  refine Wp.region ?_
  (refine WpL.step (Stp.boxV rfl (VC.ag _) rfl ?_); intro nb2)
  refine WpL.step (Stp.rd (Rdo.assign rfl) rfl ?_)
  refine WpL.nil ?_
  refine Thn.n ?_
  refine Wp.seq ?_
  refine Wp.seq ?_
  refine Wp.draw (by kernel_rfl) ?_
  refine WpR.take (i := 0) rfl (by kernel_rfl) (by kernel_rfl) (by kernel_rfl) (Rdo.move rfl) rfl ?_
  refine WpR.take (i := 1) rfl (by kernel_rfl) (by kernel_rfl) (by kernel_rfl) (Rdo.nilCheck rfl) rfl ?_
  refine WpR.take (i := 2) rfl (by kernel_rfl) (by kernel_rfl) (by kernel_rfl) (Rdo.fieldAddr0 rfl) rfl ?_
  refine WpR.take (i := 5) rfl (by kernel_rfl) (by kernel_rfl) (by kernel_rfl) (Rdo.move rfl) rfl ?_
  refine WpR.take (i := 6) rfl (by kernel_rfl) (by kernel_rfl) (by kernel_rfl) (Rdo.nilCheck rfl) rfl ?_
  refine WpR.take (i := 7) rfl (by kernel_rfl) (by kernel_rfl) (by kernel_rfl) (Rdo.fieldAddr0 rfl) rfl ?_
  refine WpR.load (i := 3) [8] rfl (by kernel_rfl) (by kernel_rfl) (by kernel_rfl) (by kernel_rfl) (by kernel_rfl) rfl Tk.rfl_ (Harm.rd rfl (Rdo.load rfl (Lds.next (Lds.one rfl))) Harm.nil) (Rdo.load rfl (Lds.next (Lds.one rfl))) rfl ?_
  refine WpR.take (i := 4) rfl (by kernel_rfl) (by kernel_rfl) (by kernel_rfl) (Rdo.lenSlice rfl) rfl ?_
  refine WpR.one (i := 8) rfl (by kernel_rfl) (Stp.rd (Rdo.load rfl (Lds.next (Lds.one rfl))) rfl ?_)
  refine WpR.take (i := 9) rfl (by kernel_rfl) (by kernel_rfl) (by kernel_rfl) (Rdo.gei rfl rfl) rfl ?_
  refine WpR.done (by kernel_rfl) ?_
  refine Thn.n ?_
  refine Wp.condK rfl (by first | rfl | assumption | (simp only [decide_eq_true_eq, decide_eq_false_iff_not, Bool.not_eq_true', Bool.not_eq_false', List.length_cons, List.length_nil]; first | assumption | omega) | (simp <;> done) | (simp <;> omega)) ?_
  refine Wp.seq ?_
  refine Wp.region ?_
  refine WpL.step (Stp.rd (Rdo.assign rfl) rfl ?_)
  refine WpL.nil ?_
  refine Thn.n ?_
  refine Wp.ret ?_
  refine Thn.r ?_
  refine Ret.now (ResV.tmp rfl ResV.nil) (Gh.tk (by repeat (first | exact Tk.nil | apply Tk.cons (by repeat (first | exact Pk.here | apply Pk.next))))) ⟨rfl, rfl⟩
end Go.Proofs.Ytmeaekcengmfbaa
