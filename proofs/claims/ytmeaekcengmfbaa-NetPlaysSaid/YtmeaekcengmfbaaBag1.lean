/- Clones of votes; a message as new memory. -/
import Derived.Test.YtmeaekcengmfbaaMsg
namespace Go.Proofs.Ytmeaekcengmfbaa
open Go
set_option maxHeartbeats 4000000
set_option linter.unusedSimpArgs false
set_option linter.unusedVariables false
set_option maxRecDepth 20000

theorem votesClone_ok (v : Value) (bs : List Vote) (hb : bs.length ≤ 1099511627776) :
    Trip Try.prog 28 [v] [fz (fun g => RdVotes g v bs)] (fun r l => ∃ a c, r = .slice a bs.length c ∧ l = [fz (fun g => RdVotes g (.slice a bs.length c) bs), fz (fun g => RdVotes g v bs)]) := by
  refine Trip.get Pk.here shape_votes ?_
  rintro ⟨a, c, rfl⟩
  cases a with
  | none =>
    refine Trip.get Pk.here nil_votes ?_
    rintro rfl
    refine Trip.of_body Try.func28 rfl Try.ntmps28 Try.results28 rfl ?_
    refine Wp.seq ?_
    refine Wp.region ?_
    refine WpL.step (Stp.rd (Rdo.assign rfl) rfl ?_)
    refine WpL.nil ?_
    refine Thn.n ?_
    refine Wp.seq ?_
    refine Wp.seq ?_
    refine Wp.region ?_
    refine WpL.step (Stp.rd (Rdo.move rfl) rfl ?_)
    refine WpL.step (Stp.rd (Rdo.eqslnil rfl rfl) rfl ?_)
    refine WpL.nil ?_
    refine Thn.n ?_
    refine Wp.condT rfl ?_
    refine Wp.seq ?_
    refine Wp.region ?_
    refine WpL.step (Stp.rd (Rdo.assign rfl) rfl ?_)
    refine WpL.nil ?_
    refine Thn.n ?_
    refine Wp.ret ?_
    refine Thn.r ?_
    exact Ret.now (ResV.tmp rfl ResV.nil) Gh.noVotes ⟨none, 0, rfl, rfl⟩
  | some a =>
    refine Trip.of_body Try.func28 rfl Try.ntmps28 Try.results28 rfl ?_
    refine Wp.seq ?_
    refine Wp.region ?_
    refine WpL.step (Stp.rd (Rdo.assign rfl) rfl ?_)
    refine WpL.nil ?_
    refine Thn.n ?_
    refine Wp.seq ?_
    refine Wp.seq ?_
    refine Wp.region ?_
    refine WpL.step (Stp.rd (Rdo.move rfl) rfl ?_)
    refine WpL.step (Stp.rd (Rdo.eqslnil rfl rfl) rfl ?_)
    refine WpL.nil ?_
    refine Thn.n ?_
    refine Wp.condF rfl ?_
    refine Wp.skip ?_
    refine Thn.n ?_
    refine Wp.seq ?_
    refine Wp.region ?_
    (refine WpL.step (Stp.slice0 rfl ?_); intro nb17)
    refine WpL.step (Stp.rd (Rdo.move rfl) rfl ?_)
    (refine WpL.step (Stp.append0P rfl rfl Pk.here Src.frozen (by first | rfl | (simp <;> done) | (simp <;> omega)) (by first | assumption | exact oneCells1 rfl | exact oneCells1 (by assumption) | exact oneCells_bytesC _ | exact oneCells_votesC _ | (simp [oneCells, Value.oneCell'] <;> done)) (by first | omega | (simp <;> omega)) (by first | omega | (simp <;> omega)) rfl (by first | rfl | (simp <;> done)) ?_); intro na19 nc19)
    refine WpL.step (Stp.rd (Rdo.assign rfl) rfl ?_)
    refine WpL.nil ?_
    refine Thn.n ?_
    refine Wp.ret ?_
    exact Ret.now (ResV.tmp rfl ResV.nil) (Gh.ice Pk.here) ⟨_, _, rfl, rfl⟩

/-- A message that is no greater than what is looked at. -/
def okMsg (m : Msg) : Prop := m.value.length ≤ 1099511627776 ∧ m.votes.length ≤ 1099511627776

/-- A message as new memory. -/
theorem netCopied_ok (cs : List Value) (m : Msg) (ho : okMsg m) : Trip Try.prog 20 [.agg cs.toArray] [fz (fun g => RdMsg g cs m)] (fun r l => ∃ x, r = .agg (msgCs m x).toArray ∧ l = [fz (fun g => RdMsg g (msgCs m x) m)]) := by
  refine Trip.ghE (GhE.msg Pk.here) ?_
  rintro ⟨⟨a, c⟩, ⟨a', c'⟩⟩ rfl
  have h1 := bytesClone_ok (.slice a m.value.length c) m.value ho.1
  have h2 := votesClone_ok (.slice a' m.votes.length c') m.votes ho.2
  refine Trip.of_body Try.func20 rfl Try.ntmps20 Try.results20 rfl ?_
  refine Wp.seq ?_
  refine Wp.region ?_
  (refine WpL.step (Stp.boxV rfl (VC.ag _) rfl ?_); intro nb2)
  (refine WpL.step (Stp.alloc rfl ?_); intro nb3)
  refine WpL.nil ?_
  refine Thn.n ?_
  refine Wp.seq ?_
  refine Wp.draw (by kernel_rfl) ?_
  refine WpR.take (i := 0) rfl (by kernel_rfl) (by kernel_rfl) (by kernel_rfl) (Rdo.fieldAddr0 rfl) rfl ?_
  refine WpR.take (i := 3) rfl (by kernel_rfl) (by kernel_rfl) (by kernel_rfl) (Rdo.fieldAddr0 rfl) rfl ?_
  refine WpR.load (i := 1) [4] rfl (by kernel_rfl) (by kernel_rfl) (by kernel_rfl) (by kernel_rfl) (by kernel_rfl) rfl Tk.rfl_ (Harm.rd rfl (Rdo.load rfl (Lds.next (Lds.one rfl))) Harm.nil) (Rdo.load rfl (Lds.next (Lds.one rfl))) rfl ?_
  refine WpR.phaseL (m := 3) #[true, true, true, true, true, true, true, false, false, false] 4 _ rfl (by kernel_rfl) (Tk.cons (Pk.next Pk.here) Tk.nil) ?_
  refine WpA.take (i := 4) rfl rfl (by kernel_rfl) (by kernel_rfl) (by kernel_rfl) (Rdo.load rfl (Lds.one rfl)) rfl ?_
  refine WpA.one (i := 2) rfl (by kernel_rfl) (Stp.call (h1) (by kernel_rfl) rfl (by repeat (first | exact Tk.nil | apply Tk.cons (by repeat (first | exact Pk.here | apply Pk.next)))) rfl ?_)
  rintro _ _ ⟨v14_0, ⟨v14_1, ⟨rfl, rfl⟩⟩⟩
  refine WpA.lst (by simp only [List.cons_append, List.nil_append]; exact rfl) ?_
  refine WpA.take (i := 6) rfl rfl (by kernel_rfl) (by kernel_rfl) (by kernel_rfl) (Rdo.fieldAddr0 rfl) rfl ?_
  refine WpA.one (i := 5) rfl (by kernel_rfl) (Stp.call (h2) (by kernel_rfl) rfl (by repeat (first | exact Tk.nil | apply Tk.cons (by repeat (first | exact Pk.here | apply Pk.next)))) rfl ?_)
  rintro _ _ ⟨v18_0, ⟨v18_1, ⟨rfl, rfl⟩⟩⟩
  refine WpA.lst (by simp only [List.cons_append, List.nil_append]; exact rfl) ?_
  refine WpA.stop (by kernel_rfl) ?_
  refine WpR.lst (by simp only [List.cons_append, List.nil_append]; exact rfl) ?_
  refine WpR.one (i := 7) rfl (by kernel_rfl) (Stp.storeV rfl rfl (VC.sl _ _ _) rfl (Sts.lp (by repeat (first | exact LPut.nil _ | apply LPut.here | apply LPut.next)) (oneCells1 rfl)) ?_)
  refine WpR.take (i := 8) rfl (by kernel_rfl) (by kernel_rfl) (by kernel_rfl) (Rdo.fieldAddr0 rfl) rfl ?_
  refine WpR.one (i := 9) rfl (by kernel_rfl) (Stp.storeV rfl rfl (VC.sl _ _ _) rfl (Sts.lp (by repeat (first | exact LPut.nil _ | apply LPut.here | apply LPut.next)) (oneCells1 rfl)) ?_)
  refine WpR.done (by kernel_rfl) ?_
  refine Thn.n ?_
  refine Wp.seq ?_
  refine Wp.region ?_
  refine WpL.step (Stp.rd (Rdo.load rfl (by apply Lds.all; (first | rfl | assumption | (simp <;> fail)))) rfl ?_)
  refine WpL.step (Stp.storeV rfl rfl (VC.ag _) (by first | rfl | assumption | (simp <;> done)) (by repeat (first | (apply Sts.all; (focus (first | rfl | assumption | (simp <;> done))); (focus (first | exact oneCells1 rfl | assumption | exact oneCells1 (by assumption) | ((repeat (first | assumption | exact oneCells_nil | exact oneCells_bytesC _ | (apply oneCells_cons; (focus (first | rfl | assumption))) | apply oneCells_append)); done) | (simp [oneCells, Value.oneCell'] <;> done)))) | (apply Sts.lp (by repeat (first | exact LPut.nil _ | apply LPut.here | apply LPut.next)); (focus (first | exact oneCells1 rfl | assumption | exact oneCells1 (by assumption) | ((repeat (first | assumption | exact oneCells_nil | exact oneCells_bytesC _ | (apply oneCells_cons; (focus (first | rfl | assumption))) | apply oneCells_append)); done) | (simp [oneCells, Value.oneCell'] <;> done)))) | (refine Sts.row1 (by first | assumption | omega | (simp <;> omega)) (by first | rfl | assumption)) | (refine Sts.rowP (by assumption) (by first | rfl | assumption | (simp <;> done)) (by rfl) (by (first | exact oneCells1 rfl | assumption | exact oneCells1 (by assumption) | ((repeat (first | assumption | exact oneCells_nil | exact oneCells_bytesC _ | (apply oneCells_cons; (focus (first | rfl | assumption))) | apply oneCells_append)); done) | (simp [oneCells, Value.oneCell'] <;> done)))) | apply Sts.next)) ?_)
  refine WpL.nil ?_
  refine Thn.n ?_
  refine Wp.ret ?_
  refine Ret.now (l' := [fz (fun g => RdMsg g (msgCs m ((v14_0, v14_1), (v18_0, v18_1))) m)]) (ResV.cell rfl (by repeat (first | exact Lds.one rfl | (apply Lds.all; (first | rfl | assumption | (simp <;> fail))) | exact Lds.ione0 | exact Lds.ione rfl | (apply Lds.iall; (first | rfl | assumption | (simp <;> fail))) | apply Lds.next)) ResV.nil) (Gh.trans (Gh.tk (l' := [fz (fun g => RdBytes g (.slice v14_0 m.value.length v14_1) m.value), fz (fun g => RdVotes g (.slice v18_0 m.votes.length v18_1) m.votes)]) (by repeat (first | exact Tk.nil | apply Tk.cons (by repeat (first | exact Pk.here | apply Pk.next))))) (Gh.mkMsg Pk.here Pk.here)) ⟨_, rfl, rfl⟩
end Go.Proofs.Ytmeaekcengmfbaa
