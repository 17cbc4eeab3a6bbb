/- A bag: a message of one's own is put; At as memory of one's own. -/
import Derived.Test.YtmeaekcengmfbaaOwn1
import Derived.Test.YtmeaekcengmfbaaSame
namespace Go.Proofs.Ytmeaekcengmfbaa
open Go
set_option maxHeartbeats 4000000
set_option linter.unusedSimpArgs false
set_option linter.unusedVariables false
set_option maxRecDepth 20000

theorem netAtR_in (b : Nat) (ms : List Msg) (lost : Int) (i : Nat) (m : Msg) (hm : ms[i]? = some m) (hok : okMsg m) :
    Trip Try.prog 13 [vp b 0, vi i] [bagA b ms lost] (fun r l => ∃ x, r = .tuple #[.agg (msgCs m x).toArray, vb true] ∧ l = bagA b ms lost :: rowsM m x) := by
  obtain ⟨hi, hmi⟩ := List.getElem?_eq_some_iff.1 hm
  refine Trip.ghE (bagA_open Pk.here) ?_
  rintro ⟨v, css⟩ -
  simp only [bagX, List.cons_append, List.nil_append]
  refine Trip.ghE (GhE.rowsElem (Pk.next (Pk.next Pk.here)) i hi) ?_
  rintro ⟨X, c, Y⟩ ⟨rfl, hX, hXl, hc⟩
  rw [hmi]
  simp only at hX hXl hc ⊢
  refine Trip.get Pk.here len_msg ?_
  rintro ⟨_, hone⟩
  rw [List.flatten_append, List.flatten_cons]
  have hXf : X.flatten.length = i * 39 := by rw [flat_len hXl, hX]
  have s1 := at_in b 55 v (vi 512) (vi lost) ms.length i hi X.flatten c Y.flatten hXf hc hone
  have s2 := netCopiedR_ok c m hok
  refine Trip.of_body Try.func13 rfl Try.ntmps13 Try.results13 rfl ?_
  refine Wp.seq ?_
  refine Wp.region ?_
  (refine WpL.step (Stp.alloc rfl ?_); intro nb2)
  refine WpL.step (Stp.rd (Rdo.assign rfl) rfl ?_)
  refine WpL.nil ?_
  refine Thn.n ?_
  refine Wp.seq ?_
  refine Wp.seq ?_
  refine Wp.region ?_
  refine WpL.step (Stp.rd (Rdo.move rfl) rfl ?_)
  refine WpL.step (Stp.rd (Rdo.eqnil rfl rfl) rfl ?_)
  refine WpL.nil ?_
  refine Thn.n ?_
  refine Wp.condF rfl ?_
  refine Wp.skip ?_
  refine Thn.n ?_
  refine Wp.seq ?_
  refine Wp.region ?_
  refine WpL.step (Stp.rd (Rdo.move rfl) rfl ?_)
  refine WpL.step (Stp.rd (Rdo.nilCheck rfl) rfl ?_)
  refine WpL.step (Stp.rd (Rdo.fieldAddr0 rfl) rfl ?_)
  refine WpL.step (Stp.rd (Rdo.move rfl) rfl ?_)
  refine WpL.step (Stp.call (s1) (by kernel_rfl) rfl (by repeat (first | exact Tk.nil | apply Tk.cons (by repeat (first | exact Pk.here | apply Pk.next)))) rfl ?_)
  rintro _ _ ⟨rfl, rfl⟩
  refine WpL.lst (by simp only [List.cons_append, List.nil_append]; exact rfl) ?_
  refine WpL.step (Stp.rd (Rdo.move rfl) rfl ?_)
  refine WpL.step (Stp.rd (Rdo.extract rfl rfl) rfl ?_)
  refine WpL.step (Stp.rd (Rdo.extract rfl rfl) rfl ?_)
  (refine WpL.step (Stp.alloc rfl ?_); intro nb28)
  refine WpL.step (Stp.storeV rfl rfl (VC.ag _) (by first | rfl | assumption | (simp <;> done)) (by repeat (first | (apply Sts.all; (focus (first | rfl | assumption | (simp <;> done))); (focus (first | exact oneCells1 rfl | assumption | exact oneCells1 (by assumption) | ((repeat (first | assumption | exact oneCells_nil | exact oneCells_bytesC _ | (apply oneCells_cons; (focus (first | rfl | assumption))) | apply oneCells_append)); done) | (simp [oneCells, Value.oneCell'] <;> done)))) | (apply Sts.lp (by repeat (first | exact LPut.nil _ | apply LPut.here | apply LPut.next)); (focus (first | exact oneCells1 rfl | assumption | exact oneCells1 (by assumption) | ((repeat (first | assumption | exact oneCells_nil | exact oneCells_bytesC _ | (apply oneCells_cons; (focus (first | rfl | assumption))) | apply oneCells_append)); done) | (simp [oneCells, Value.oneCell'] <;> done)))) | (refine Sts.row1 (by first | assumption | omega | (simp <;> omega)) (by first | rfl | assumption)) | (refine Sts.rowP (by assumption) (by first | rfl | assumption | (simp <;> done)) (by rfl) (by (first | exact oneCells1 rfl | assumption | exact oneCells1 (by assumption) | ((repeat (first | assumption | exact oneCells_nil | exact oneCells_bytesC _ | (apply oneCells_cons; (focus (first | rfl | assumption))) | apply oneCells_append)); done) | (simp [oneCells, Value.oneCell'] <;> done)))) | apply Sts.next)) ?_)
  refine WpL.step (Stp.rd (Rdo.assign rfl) rfl ?_)
  refine WpL.nil ?_
  refine Thn.n ?_
  refine Wp.seq ?_
  refine Wp.region ?_
  refine WpL.step (Stp.rd (Rdo.load rfl (by apply Lds.all; (first | rfl | assumption | (simp <;> fail)))) rfl ?_)
  refine WpL.step (Stp.call (s2) (by kernel_rfl) rfl (by repeat (first | exact Tk.nil | apply Tk.cons (by repeat (first | exact Pk.here | apply Pk.next)))) rfl ?_)
  rintro _ _ ⟨v37_0, ⟨rfl, rfl⟩⟩
  refine WpL.lst (by simp only [List.cons_append, List.nil_append]; exact rfl) ?_
  refine WpL.step (Stp.rd (Rdo.move rfl) rfl ?_)
  refine WpL.step (Stp.storeV rfl rfl (VC.ag _) (by first | rfl | assumption | (simp <;> done)) (by repeat (first | (apply Sts.all; (focus (first | rfl | assumption | (simp <;> done))); (focus (first | exact oneCells1 rfl | assumption | exact oneCells1 (by assumption) | ((repeat (first | assumption | exact oneCells_nil | exact oneCells_bytesC _ | (apply oneCells_cons; (focus (first | rfl | assumption))) | apply oneCells_append)); done) | (simp [oneCells, Value.oneCell'] <;> done)))) | (apply Sts.lp (by repeat (first | exact LPut.nil _ | apply LPut.here | apply LPut.next)); (focus (first | exact oneCells1 rfl | assumption | exact oneCells1 (by assumption) | ((repeat (first | assumption | exact oneCells_nil | exact oneCells_bytesC _ | (apply oneCells_cons; (focus (first | rfl | assumption))) | apply oneCells_append)); done) | (simp [oneCells, Value.oneCell'] <;> done)))) | (refine Sts.row1 (by first | assumption | omega | (simp <;> omega)) (by first | rfl | assumption)) | (refine Sts.rowP (by assumption) (by first | rfl | assumption | (simp <;> done)) (by rfl) (by (first | exact oneCells1 rfl | assumption | exact oneCells1 (by assumption) | ((repeat (first | assumption | exact oneCells_nil | exact oneCells_bytesC _ | (apply oneCells_cons; (focus (first | rfl | assumption))) | apply oneCells_append)); done) | (simp [oneCells, Value.oneCell'] <;> done)))) | apply Sts.next)) ?_)
  refine WpL.step (Stp.rd (Rdo.assign rfl) rfl ?_)
  refine WpL.nil ?_
  refine Thn.n ?_
  refine Wp.ret ?_
  refine Ret.now (ResV.cell rfl (by repeat (first | exact Lds.one rfl | (apply Lds.all; (first | rfl | assumption | (simp <;> fail))) | exact Lds.ione0 | exact Lds.ione rfl | (apply Lds.iall; (first | rfl | assumption | (simp <;> fail))) | apply Lds.next)) (ResV.tmp rfl ResV.nil)) ?_ ⟨_, ⟨rfl, rfl⟩⟩
  refine Gh.trans ?_ (bagA_shut v (X ++ c :: Y))
  simp only [List.flatten_append, List.flatten_cons]
  exact Gh.tk (by repeat (first | exact Tk.nil | apply Tk.cons (by repeat (first | exact Pk.here | apply Pk.next))))

theorem netPutO_ok (b nb : Nat) (m : Msg) (x : (Option Addr × Nat) × (Option Addr × Nat)) (ms : List Msg) (lost : Int) (hms : ms.length < 512) (ho : okMsg m) :
    Trip Try.prog 9 [vp b 0, .slice (some ⟨nb, 0, none⟩) 1 1] (bagA b ms lost :: cel nb 30 (msgCs m x) :: rowsM m x)
      (fun r l => r = vi 1 ∧ l = bagA b (ms ++ [m]) lost :: rowsM m x) := by
  have s1 := netCopiedO_ok m x ho
  have s2 : ∀ y, Trip Try.prog 19 [vp b 0, .agg (msgCs m y).toArray] [bagA b ms lost, fz (fun g => RdMsg g (msgCs m y) m)] (fun r l => r = vb true ∧ l = [bagA b (ms ++ [m]) lost]) := by
    intro y
    have h := bagAdd_ok b ms lost (msgCs m y) m (by omega)
    rwa [decide_eq_true hms, if_pos hms] at h
  refine Trip.of_body Try.func9 rfl Try.ntmps9 Try.results9 rfl ?_
  refine Wp.seq ?_
  refine Wp.region ?_
  refine WpL.step (Stp.rd (Rdo.assign rfl) rfl ?_)
  refine WpL.nil ?_
  refine Thn.n ?_
  refine Wp.seq ?_
  refine Wp.seq ?_
  refine Wp.region ?_
  refine WpL.step (Stp.rd (Rdo.move rfl) rfl ?_)
  refine WpL.step (Stp.rd (Rdo.eqnil rfl rfl) rfl ?_)
  refine WpL.nil ?_
  refine Thn.n ?_
  refine Wp.condF rfl ?_
  refine Wp.skip ?_
  refine Thn.n ?_
  refine Wp.seq ?_
  refine Wp.region ?_
  refine WpL.step (Stp.rd (Rdo.assign rfl) rfl ?_)
  refine WpL.nil ?_
  refine Thn.n ?_
  refine Wp.seq ?_
  refine Wp.seq ?_
  refine Wp.region ?_
  refine WpL.step (Stp.rd (Rdo.move rfl) rfl ?_)
  refine WpL.step (Stp.rd (Rdo.lenSlice rfl) rfl ?_)
  refine WpL.step (Stp.rd (Rdo.move rfl) rfl ?_)
  refine WpL.nil ?_
  refine Thn.n ?_
  refine Wp.block ?_
  refine Wp.loopE (fun k e h => ∃ i : Nat, i + k = 1 ∧ e = putE b i (some ⟨nb, 0, none⟩) 1 1 i ∧ h = bagA b (if i = 0 then ms else ms ++ [m]) lost :: cel nb 30 (msgCs m x) :: rowsM m x) 1
    (e0 := putE b 0 (some ⟨nb, 0, none⟩) 1 1 0) (l0 := bagA b ms lost :: cel nb 30 (msgCs m x) :: rowsM m x) (by repeat (first | exact trivial | refine ⟨rfl, ?_⟩)) (by repeat (first | exact trivial | refine ⟨rfl, ?_⟩)) (Gh.tk (by repeat (first | exact Tk.nil | apply Tk.cons (by repeat (first | exact Pk.here | apply Pk.next))))) ⟨0, rfl, rfl, rfl⟩ ?_
  rintro k e h ⟨i, hik, rfl, rfl⟩
  by_cases hi : i = 0
  · subst hi
    simp only [if_true]
    refine Wp.seq ?_
    refine Wp.region ?_
    refine WpL.step (Stp.rd (Rdo.lti rfl rfl) rfl ?_)
    refine WpL.nil ?_
    refine Thn.n ?_
    refine Wp.seq ?_
    refine Wp.condT rfl ?_
    refine Wp.skip ?_
    refine Thn.n ?_
    refine Wp.seq ?_
    refine Wp.block ?_
    refine Wp.seq ?_
    refine Wp.region ?_
    refine WpL.step (Stp.rd (Rdo.indexSliceE (i := 0) rfl rfl rfl (by first | omega | (simp <;> omega))) rfl ?_)
    refine WpL.step (Stp.rd (Rdo.load rfl (Lds.next (by apply Lds.all; (first | rfl | assumption | (simp <;> fail))))) rfl ?_)
    (refine WpL.step (Stp.alloc rfl ?_); intro nb15)
    refine WpL.step (Stp.storeV rfl rfl (VC.ag _) (by first | rfl | assumption | (simp <;> done)) (by repeat (first | (apply Sts.all; (focus (first | rfl | assumption | (simp <;> done))); (focus (first | exact oneCells1 rfl | assumption | exact oneCells1 (by assumption) | ((repeat (first | assumption | exact oneCells_nil | exact oneCells_bytesC _ | (apply oneCells_cons; (focus (first | rfl | assumption))) | apply oneCells_append)); done) | (simp [oneCells, Value.oneCell'] <;> done)))) | (apply Sts.lp (by repeat (first | exact LPut.nil _ | apply LPut.here | apply LPut.next)); (focus (first | exact oneCells1 rfl | assumption | exact oneCells1 (by assumption) | ((repeat (first | assumption | exact oneCells_nil | exact oneCells_bytesC _ | (apply oneCells_cons; (focus (first | rfl | assumption))) | apply oneCells_append)); done) | (simp [oneCells, Value.oneCell'] <;> done)))) | (refine Sts.row1 (by first | assumption | omega | (simp <;> omega)) (by first | rfl | assumption)) | (refine Sts.rowP (by assumption) (by first | rfl | assumption | (simp <;> done)) (by rfl) (by (first | exact oneCells1 rfl | assumption | exact oneCells1 (by assumption) | ((repeat (first | assumption | exact oneCells_nil | exact oneCells_bytesC _ | (apply oneCells_cons; (focus (first | rfl | assumption))) | apply oneCells_append)); done) | (simp [oneCells, Value.oneCell'] <;> done)))) | apply Sts.next)) ?_)
    refine WpL.nil ?_
    refine Thn.n ?_
    refine Wp.seq ?_
    refine Wp.draw (by kernel_rfl) ?_
    refine WpR.take (i := 0) rfl (by kernel_rfl) (by kernel_rfl) (by kernel_rfl) (Rdo.move rfl) rfl ?_
    refine WpR.take (i := 1) rfl (by kernel_rfl) (by kernel_rfl) (by kernel_rfl) (Rdo.nilCheck rfl) rfl ?_
    refine WpR.take (i := 2) rfl (by kernel_rfl) (by kernel_rfl) (by kernel_rfl) (Rdo.fieldAddr0 rfl) rfl ?_
    refine WpR.one (i := 3) rfl (by kernel_rfl) (Stp.rd (Rdo.load rfl (by apply Lds.all; (first | rfl | assumption | (simp <;> fail)))) rfl ?_)
    refine WpR.one (i := 4) rfl (by kernel_rfl) (Stp.call (s1) (by kernel_rfl) rfl (by repeat (first | exact Tk.nil | apply Tk.cons (by repeat (first | exact Pk.here | apply Pk.next)))) rfl ?_)
    rintro _ _ ⟨v26_0, ⟨rfl, rfl⟩⟩
    refine WpR.lst (by simp only [List.cons_append, List.nil_append]; exact rfl) ?_
    refine WpR.one (i := 5) rfl (by kernel_rfl) (Stp.call (s2 _) (by kernel_rfl) rfl (by repeat (first | exact Tk.nil | apply Tk.cons (by repeat (first | exact Pk.here | apply Pk.next)))) rfl ?_)
    rintro _ _ ⟨rfl, rfl⟩
    refine WpR.lst (by simp only [List.cons_append, List.nil_append]; exact rfl) ?_
    refine WpR.done (by kernel_rfl) ?_
    refine Thn.n ?_
    refine Wp.condT rfl ?_
    refine Wp.region ?_
    refine WpL.step (Stp.rd (Rdo.move rfl) rfl ?_)
    refine WpL.step (Stp.rd (Rdo.succ rfl rfl (by omega)) rfl ?_)
    refine WpL.step (Stp.rd (Rdo.assign rfl) rfl ?_)
    refine WpL.nil ?_
    refine Blk.n ?_
    refine Thn.n ?_
    refine Wp.region ?_
    refine WpL.step (Stp.rd (Rdo.succ rfl rfl (by omega)) rfl ?_)
    refine WpL.step (Stp.rd (Rdo.move rfl) rfl ?_)
    refine WpL.nil ?_
    refine Thn.n ?_
    exact ⟨0, _, _, by omega, ⟨1, rfl, rfl, rfl⟩, (by repeat (first | exact trivial | refine ⟨rfl, ?_⟩)), Gh.tk (by repeat (first | exact Tk.nil | apply Tk.cons (by repeat (first | exact Pk.here | apply Pk.next))))⟩
  · obtain rfl : i = 1 := by omega
    simp only [show (1 : Nat) ≠ 0 by omega, if_false]
    refine Wp.seq ?_
    refine Wp.region ?_
    refine WpL.step (Stp.rd (Rdo.lti rfl rfl) rfl ?_)
    refine WpL.nil ?_
    refine Thn.n ?_
    refine Wp.seq ?_
    refine Wp.condF rfl ?_
    refine Wp.exit ?_
    refine Thn.x ?_
    refine Thn.x ?_
    refine Blk.here ?_
    refine Thn.n ?_
    refine Wp.seq ?_
    refine Wp.region ?_
    refine WpL.step (Stp.rd (Rdo.move rfl) rfl ?_)
    refine WpL.step (Stp.rd (Rdo.assign rfl) rfl ?_)
    refine WpL.nil ?_
    refine Thn.n ?_
    refine Wp.ret ?_
    refine Ret.now (ResV.tmp rfl ResV.nil) (Gh.tk (by repeat (first | exact Tk.nil | apply Tk.cons (by repeat (first | exact Pk.here | apply Pk.next))))) ⟨rfl, rfl⟩
end Go.Proofs.Ytmeaekcengmfbaa
