/- The coordinator: Apply, whatever is asked; a transaction that is known. -/
import Derived.Test.YtccgdnocldmjeaaDoorCo17
import Derived.Test.YtccgdnocldmjeaaDoorWir3
namespace Go.Proofs.YtccgdnocldmjeaaDoor
open Go
set_option maxHeartbeats 4000000
set_option linter.unusedSimpArgs false
set_option linter.unusedVariables false
set_option maxRecDepth 20000

theorem encNo (o : Go.Proofs.YtccgdnocldmjeaaDoor.Op) (hl : o.name.length ≤ 1000000) (h : ¬ okOp o) : EncNo o := encOp_no o hl h
theorem encYes (o : Go.Proofs.YtccgdnocldmjeaaDoor.Op) (hl : o.name.length ≤ 1000000) (h : okOp o) : EncYes o := by
  unfold EncYes
  refine Trip.viaG (encOp_ok o h hl) (rest := []) Tk.rfl_ ?_
  rintro r l ⟨a, c, rfl, rfl⟩ F w hw
  exact ⟨[], ⟨_, rfl, rfl⟩, (Gh.tk Tk.nil : Gh _ []).use hw⟩
theorem apply_ok (b : Nat) (c : CoS) (o : Go.Proofs.YtccgdnocldmjeaaDoor.Op) (hl : o.name.length ≤ 1000000) (k : Nat) (hk : k ≤ 1000) (h : c.Ok k) :
    Trip Tryd.prog 14 [vp b 0, .agg (opC o).toArray] [coA b c]
      (fun r l => ∃ a cp, r = .tuple #[.agg (repC (c.apply o).1).toArray, .slice a (c.apply o).2.1.length cp] ∧ l = [coA b (c.apply o).2.2, markA (.slice a (c.apply o).2.1.length cp) (c.apply o).2.1]) := by
  refine Trip.viaG (apply_ok_ b c o (encNo o hl) (encYes o hl) k hk h) (rest := []) Tk.rfl_ ?_
  rintro r l ⟨v, rfl, rfl⟩ F w hw
  rw [List.append_nil] at hw
  have hg : GhE [coA b (c.apply o).2.2, markA v (c.apply o).2.1] (fun x : Option Addr × Nat => v = .slice x.1 (c.apply o).2.1.length x.2) (fun _ => [coA b (c.apply o).2.2, markA v (c.apply o).2.1]) := by
    refine GhE.mk fun F w hl => ?_
    obtain ⟨a, cp, hv⟩ := Holds.fact (fun r => rowA_shape) (hl.perm (List.Perm.swap _ _ _))
    exact ⟨(a, cp), hv, hl⟩
  obtain ⟨⟨a, cp⟩, rfl, h3⟩ := hg.use hw
  exact ⟨_, ⟨a, cp, rfl, rfl⟩, h3⟩
/-- The same, where there is a mark. -/
theorem apply_ok1 (b : Nat) (c : CoS) (o : Go.Proofs.YtccgdnocldmjeaaDoor.Op) (hl : o.name.length ≤ 1000000) (k : Nat) (hk : k ≤ 1000) (h : c.Ok k) (hm : 0 < (c.apply o).2.1.length) :
    Trip Tryd.prog 14 [vp b 0, .agg (opC o).toArray] [coA b c]
      (fun r l => ∃ mb of cp, r = .tuple #[.agg (repC (c.apply o).1).toArray, .slice (some ⟨mb, of, none⟩) (c.apply o).2.1.length cp] ∧ l = [coA b (c.apply o).2.2, markA (.slice (some ⟨mb, of, none⟩) (c.apply o).2.1.length cp) (c.apply o).2.1]) := by
  refine Trip.viaG (apply_ok b c o hl k hk h) (rest := []) Tk.rfl_ ?_
  rintro r l ⟨a, cp, rfl, rfl⟩ F w hw
  rw [List.append_nil] at hw
  obtain ⟨mb, of, cp', hv⟩ := Holds.fact (fun r hr => rowA_at 0 hm hr) (hw.perm (List.Perm.swap _ _ _))
  simp only [Value.slice.injEq, true_and] at hv
  obtain ⟨rfl, rfl⟩ := hv
  exact ⟨_, ⟨mb, of, cp, rfl, rfl⟩, hw⟩

abbrev k1 : Go.Proofs.YtccgdnocldmjeaaDoor.Op := ⟨1, 0, 0, [97], 0, 0, 0, 0, false⟩
abbrev k2 : Go.Proofs.YtccgdnocldmjeaaDoor.Op := ⟨2, 0, 1, [], 0, 0, 1, 0, false⟩
abbrev k3 : Go.Proofs.YtccgdnocldmjeaaDoor.Op := ⟨3, 0, 2, [], 0, 0, 1, 0, true⟩
def ck1 : CoS := (CoS.new.apply k1).2.2
def ck2 : CoS := (ck1.apply k2).2.2
def ck3 : CoS := (ck2.apply k3).2.2
theorem known_ok : Trip Tryd.prog 15 [] [] (fun r l => r = vb true ∧ l = []) := by
  have o0 := CoS.Ok.new
  have o1 : ck1.Ok 1 := apply_Ok o0 k1
  have o2 : ck2.Ok 2 := apply_Ok o1 k2
  have s1 : ∀ b, Trip Tryd.prog 14 [vp b 0, .agg (opC k1).toArray] [coA b CoS.new]
      (fun r l => ∃ mb of cp, r = .tuple #[.agg (repC ⟨0, 0, 0⟩).toArray, .slice (some ⟨mb, of, none⟩) 1 cp] ∧ l = [coA b ck1, markA (.slice (some ⟨mb, of, none⟩) 1 cp) [⟨1, 0, 0, 0⟩]]) := by
    intro b
    have h := apply_ok1 b CoS.new k1 (by decide) 0 (by omega) o0 (by decide)
    have e1 : (CoS.new.apply k1).1 = ⟨0, 0, 0⟩ := by rfl
    have e2 : (CoS.new.apply k1).2.1 = [⟨1, 0, 0, 0⟩] := by rfl
    rw [e1, e2] at h
    exact h
  have s2 : ∀ b, Trip Tryd.prog 14 [vp b 0, .agg (opC k2).toArray] [coA b ck1]
      (fun r l => ∃ a cp, r = .tuple #[.agg (repC ⟨0, 0, 0⟩).toArray, .slice a 0 cp] ∧ l = [coA b ck2, markA (.slice a 0 cp) []]) := by
    intro b
    have h := apply_ok b ck1 k2 (by decide) 1 (by omega) o1
    have e1 : (ck1.apply k2).1 = ⟨0, 0, 0⟩ := by rfl
    have e2 : (ck1.apply k2).2.1 = [] := by rfl
    rw [e1, e2] at h
    exact h
  have s3 : ∀ b, Trip Tryd.prog 14 [vp b 0, .agg (opC k3).toArray] [coA b ck2]
      (fun r l => ∃ mb of cp, r = .tuple #[.agg (repC ⟨0, 0, 0⟩).toArray, .slice (some ⟨mb, of, none⟩) 1 cp] ∧ l = [coA b ck3, markA (.slice (some ⟨mb, of, none⟩) 1 cp) [⟨2, 0, 0, 1⟩]]) := by
    intro b
    have h := apply_ok1 b ck2 k3 (by decide) 2 (by omega) o2 (by decide)
    have e1 : (ck2.apply k3).1 = ⟨0, 0, 0⟩ := by rfl
    have e2 : (ck2.apply k3).2.1 = [⟨2, 0, 0, 1⟩] := by rfl
    rw [e1, e2] at h
    exact h
  refine Trip.of_body Tryd.func15 rfl Tryd.ntmps15 Tryd.results15 rfl ?_
  have f1 : (([⟨1, 0, 0, 0⟩] : List Mark).map markC).flatten[0 * 4 + 0]? = some (vi 1) := rfl
  have f2 : (([⟨2, 0, 0, 1⟩] : List Mark).map markC).flatten = [] ++ (markC ⟨2, 0, 0, 1⟩ ++ []) := rfl
  refine Wp.seq ?_
  refine Wp.region ?_
  refine WpL.step (Stp.rd (Rdo.assign rfl) rfl ?_)
  refine WpL.nil ?_
  refine Thn.n ?_
  refine Wp.seq ?_
  refine Wp.region ?_
  refine WpL.step (Stp.call (new_ok) (by kernel_rfl) rfl (by repeat (first | exact Tk.nil | apply Tk.cons (by repeat (first | exact Pk.here | apply Pk.next)))) rfl ?_)
  rintro _ _ ⟨v8_0, ⟨rfl, rfl⟩⟩
  refine WpL.lst (by simp only [List.cons_append, List.nil_append]; exact rfl) ?_
  refine WpL.step (Stp.rd (Rdo.assign rfl) rfl ?_)
  refine WpL.nil ?_
  refine Thn.n ?_
  refine Wp.seq ?_
  refine Wp.seq ?_
  refine Wp.region ?_
  refine WpL.step (Stp.rd (Rdo.move rfl) rfl ?_)
  refine WpL.step (Stp.rd (Rdo.eqnil rfl rfl) rfl ?_)
  refine WpL.nil ?_
  refine Thn.n ?_
  refine Wp.condF rfl ?_
  refine Wp.skip ?_
  refine Thn.n ?_
  refine Wp.seq ?_
  refine Wp.region ?_
  refine WpL.step (Stp.rd (Rdo.move rfl) rfl ?_)
  refine WpL.step (Stp.rd (Rdo.bld rfl (BldL.cons rfl (VC.i _ _) (by first | rfl | assumption | (simp <;> done)) (by repeat (first | exact LPut.nil _ | apply LPut.here | apply LPut.next)) (BldL.cons rfl (VC.s _) (by first | rfl | assumption | (simp <;> done)) (by repeat (first | exact LPut.nil _ | apply LPut.here | apply LPut.next)) (BldL.nil _)))) rfl ?_)
  refine WpL.step (Stp.call (s1 _) (by kernel_rfl) rfl (by repeat (first | exact Tk.nil | apply Tk.cons (by repeat (first | exact Pk.here | apply Pk.next)))) rfl ?_)
  rintro _ _ ⟨v28_0, ⟨v28_1, ⟨v28_2, ⟨rfl, rfl⟩⟩⟩⟩
  refine WpL.lst (by simp only [List.cons_append, List.nil_append]; exact rfl) ?_
  refine WpL.step (Stp.rd (Rdo.move rfl) rfl ?_)
  refine WpL.step (Stp.rd (Rdo.extract rfl rfl) rfl ?_)
  refine WpL.step (Stp.rd (Rdo.extract rfl rfl) rfl ?_)
  (refine WpL.step (Stp.alloc rfl ?_); intro nb33)
  refine WpL.step (Stp.storeV rfl rfl (VC.ag _) (by first | rfl | assumption | (simp <;> done)) (by repeat (first | (apply Sts.all; (focus (first | rfl | assumption | (simp <;> done))); (focus (first | exact oneCells1 rfl | assumption | exact oneCells1 (by assumption) | ((repeat (first | assumption | exact oneCells_nil | exact oneCells_bytesC _ | (apply oneCells_cons; (focus (first | rfl | assumption))) | apply oneCells_append)); done) | (simp [oneCells, Value.oneCell'] <;> done)))) | (apply Sts.lp (by repeat (first | exact LPut.nil _ | apply LPut.here | apply LPut.next)); (focus (first | exact oneCells1 rfl | assumption | exact oneCells1 (by assumption) | ((repeat (first | assumption | exact oneCells_nil | exact oneCells_bytesC _ | (apply oneCells_cons; (focus (first | rfl | assumption))) | apply oneCells_append)); done) | (simp [oneCells, Value.oneCell'] <;> done)))) | (refine Sts.row1 (by first | assumption | omega | (simp <;> omega)) (by first | rfl | assumption)) | (refine Sts.rowP (by assumption) (by first | rfl | assumption | (simp <;> done)) (by rfl) (by (first | exact oneCells1 rfl | assumption | exact oneCells1 (by assumption) | ((repeat (first | assumption | exact oneCells_nil | exact oneCells_bytesC _ | (apply oneCells_cons; (focus (first | rfl | assumption))) | apply oneCells_append)); done) | (simp [oneCells, Value.oneCell'] <;> done)))) | apply Sts.next)) ?_)
  refine WpL.step (Stp.rd (Rdo.assign rfl) rfl ?_)
  refine WpL.nil ?_
  refine Thn.n ?_
  refine Wp.seq ?_
  refine Wp.region ?_
  refine WpL.step (Stp.rd (Rdo.move rfl) rfl ?_)
  refine WpL.step (Stp.rd (Rdo.bld rfl (BldL.cons rfl (VC.i _ _) (by first | rfl | assumption | (simp <;> done)) (by repeat (first | exact LPut.nil _ | apply LPut.here | apply LPut.next)) (BldL.cons rfl (VC.i _ _) (by first | rfl | assumption | (simp <;> done)) (by repeat (first | exact LPut.nil _ | apply LPut.here | apply LPut.next)) (BldL.cons rfl (VC.i _ _) (by first | rfl | assumption | (simp <;> done)) (by repeat (first | exact LPut.nil _ | apply LPut.here | apply LPut.next)) (BldL.nil _))))) rfl ?_)
  refine WpL.step (Stp.call (s2 _) (by kernel_rfl) rfl (by repeat (first | exact Tk.nil | apply Tk.cons (by repeat (first | exact Pk.here | apply Pk.next)))) rfl ?_)
  rintro _ _ ⟨v43_0, ⟨v43_1, ⟨rfl, rfl⟩⟩⟩
  refine WpL.lst (by simp only [List.cons_append, List.nil_append]; exact rfl) ?_
  refine WpL.nil ?_
  refine Thn.n ?_
  refine Wp.seq ?_
  refine Wp.region ?_
  refine WpL.step (Stp.rd (Rdo.move rfl) rfl ?_)
  refine WpL.step (Stp.rd (Rdo.bld rfl (BldL.cons rfl (VC.i _ _) (by first | rfl | assumption | (simp <;> done)) (by repeat (first | exact LPut.nil _ | apply LPut.here | apply LPut.next)) (BldL.cons rfl (VC.i _ _) (by first | rfl | assumption | (simp <;> done)) (by repeat (first | exact LPut.nil _ | apply LPut.here | apply LPut.next)) (BldL.cons rfl (VC.i _ _) (by first | rfl | assumption | (simp <;> done)) (by repeat (first | exact LPut.nil _ | apply LPut.here | apply LPut.next)) (BldL.cons rfl (VC.b _) (by first | rfl | assumption | (simp <;> done)) (by repeat (first | exact LPut.nil _ | apply LPut.here | apply LPut.next)) (BldL.nil _)))))) rfl ?_)
  refine WpL.step (Stp.call (s3 _) (by kernel_rfl) rfl (by repeat (first | exact Tk.nil | apply Tk.cons (by repeat (first | exact Pk.here | apply Pk.next)))) rfl ?_)
  rintro _ _ ⟨v52_0, ⟨v52_1, ⟨v52_2, ⟨rfl, rfl⟩⟩⟩⟩
  refine WpL.lst (by simp only [List.cons_append, List.nil_append]; exact rfl) ?_
  refine WpL.step (Stp.rd (Rdo.move rfl) rfl ?_)
  refine WpL.step (Stp.rd (Rdo.extract rfl rfl) rfl ?_)
  refine WpL.step (Stp.rd (Rdo.extract rfl rfl) rfl ?_)
  (refine WpL.step (Stp.alloc rfl ?_); intro nb57)
  refine WpL.step (Stp.storeV rfl rfl (VC.ag _) (by first | rfl | assumption | (simp <;> done)) (by repeat (first | (apply Sts.all; (focus (first | rfl | assumption | (simp <;> done))); (focus (first | exact oneCells1 rfl | assumption | exact oneCells1 (by assumption) | ((repeat (first | assumption | exact oneCells_nil | exact oneCells_bytesC _ | (apply oneCells_cons; (focus (first | rfl | assumption))) | apply oneCells_append)); done) | (simp [oneCells, Value.oneCell'] <;> done)))) | (apply Sts.lp (by repeat (first | exact LPut.nil _ | apply LPut.here | apply LPut.next)); (focus (first | exact oneCells1 rfl | assumption | exact oneCells1 (by assumption) | ((repeat (first | assumption | exact oneCells_nil | exact oneCells_bytesC _ | (apply oneCells_cons; (focus (first | rfl | assumption))) | apply oneCells_append)); done) | (simp [oneCells, Value.oneCell'] <;> done)))) | (refine Sts.row1 (by first | assumption | omega | (simp <;> omega)) (by first | rfl | assumption)) | (refine Sts.rowP (by assumption) (by first | rfl | assumption | (simp <;> done)) (by rfl) (by (first | exact oneCells1 rfl | assumption | exact oneCells1 (by assumption) | ((repeat (first | assumption | exact oneCells_nil | exact oneCells_bytesC _ | (apply oneCells_cons; (focus (first | rfl | assumption))) | apply oneCells_append)); done) | (simp [oneCells, Value.oneCell'] <;> done)))) | apply Sts.next)) ?_)
  refine WpL.step (Stp.rd (Rdo.assign rfl) rfl ?_)
  refine WpL.nil ?_
  refine Thn.n ?_
  refine Wp.seq ?_
  refine Wp.region ?_
  refine WpL.step (Stp.rd (Rdo.fieldAddr0 rfl) rfl ?_)
  refine WpL.step (Stp.rd (Rdo.load rfl (Lds.next (Lds.next (Lds.next (Lds.next (Lds.one rfl)))))) rfl ?_)
  refine WpL.step (Stp.rd (Rdo.eqi rfl rfl) rfl ?_)
  refine WpL.step (Stp.rd (Rdo.move rfl) rfl ?_)
  refine WpL.want rfl rfl rfl (Stp.rd (Rdo.move rfl) rfl ?_)
  refine WpL.want rfl rfl rfl (Stp.rd (Rdo.lenSlice rfl) rfl ?_)
  refine WpL.want rfl rfl rfl (Stp.rd (Rdo.eqi rfl rfl) rfl ?_)
  refine WpL.step (Stp.rd (Rdo.pick_t rfl rfl) rfl ?_)
  refine WpL.step (Stp.rd (Rdo.move rfl) rfl ?_)
  refine WpL.want rfl rfl rfl (Stp.rd (Rdo.move rfl) rfl ?_)
  refine WpL.want rfl rfl rfl (Stp.rd (Rdo.indexSliceE (i := 0) rfl rfl rfl (by first | omega | (simp <;> omega))) rfl ?_)
  refine WpL.want rfl rfl rfl (Stp.rd (Rdo.fieldAddr rfl) rfl ?_)
  refine WpL.want rfl rfl rfl (Stp.rd (Rdo.load rfl (Lds.next (Lds.next (Lds.next (Lds.next (Lds.next (Lds.rowF (by assumption)))))))) rfl ?_)
  refine WpL.want rfl rfl rfl (Stp.rd (Rdo.eqi rfl rfl) rfl ?_)
  refine WpL.step (Stp.rd (Rdo.pick_t rfl rfl) rfl ?_)
  refine WpL.step (Stp.rd (Rdo.move rfl) rfl ?_)
  refine WpL.want rfl rfl rfl (Stp.rd (Rdo.move rfl) rfl ?_)
  refine WpL.want rfl rfl rfl (Stp.rd (Rdo.lenSlice rfl) rfl ?_)
  refine WpL.want rfl rfl rfl (Stp.rd (Rdo.eqi rfl rfl) rfl ?_)
  refine WpL.step (Stp.rd (Rdo.pick_t rfl rfl) rfl ?_)
  refine WpL.step (Stp.rd (Rdo.move rfl) rfl ?_)
  refine WpL.want rfl rfl rfl (Stp.rd (Rdo.move rfl) rfl ?_)
  refine WpL.want rfl rfl rfl (Stp.rd (Rdo.indexSliceE (i := 0) rfl rfl rfl (by first | omega | (simp <;> omega))) rfl ?_)
  refine WpL.want rfl rfl rfl (Stp.rd (Rdo.load rfl (Lds.next (Lds.next (Lds.row (by assumption) (by first | assumption | omega | (simp <;> omega)) (by first | assumption | rfl))))) rfl ?_)
  refine WpL.want rfl rfl rfl (Stp.rd (Rdo.bld rfl (BldL.cons rfl (VC.i _ _) (by first | rfl | assumption | (simp <;> done)) (by repeat (first | exact LPut.nil _ | apply LPut.here | apply LPut.next)) (BldL.cons rfl (VC.i _ _) (by first | rfl | assumption | (simp <;> done)) (by repeat (first | exact LPut.nil _ | apply LPut.here | apply LPut.next)) (BldL.nil _)))) rfl ?_)
  refine WpL.want rfl rfl rfl (Stp.rd (Rdo.eqagg rfl rfl (by first | rfl | exact oks_hc _ | exact oks_voteC _ | assumption) (by first | rfl | exact oks_hc _ | exact oks_voteC _ | assumption)) rfl ?_)
  refine WpL.step (Stp.rd (Rdo.pick_t rfl rfl) rfl ?_)
  refine WpL.step (Stp.rd (Rdo.assign rfl) rfl ?_)
  refine WpL.nil ?_
  refine Thn.n ?_
  refine Wp.ret ?_
  refine Ret.now (ResV.tmp rfl ResV.nil) (Gh.tk (by repeat (first | exact Tk.nil | apply Tk.cons (by repeat (first | exact Pk.here | apply Pk.next))))) ⟨(by first | rfl | (simp [packed] <;> done) | (simp_all [packed] <;> done)), rfl⟩
end Go.Proofs.YtccgdnocldmjeaaDoor
