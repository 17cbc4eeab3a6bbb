/- The coordinator: New, and what a nil one tells. -/
import Derived.Test.YtccgdnocldmjeaaDoorCo1
namespace Go.Proofs.YtccgdnocldmjeaaDoor
open Go
set_option maxHeartbeats 4000000
set_option linter.unusedSimpArgs false
set_option linter.unusedVariables false
set_option maxRecDepth 20000

theorem mapA_nil {κ κ' : Type} {enc : κ → Value} {enc' : κ' → Value} {b : Nat} : mapA enc b [] = mapA enc' b [] := by
  funext r
  unfold mapA
  refine propext ⟨?_, ?_⟩
  · rintro ⟨bs, clock, ⟨h1, h2, h3, h4⟩, h5⟩
    exact ⟨bs, clock, ⟨h1, h2, h3, List.nodup_nil⟩, h5⟩
  · rintro ⟨bs, clock, ⟨h1, h2, h3, h4⟩, h5⟩
    exact ⟨bs, clock, ⟨h1, h2, h3, List.nodup_nil⟩, h5⟩
theorem new_ok : Trip Tryd.prog 13 [] [] (fun r l => ∃ b, r = vp b 0 ∧ l = [coA b CoS.new]) := by
  have s1 := Tabprod.new_ok
  refine Trip.of_body Tryd.func13 rfl Tryd.ntmps13 Tryd.results13 rfl ?_
  refine Wp.seq ?_
  refine Wp.region ?_
  refine WpL.step (Stp.rd (Rdo.assign rfl) rfl ?_)
  refine WpL.nil ?_
  refine Thn.n ?_
  refine Wp.seq ?_
  refine Wp.region ?_
  refine WpL.step (Stp.call (s1) (by kernel_rfl) rfl (by repeat (first | exact Tk.nil | apply Tk.cons (by repeat (first | exact Pk.here | apply Pk.next)))) rfl ?_)
  rintro _ _ ⟨v8_0, ⟨v8_1, ⟨rfl, rfl⟩⟩⟩
  refine WpL.lst (by simp only [List.cons_append, List.nil_append]; exact rfl) ?_
  (refine WpL.step (Stp.makeMap0 i64 rfl ?_); intro nb10)
  (refine WpL.step (Stp.makeMap0 i64 rfl ?_); intro nb11)
  refine WpL.step (Stp.rd (Rdo.bld rfl (BldL.cons rfl (VC.p _) (by first | rfl | assumption | (simp <;> done)) (by repeat (first | exact LPut.nil _ | apply LPut.here | apply LPut.next)) (BldL.cons rfl (VC.m _) (by first | rfl | assumption | (simp <;> done)) (by repeat (first | exact LPut.nil _ | apply LPut.here | apply LPut.next)) (BldL.cons rfl (VC.m _) (by first | rfl | assumption | (simp <;> done)) (by repeat (first | exact LPut.nil _ | apply LPut.here | apply LPut.next)) (BldL.nil _))))) rfl ?_)
  (refine WpL.step (Stp.boxV rfl (VC.ag _) rfl ?_); intro nb13)
  refine WpL.step (Stp.rd (Rdo.assign rfl) rfl ?_)
  refine WpL.nil ?_
  refine Thn.n ?_
  refine Wp.ret ?_
  refine Ret.now (by repeat (first | exact ResV.nil | apply ResV.tmp rfl | apply ResV.cell rfl (by repeat (first | exact Lds.one rfl | (apply Lds.all; (first | rfl | assumption | (simp <;> fail))) | exact Lds.ione0 | exact Lds.ione rfl | (apply Lds.iall; (first | rfl | assumption | (simp <;> fail))) | apply Lds.next)))) (Gh.trans (Gh.nil 36 4) ?_) ⟨nb13, rfl, rfl⟩
  rw [mapA_nil (b := nb11) (enc := i64) (enc' := askV), mapA_nil (b := nb10) (enc := i64) (enc' := markV)]
  refine Gh.mk fun F w hl => ?_
  have h2 := Holds.shut_pure (φ := ([] : List Nat).length = ([] : List Prod).length) rfl hl
  have h3 : Gh (pureH (([] : List Nat).length = ([] : List Prod).length) :: [rowA 36 4 (.slice none 0 0) 0 [], cel nb13 64 [.pointer (some ⟨v8_0, 0, none⟩), .slice none 0 0, .map (some nb10), .map (some nb11), .int .i64 0], mapA askV nb11 [], mapA markV nb10 [], cel v8_0 83 [.map (some v8_1)], mapA i64 v8_1 []]) [coA nb13 CoS.new] := by
    have hp : ∀ l, Gh l (prodsA [] [] :: l) := fun l => Gh.mk fun F w h => Holds.shut_star (l := []) h
    refine Gh.trans (hp _) ?_
    have g := Gh.shut (rest := []) (l := [cel nb13 64 [.pointer (some ⟨v8_0, 0, none⟩), .slice none 0 0, .map (some nb10), .map (some nb11), .int .i64 0], cel v8_0 83 [.map (some v8_1)], mapA i64 v8_1 [], prodsA [] [], rowA 36 4 (.slice none 0 0) 0 [], mapA markV nb10 [], mapA askV nb11 [], pureH (([] : List Nat).length = ([] : List Prod).length)])
      (f := coL nb13 CoS.new) ⟨v8_0, v8_1, nb10, nb11, [], .slice none 0 0⟩ (Tk.cons Pk.here (Tk.cons Pk.here (Tk.cons Pk.here (Tk.cons Pk.here (Tk.cons Pk.here (Tk.cons Pk.here (Tk.cons Pk.here (Tk.cons Pk.here Tk.nil))))))))
    exact Gh.trans (Gh.tk (by repeat (first | exact Tk.nil | apply Tk.cons (by repeat (first | exact Pk.here | apply Pk.next))))) g
  exact h3.use h2
theorem marks_nil : Trip Tryd.prog 16 [.pointer none] [] (fun r l => r = vnil ∧ l = []) := by
  refine Trip.of_body Tryd.func16 rfl Tryd.ntmps16 Tryd.results16 rfl ?_
  refine Wp.seq ?_
  refine Wp.region ?_
  refine WpL.step (Stp.rd (Rdo.assign rfl) rfl ?_)
  refine WpL.nil ?_
  refine Thn.n ?_
  refine Wp.seq ?_
  refine Wp.seq ?_
  refine Wp.region ?_
  refine WpL.step (Stp.rd (Rdo.move rfl) rfl ?_)
  refine WpL.step (Stp.rd (Rdo.eqnil rfl rfl) rfl ?_)
  refine WpL.nil ?_
  refine Thn.n ?_
  refine Wp.condT rfl ?_
  refine Wp.seq ?_
  refine Wp.region ?_
  refine WpL.step (Stp.rd (Rdo.assign rfl) rfl ?_)
  refine WpL.nil ?_
  refine Thn.n ?_
  refine Wp.ret ?_
  refine Thn.r ?_
  refine Ret.now (ResV.tmp rfl ResV.nil) (Gh.tk (by repeat (first | exact Tk.nil | apply Tk.cons (by repeat (first | exact Pk.here | apply Pk.next))))) ⟨rfl, rfl⟩
theorem now_nil : Trip Tryd.prog 18 [.pointer none] [] (fun r l => r = vi 0 ∧ l = []) := by
  refine Trip.of_body Tryd.func18 rfl Tryd.ntmps18 Tryd.results18 rfl ?_
  refine Wp.seq ?_
  refine Wp.region ?_
  refine WpL.step (Stp.rd (Rdo.assign rfl) rfl ?_)
  refine WpL.nil ?_
  refine Thn.n ?_
  refine Wp.seq ?_
  refine Wp.seq ?_
  refine Wp.region ?_
  refine WpL.step (Stp.rd (Rdo.move rfl) rfl ?_)
  refine WpL.step (Stp.rd (Rdo.eqnil rfl rfl) rfl ?_)
  refine WpL.nil ?_
  refine Thn.n ?_
  refine Wp.condT rfl ?_
  refine Wp.seq ?_
  refine Wp.region ?_
  refine WpL.step (Stp.rd (Rdo.assign rfl) rfl ?_)
  refine WpL.nil ?_
  refine Thn.n ?_
  refine Wp.ret ?_
  refine Thn.r ?_
  refine Ret.now (ResV.tmp rfl ResV.nil) (Gh.tk (by repeat (first | exact Tk.nil | apply Tk.cons (by repeat (first | exact Pk.here | apply Pk.next))))) ⟨rfl, rfl⟩
theorem producer_nil (n : Int) : Trip Tryd.prog 27 [.pointer none, vi n] [] (fun r l => r = .pointer none ∧ l = []) := by
  refine Trip.of_body Tryd.func27 rfl Tryd.ntmps27 Tryd.results27 rfl ?_
  refine Wp.seq ?_
  refine Wp.region ?_
  refine WpL.step (Stp.rd (Rdo.assign rfl) rfl ?_)
  refine WpL.nil ?_
  refine Thn.n ?_
  refine Wp.seq ?_
  refine Wp.seq ?_
  refine Wp.region ?_
  refine WpL.step (Stp.rd (Rdo.move rfl) rfl ?_)
  refine WpL.step (Stp.rd (Rdo.eqnil rfl rfl) rfl ?_)
  refine WpL.nil ?_
  refine Thn.n ?_
  refine Wp.condT rfl ?_
  refine Wp.seq ?_
  refine Wp.region ?_
  refine WpL.step (Stp.rd (Rdo.assign rfl) rfl ?_)
  refine WpL.nil ?_
  refine Thn.n ?_
  refine Wp.ret ?_
  refine Thn.r ?_
  refine Ret.now (ResV.tmp rfl ResV.nil) (Gh.tk (by repeat (first | exact Tk.nil | apply Tk.cons (by repeat (first | exact Pk.here | apply Pk.next))))) ⟨rfl, rfl⟩
theorem epoch_nil (n : Int) : Trip Tryd.prog 20 [.pointer none, vi n] [] (fun r l => r = .tuple #[vi 0, vb false] ∧ l = []) := by
  refine Trip.of_body Tryd.func20 rfl Tryd.ntmps20 Tryd.results20 rfl ?_
  refine Wp.seq ?_
  refine Wp.region ?_
  refine WpL.step (Stp.rd (Rdo.assign rfl) rfl ?_)
  refine WpL.step (Stp.rd (Rdo.assign rfl) rfl ?_)
  refine WpL.nil ?_
  refine Thn.n ?_
  refine Wp.seq ?_
  refine Wp.region ?_
  refine WpL.step (Stp.rd (Rdo.move rfl) rfl ?_)
  refine WpL.step (Stp.rd (Rdo.move rfl) rfl ?_)
  refine WpL.step (Stp.call (producer_nil _) (by kernel_rfl) rfl (by repeat (first | exact Tk.nil | apply Tk.cons (by repeat (first | exact Pk.here | apply Pk.next)))) rfl ?_)
  rintro _ _ ⟨rfl, rfl⟩
  refine WpL.lst (by simp only [List.cons_append, List.nil_append]; exact rfl) ?_
  refine WpL.step (Stp.rd (Rdo.assign rfl) rfl ?_)
  refine WpL.nil ?_
  refine Thn.n ?_
  refine Wp.seq ?_
  refine Wp.seq ?_
  refine Wp.region ?_
  refine WpL.step (Stp.rd (Rdo.move rfl) rfl ?_)
  refine WpL.step (Stp.rd (Rdo.eqnil rfl rfl) rfl ?_)
  refine WpL.nil ?_
  refine Thn.n ?_
  refine Wp.condT rfl ?_
  refine Wp.seq ?_
  refine Wp.region ?_
  refine WpL.step (Stp.rd (Rdo.assign rfl) rfl ?_)
  refine WpL.step (Stp.rd (Rdo.assign rfl) rfl ?_)
  refine WpL.nil ?_
  refine Thn.n ?_
  refine Wp.ret ?_
  refine Thn.r ?_
  refine Ret.now (ResV.tmp rfl (ResV.tmp rfl ResV.nil)) (Gh.tk (by repeat (first | exact Tk.nil | apply Tk.cons (by repeat (first | exact Pk.here | apply Pk.next))))) ⟨rfl, rfl⟩
theorem open_nil (n : Int) : Trip Tryd.prog 17 [.pointer none, vi n] [] (fun r l => r = .tuple #[vi 0, vnil, vb false] ∧ l = []) := by
  refine Trip.of_body Tryd.func17 rfl Tryd.ntmps17 Tryd.results17 rfl ?_
  refine Wp.seq ?_
  refine Wp.region ?_
  refine WpL.step (Stp.rd (Rdo.assign rfl) rfl ?_)
  refine WpL.step (Stp.rd (Rdo.assign rfl) rfl ?_)
  refine WpL.step (Stp.rd (Rdo.assign rfl) rfl ?_)
  refine WpL.nil ?_
  refine Thn.n ?_
  refine Wp.seq ?_
  refine Wp.region ?_
  refine WpL.step (Stp.rd (Rdo.move rfl) rfl ?_)
  refine WpL.step (Stp.rd (Rdo.move rfl) rfl ?_)
  refine WpL.step (Stp.call (producer_nil _) (by kernel_rfl) rfl (by repeat (first | exact Tk.nil | apply Tk.cons (by repeat (first | exact Pk.here | apply Pk.next)))) rfl ?_)
  rintro _ _ ⟨rfl, rfl⟩
  refine WpL.lst (by simp only [List.cons_append, List.nil_append]; exact rfl) ?_
  refine WpL.step (Stp.rd (Rdo.assign rfl) rfl ?_)
  refine WpL.nil ?_
  refine Thn.n ?_
  refine Wp.seq ?_
  refine Wp.seq ?_
  refine Wp.region ?_
  refine WpL.step (Stp.rd (Rdo.move rfl) rfl ?_)
  refine WpL.step (Stp.rd (Rdo.eqnil rfl rfl) rfl ?_)
  refine WpL.step (Stp.rd (Rdo.move rfl) rfl ?_)
  refine WpL.pass rfl rfl rfl rfl ?_
  refine WpL.pass rfl rfl rfl rfl ?_
  refine WpL.pass rfl rfl rfl rfl ?_
  refine WpL.pass rfl rfl rfl rfl ?_
  refine WpL.pass rfl rfl rfl rfl ?_
  refine WpL.step (Stp.rd (Rdo.pick_t rfl rfl) rfl ?_)
  refine WpL.nil ?_
  refine Thn.n ?_
  refine Wp.condT rfl ?_
  refine Wp.seq ?_
  refine Wp.region ?_
  refine WpL.step (Stp.rd (Rdo.assign rfl) rfl ?_)
  refine WpL.step (Stp.rd (Rdo.assign rfl) rfl ?_)
  refine WpL.step (Stp.rd (Rdo.assign rfl) rfl ?_)
  refine WpL.nil ?_
  refine Thn.n ?_
  refine Wp.ret ?_
  refine Thn.r ?_
  refine Ret.now (ResV.tmp rfl (ResV.tmp rfl (ResV.tmp rfl ResV.nil))) (Gh.tk (by repeat (first | exact Tk.nil | apply Tk.cons (by repeat (first | exact Pk.here | apply Pk.next))))) ⟨rfl, rfl⟩
end Go.Proofs.YtccgdnocldmjeaaDoor
