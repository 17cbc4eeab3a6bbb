/- CoordFences, walked. -/
import Derived.Test.YtccgdnocldmjeaaDoorFenP
import Derived.Test.YtccgdnocldmjeaaDoorTop
namespace Go.Proofs.YtccgdnocldmjeaaDoor
open Go
set_option maxHeartbeats 4000000
set_option linter.unusedSimpArgs false
set_option linter.unusedVariables false
set_option maxRecDepth 20000

def notF (o : Go.Proofs.YtccgdnocldmjeaaDoor.Op) : Bool := Decidable.decide (¬ o.client = 15)
def fen (ops : List Go.Proofs.YtccgdnocldmjeaaDoor.Op) : CoS := run CoS.new (ops.filter notF)
theorem fen_snocY {ops : List Go.Proofs.YtccgdnocldmjeaaDoor.Op} {i : Nat} {o : Go.Proofs.YtccgdnocldmjeaaDoor.Op} (h : ops[i]? = some o) (hc : ¬ o.client = 15) : fen (ops.take (i + 1)) = ((fen (ops.take i)).apply o).2.2 := by
  unfold fen
  rw [List.take_add_one, h, Option.toList_some, List.filter_append, List.filter_cons, if_pos (by simp [notF, hc]), List.filter_nil, run_snoc]
theorem fen_snocN {ops : List Go.Proofs.YtccgdnocldmjeaaDoor.Op} {i : Nat} {o : Go.Proofs.YtccgdnocldmjeaaDoor.Op} (h : ops[i]? = some o) (hc : o.client = 15) : fen (ops.take (i + 1)) = fen (ops.take i) := by
  unfold fen
  rw [List.take_add_one, h, Option.toList_some, List.filter_append, List.filter_cons, if_neg (by simp [notF, hc]), List.filter_nil, List.append_nil]
theorem fen_Ok (ops : List Go.Proofs.YtccgdnocldmjeaaDoor.Op) (h : ops.length ≤ 40) : (fen ops).Ok 40 := by
  have h1 := run_Ok (ops.filter notF) CoS.Ok.new
  have h2 := List.length_filter_le notF ops
  exact h1.mono (by omega)
theorem run_NoAns (ops : List Go.Proofs.YtccgdnocldmjeaaDoor.Op) : ∀ {c : CoS}, NoAns c 15 1 → (∀ o ∈ ops, ¬ o.client = 15) → NoAns (run c ops) 15 1 := by
  induction ops with
  | nil => intro c h _; exact h
  | cons o ops ih =>
    intro c h ho
    exact ih (h.apply o (fun hh => ho o (by simp) hh.1)) (fun x hx => ho x (by simp [hx]))
theorem fen_NoAns (ops : List Go.Proofs.YtccgdnocldmjeaaDoor.Op) : NoAns (fen ops) 15 1 := run_NoAns _ (by intro x hx; cases hx) fun o ho => by
  have := (List.mem_filter.1 ho).2
  simpa [notF] using this

abbrev fenE (v : Value) (t : Int) (cm : Bool) (b i : Nat) : Env := [(0, v), (1, vi t), (2, vb cm), (7, vp b 0), (8, vi i)]
theorem fenLaw_ok (v : Value) (ops : List Go.Proofs.YtccgdnocldmjeaaDoor.Op) (t : Int) (cm : Bool) (hl : ops.length * 80 ≤ reachBytes) : Trip Tryd.prog 3 [v, vi t, vb cm] [opsF v ops] (fun r _ => r = vb true) := by
  have hR : reachBytes = 140737488351232 := by decide
  refine Trip.get Pk.here shape_rdsl ?_
  rintro ⟨a1, c1, rfl⟩
  have s0 := long_ok (.slice a1 ops.length c1) ops (by omega)
  by_cases h40 : (ops.length : Int) > 40
  · refine Trip.of_body Tryd.func3 rfl Tryd.ntmps3 Tryd.results3 rfl ?_
    refine Wp.seq ?_
    refine Wp.region ?_
    refine WpL.step (Stp.rd (Rdo.assign rfl) rfl ?_)
    refine WpL.nil ?_
    refine Thn.n ?_
    refine Wp.seq ?_
    refine Wp.seq ?_
    refine Wp.region ?_
    refine WpL.step (Stp.rd (Rdo.move rfl) rfl ?_)
    refine WpL.step (Stp.call (s0) (by kernel_rfl) rfl (by repeat (first | exact Tk.nil | apply Tk.cons (by repeat (first | exact Pk.here | apply Pk.next)))) rfl ?_)
    rintro _ _ ⟨v10_0, ⟨rfl, rfl⟩⟩
    refine WpL.lst (by simp only [List.cons_append, List.nil_append]; exact rfl) ?_
    refine WpL.step (Stp.rd (Rdo.move rfl) rfl ?_)
    refine WpL.gB rfl rfl (fun c13 => ?_) (fun c13 => ?_)
    refine WpL.pass rfl rfl rfl rfl ?_
    refine WpL.pass rfl rfl rfl rfl ?_
    refine WpL.pass rfl rfl rfl rfl ?_
    refine WpL.step (Stp.rd (Rdo.pick_t rfl rfl) rfl ?_)
    refine WpL.step (Stp.rd (Rdo.move rfl) rfl ?_)
    refine WpL.pass rfl rfl rfl rfl ?_
    refine WpL.pass rfl rfl rfl rfl ?_
    refine WpL.step (Stp.rd (Rdo.pick_t rfl rfl) rfl ?_)
    refine WpL.step (Stp.rd (Rdo.move rfl) rfl ?_)
    refine WpL.pass rfl rfl rfl rfl ?_
    refine WpL.pass rfl rfl rfl rfl ?_
    refine WpL.step (Stp.rd (Rdo.pick_t rfl rfl) rfl ?_)
    refine WpL.nil ?_
    refine Thn.n ?_
    refine Wp.condT rfl ?_
    refine Wp.seq ?_
    refine Wp.region ?_
    refine WpL.step (Stp.rd (Rdo.assign rfl) rfl ?_)
    refine WpL.nil ?_
    refine Thn.n ?_
    refine Wp.ret ?_
    refine Thn.r ?_
    refine Ret.now (ResV.tmp rfl ResV.nil) (Gh.tk (by repeat (first | exact Tk.nil | apply Tk.cons (by repeat (first | exact Pk.here | apply Pk.next))))) rfl
    refine WpL.want rfl rfl rfl (Stp.rd (Rdo.move rfl) rfl ?_)
    refine WpL.want rfl rfl rfl (Stp.rd (Rdo.lenSlice rfl) rfl ?_)
    refine WpL.want rfl rfl rfl (Stp.rd (Rdo.gti rfl rfl) rfl ?_)
    refine WpL.step (Stp.rd (Rdo.pick_f rfl rfl) rfl ?_)
    refine WpL.step (Stp.rd (Rdo.move rfl) rfl ?_)
    refine WpL.gT rfl rfl (by first | rfl | assumption | (simp only [decide_eq_true_eq, decide_eq_false_iff_not, Bool.not_eq_true', Bool.not_eq_false', List.length_cons, List.length_nil]; first | assumption | omega) | (simp <;> done) | (simp <;> omega)) ?_
    refine WpL.pass rfl rfl rfl rfl ?_
    refine WpL.pass rfl rfl rfl rfl ?_
    refine WpL.step (Stp.rd (Rdo.pick_t rfl rfl) rfl ?_)
    refine WpL.step (Stp.rd (Rdo.move rfl) rfl ?_)
    refine WpL.pass rfl rfl rfl rfl ?_
    refine WpL.pass rfl rfl rfl rfl ?_
    refine WpL.step (Stp.rd (Rdo.pick_t rfl rfl) rfl ?_)
    refine WpL.nil ?_
    refine Thn.n ?_
    refine Wp.condT rfl ?_
    refine Wp.seq ?_
    refine Wp.region ?_
    refine WpL.step (Stp.rd (Rdo.assign rfl) rfl ?_)
    refine WpL.nil ?_
    refine Thn.n ?_
    refine Wp.ret ?_
    refine Thn.r ?_
    refine Ret.now (ResV.tmp rfl ResV.nil) (Gh.tk (by repeat (first | exact Tk.nil | apply Tk.cons (by repeat (first | exact Pk.here | apply Pk.next))))) rfl
  by_cases ht1 : t < 1
  · refine Trip.of_body Tryd.func3 rfl Tryd.ntmps3 Tryd.results3 rfl ?_
    refine Wp.seq ?_
    refine Wp.region ?_
    refine WpL.step (Stp.rd (Rdo.assign rfl) rfl ?_)
    refine WpL.nil ?_
    refine Thn.n ?_
    refine Wp.seq ?_
    refine Wp.seq ?_
    refine Wp.region ?_
    refine WpL.step (Stp.rd (Rdo.move rfl) rfl ?_)
    refine WpL.step (Stp.call (s0) (by kernel_rfl) rfl (by repeat (first | exact Tk.nil | apply Tk.cons (by repeat (first | exact Pk.here | apply Pk.next)))) rfl ?_)
    rintro _ _ ⟨v10_0, ⟨rfl, rfl⟩⟩
    refine WpL.lst (by simp only [List.cons_append, List.nil_append]; exact rfl) ?_
    refine WpL.step (Stp.rd (Rdo.move rfl) rfl ?_)
    refine WpL.gB rfl rfl (fun c13 => ?_) (fun c13 => ?_)
    refine WpL.pass rfl rfl rfl rfl ?_
    refine WpL.pass rfl rfl rfl rfl ?_
    refine WpL.pass rfl rfl rfl rfl ?_
    refine WpL.step (Stp.rd (Rdo.pick_t rfl rfl) rfl ?_)
    refine WpL.step (Stp.rd (Rdo.move rfl) rfl ?_)
    refine WpL.pass rfl rfl rfl rfl ?_
    refine WpL.pass rfl rfl rfl rfl ?_
    refine WpL.step (Stp.rd (Rdo.pick_t rfl rfl) rfl ?_)
    refine WpL.step (Stp.rd (Rdo.move rfl) rfl ?_)
    refine WpL.pass rfl rfl rfl rfl ?_
    refine WpL.pass rfl rfl rfl rfl ?_
    refine WpL.step (Stp.rd (Rdo.pick_t rfl rfl) rfl ?_)
    refine WpL.nil ?_
    refine Thn.n ?_
    refine Wp.condT rfl ?_
    refine Wp.seq ?_
    refine Wp.region ?_
    refine WpL.step (Stp.rd (Rdo.assign rfl) rfl ?_)
    refine WpL.nil ?_
    refine Thn.n ?_
    refine Wp.ret ?_
    refine Thn.r ?_
    refine Ret.now (ResV.tmp rfl ResV.nil) (Gh.tk (by repeat (first | exact Tk.nil | apply Tk.cons (by repeat (first | exact Pk.here | apply Pk.next))))) rfl
    refine WpL.want rfl rfl rfl (Stp.rd (Rdo.move rfl) rfl ?_)
    refine WpL.want rfl rfl rfl (Stp.rd (Rdo.lenSlice rfl) rfl ?_)
    refine WpL.want rfl rfl rfl (Stp.rd (Rdo.gti rfl rfl) rfl ?_)
    refine WpL.step (Stp.rd (Rdo.pick_f rfl rfl) rfl ?_)
    refine WpL.step (Stp.rd (Rdo.move rfl) rfl ?_)
    refine WpL.gF rfl rfl (by first | rfl | assumption | (simp only [decide_eq_true_eq, decide_eq_false_iff_not, Bool.not_eq_true', Bool.not_eq_false', List.length_cons, List.length_nil]; first | assumption | omega) | (simp <;> done) | (simp <;> omega)) ?_
    refine WpL.want rfl rfl rfl (Stp.rd (Rdo.move rfl) rfl ?_)
    refine WpL.want rfl rfl rfl (Stp.rd (Rdo.lti rfl rfl) rfl ?_)
    refine WpL.step (Stp.rd (Rdo.pick_f rfl rfl) rfl ?_)
    refine WpL.step (Stp.rd (Rdo.move rfl) rfl ?_)
    refine WpL.gT rfl rfl (by first | rfl | assumption | (simp only [decide_eq_true_eq, decide_eq_false_iff_not, Bool.not_eq_true', Bool.not_eq_false', List.length_cons, List.length_nil]; first | assumption | omega) | (simp <;> done) | (simp <;> omega)) ?_
    refine WpL.pass rfl rfl rfl rfl ?_
    refine WpL.pass rfl rfl rfl rfl ?_
    refine WpL.step (Stp.rd (Rdo.pick_t rfl rfl) rfl ?_)
    refine WpL.nil ?_
    refine Thn.n ?_
    refine Wp.condT rfl ?_
    refine Wp.seq ?_
    refine Wp.region ?_
    refine WpL.step (Stp.rd (Rdo.assign rfl) rfl ?_)
    refine WpL.nil ?_
    refine Thn.n ?_
    refine Wp.ret ?_
    refine Thn.r ?_
    refine Ret.now (ResV.tmp rfl ResV.nil) (Gh.tk (by repeat (first | exact Tk.nil | apply Tk.cons (by repeat (first | exact Pk.here | apply Pk.next))))) rfl
  by_cases ht3 : t > 3
  · refine Trip.of_body Tryd.func3 rfl Tryd.ntmps3 Tryd.results3 rfl ?_
    refine Wp.seq ?_
    refine Wp.region ?_
    refine WpL.step (Stp.rd (Rdo.assign rfl) rfl ?_)
    refine WpL.nil ?_
    refine Thn.n ?_
    refine Wp.seq ?_
    refine Wp.seq ?_
    refine Wp.region ?_
    refine WpL.step (Stp.rd (Rdo.move rfl) rfl ?_)
    refine WpL.step (Stp.call (s0) (by kernel_rfl) rfl (by repeat (first | exact Tk.nil | apply Tk.cons (by repeat (first | exact Pk.here | apply Pk.next)))) rfl ?_)
    rintro _ _ ⟨v10_0, ⟨rfl, rfl⟩⟩
    refine WpL.lst (by simp only [List.cons_append, List.nil_append]; exact rfl) ?_
    refine WpL.step (Stp.rd (Rdo.move rfl) rfl ?_)
    refine WpL.gB rfl rfl (fun c13 => ?_) (fun c13 => ?_)
    refine WpL.pass rfl rfl rfl rfl ?_
    refine WpL.pass rfl rfl rfl rfl ?_
    refine WpL.pass rfl rfl rfl rfl ?_
    refine WpL.step (Stp.rd (Rdo.pick_t rfl rfl) rfl ?_)
    refine WpL.step (Stp.rd (Rdo.move rfl) rfl ?_)
    refine WpL.pass rfl rfl rfl rfl ?_
    refine WpL.pass rfl rfl rfl rfl ?_
    refine WpL.step (Stp.rd (Rdo.pick_t rfl rfl) rfl ?_)
    refine WpL.step (Stp.rd (Rdo.move rfl) rfl ?_)
    refine WpL.pass rfl rfl rfl rfl ?_
    refine WpL.pass rfl rfl rfl rfl ?_
    refine WpL.step (Stp.rd (Rdo.pick_t rfl rfl) rfl ?_)
    refine WpL.nil ?_
    refine Thn.n ?_
    refine Wp.condT rfl ?_
    refine Wp.seq ?_
    refine Wp.region ?_
    refine WpL.step (Stp.rd (Rdo.assign rfl) rfl ?_)
    refine WpL.nil ?_
    refine Thn.n ?_
    refine Wp.ret ?_
    refine Thn.r ?_
    refine Ret.now (ResV.tmp rfl ResV.nil) (Gh.tk (by repeat (first | exact Tk.nil | apply Tk.cons (by repeat (first | exact Pk.here | apply Pk.next))))) rfl
    refine WpL.want rfl rfl rfl (Stp.rd (Rdo.move rfl) rfl ?_)
    refine WpL.want rfl rfl rfl (Stp.rd (Rdo.lenSlice rfl) rfl ?_)
    refine WpL.want rfl rfl rfl (Stp.rd (Rdo.gti rfl rfl) rfl ?_)
    refine WpL.step (Stp.rd (Rdo.pick_f rfl rfl) rfl ?_)
    refine WpL.step (Stp.rd (Rdo.move rfl) rfl ?_)
    refine WpL.gF rfl rfl (by first | rfl | assumption | (simp only [decide_eq_true_eq, decide_eq_false_iff_not, Bool.not_eq_true', Bool.not_eq_false', List.length_cons, List.length_nil]; first | assumption | omega) | (simp <;> done) | (simp <;> omega)) ?_
    refine WpL.want rfl rfl rfl (Stp.rd (Rdo.move rfl) rfl ?_)
    refine WpL.want rfl rfl rfl (Stp.rd (Rdo.lti rfl rfl) rfl ?_)
    refine WpL.step (Stp.rd (Rdo.pick_f rfl rfl) rfl ?_)
    refine WpL.step (Stp.rd (Rdo.move rfl) rfl ?_)
    refine WpL.gF rfl rfl (by first | rfl | assumption | (simp only [decide_eq_true_eq, decide_eq_false_iff_not, Bool.not_eq_true', Bool.not_eq_false', List.length_cons, List.length_nil]; first | assumption | omega) | (simp <;> done) | (simp <;> omega)) ?_
    refine WpL.want rfl rfl rfl (Stp.rd (Rdo.move rfl) rfl ?_)
    refine WpL.want rfl rfl rfl (Stp.rd (Rdo.gti rfl rfl) rfl ?_)
    refine WpL.step (Stp.rd (Rdo.pick_f rfl rfl) rfl ?_)
    refine WpL.nil ?_
    refine Thn.n ?_
    refine Wp.condK rfl (by first | rfl | assumption | (simp only [decide_eq_true_eq, decide_eq_false_iff_not, Bool.not_eq_true', Bool.not_eq_false', List.length_cons, List.length_nil]; first | assumption | omega) | (simp <;> done) | (simp <;> omega)) ?_
    refine Wp.seq ?_
    refine Wp.region ?_
    refine WpL.step (Stp.rd (Rdo.assign rfl) rfl ?_)
    refine WpL.nil ?_
    refine Thn.n ?_
    refine Wp.ret ?_
    refine Thn.r ?_
    refine Ret.now (ResV.tmp rfl ResV.nil) (Gh.tk (by repeat (first | exact Tk.nil | apply Tk.cons (by repeat (first | exact Pk.here | apply Pk.next))))) rfl
  refine Trip.of_body Tryd.func3 rfl Tryd.ntmps3 Tryd.results3 rfl ?_
  refine Wp.seq ?_
  refine Wp.region ?_
  refine WpL.step (Stp.rd (Rdo.assign rfl) rfl ?_)
  refine WpL.nil ?_
  refine Thn.n ?_
  refine Wp.seq ?_
  refine Wp.seq ?_
  refine Wp.region ?_
  refine WpL.step (Stp.rd (Rdo.move rfl) rfl ?_)
  refine WpL.step (Stp.call (s0) (by kernel_rfl) rfl (by repeat (first | exact Tk.nil | apply Tk.cons (by repeat (first | exact Pk.here | apply Pk.next)))) rfl ?_)
  rintro _ _ ⟨v10_0, ⟨rfl, rfl⟩⟩
  refine WpL.lst (by simp only [List.cons_append, List.nil_append]; exact rfl) ?_
  refine WpL.step (Stp.rd (Rdo.move rfl) rfl ?_)
  refine WpL.gB rfl rfl (fun c13 => ?_) (fun c13 => ?_)
  refine WpL.pass rfl rfl rfl rfl ?_
  refine WpL.pass rfl rfl rfl rfl ?_
  refine WpL.pass rfl rfl rfl rfl ?_
  refine WpL.step (Stp.rd (Rdo.pick_t rfl rfl) rfl ?_)
  refine WpL.step (Stp.rd (Rdo.move rfl) rfl ?_)
  refine WpL.pass rfl rfl rfl rfl ?_
  refine WpL.pass rfl rfl rfl rfl ?_
  refine WpL.step (Stp.rd (Rdo.pick_t rfl rfl) rfl ?_)
  refine WpL.step (Stp.rd (Rdo.move rfl) rfl ?_)
  refine WpL.pass rfl rfl rfl rfl ?_
  refine WpL.pass rfl rfl rfl rfl ?_
  refine WpL.step (Stp.rd (Rdo.pick_t rfl rfl) rfl ?_)
  refine WpL.nil ?_
  refine Thn.n ?_
  refine Wp.condT rfl ?_
  refine Wp.seq ?_
  refine Wp.region ?_
  refine WpL.step (Stp.rd (Rdo.assign rfl) rfl ?_)
  refine WpL.nil ?_
  refine Thn.n ?_
  refine Wp.ret ?_
  refine Thn.r ?_
  refine Ret.now (ResV.tmp rfl ResV.nil) (Gh.tk (by repeat (first | exact Tk.nil | apply Tk.cons (by repeat (first | exact Pk.here | apply Pk.next))))) rfl
  refine WpL.want rfl rfl rfl (Stp.rd (Rdo.move rfl) rfl ?_)
  refine WpL.want rfl rfl rfl (Stp.rd (Rdo.lenSlice rfl) rfl ?_)
  refine WpL.want rfl rfl rfl (Stp.rd (Rdo.gti rfl rfl) rfl ?_)
  refine WpL.step (Stp.rd (Rdo.pick_f rfl rfl) rfl ?_)
  refine WpL.step (Stp.rd (Rdo.move rfl) rfl ?_)
  refine WpL.gF rfl rfl (by first | rfl | assumption | (simp only [decide_eq_true_eq, decide_eq_false_iff_not, Bool.not_eq_true', Bool.not_eq_false', List.length_cons, List.length_nil]; first | assumption | omega) | (simp <;> done) | (simp <;> omega)) ?_
  refine WpL.want rfl rfl rfl (Stp.rd (Rdo.move rfl) rfl ?_)
  refine WpL.want rfl rfl rfl (Stp.rd (Rdo.lti rfl rfl) rfl ?_)
  refine WpL.step (Stp.rd (Rdo.pick_f rfl rfl) rfl ?_)
  refine WpL.step (Stp.rd (Rdo.move rfl) rfl ?_)
  refine WpL.gF rfl rfl (by first | rfl | assumption | (simp only [decide_eq_true_eq, decide_eq_false_iff_not, Bool.not_eq_true', Bool.not_eq_false', List.length_cons, List.length_nil]; first | assumption | omega) | (simp <;> done) | (simp <;> omega)) ?_
  refine WpL.want rfl rfl rfl (Stp.rd (Rdo.move rfl) rfl ?_)
  refine WpL.want rfl rfl rfl (Stp.rd (Rdo.gti rfl rfl) rfl ?_)
  refine WpL.step (Stp.rd (Rdo.pick_f rfl rfl) rfl ?_)
  refine WpL.nil ?_
  refine Thn.n ?_
  refine Wp.condL rfl (by first | rfl | assumption | (simp only [decide_eq_true_eq, decide_eq_false_iff_not, Bool.not_eq_true', Bool.not_eq_false', List.length_cons, List.length_nil]; first | assumption | omega) | (simp <;> done) | (simp <;> omega)) ?_
  refine Wp.skip ?_
  refine Thn.n ?_
  refine Wp.seq ?_
  refine Wp.region ?_
  refine WpL.step (Stp.call (new_ok) (by kernel_rfl) rfl (by repeat (first | exact Tk.nil | apply Tk.cons (by repeat (first | exact Pk.here | apply Pk.next)))) rfl ?_)
  rintro _ _ ⟨v59_0, ⟨rfl, rfl⟩⟩
  refine WpL.lst (by simp only [List.cons_append, List.nil_append]; exact rfl) ?_
  refine WpL.step (Stp.rd (Rdo.assign rfl) rfl ?_)
  refine WpL.nil ?_
  refine Thn.n ?_
  refine Wp.seq ?_
  refine Wp.seq ?_
  refine Wp.region ?_
  refine WpL.step (Stp.rd (Rdo.move rfl) rfl ?_)
  refine WpL.step (Stp.rd (Rdo.eqnil rfl rfl) rfl ?_)
  refine WpL.nil ?_
  refine Thn.n ?_
  refine Wp.condF rfl ?_
  refine Wp.skip ?_
  refine Thn.n ?_
  refine Wp.seq ?_
  refine Wp.seq ?_
  refine Wp.region ?_
  refine WpL.step (Stp.rd (Rdo.assign rfl) rfl ?_)
  refine WpL.nil ?_
  refine Thn.n ?_
  refine Wp.block ?_
  have hto : NmTo ops 80 := v10_0.2 c13
  obtain ⟨b, hb⟩ : ∃ n, n = v59_0 := ⟨_, rfl⟩
  subst hb
  refine Wp.loopE (fun k e h => ∃ i : Nat, i + k = ops.length ∧ e = fenE (.slice a1 ops.length c1) t cm b i ∧ h = [coA b (fen (ops.take i)), opsF (.slice a1 ops.length c1) ops]) ops.length
    (e0 := fenE (.slice a1 ops.length c1) t cm b 0) (l0 := [coA b (fen (ops.take 0)), opsF (.slice a1 ops.length c1) ops]) (by repeat (first | exact trivial | refine ⟨rfl, ?_⟩)) (by repeat (first | exact trivial | refine ⟨rfl, ?_⟩)) (Gh.tk (by repeat (first | exact Tk.nil | apply Tk.cons (by repeat (first | exact Pk.here | apply Pk.next))))) ⟨0, by omega, rfl, rfl⟩ ?_
  rintro k e h ⟨i, hik, rfl, rfl⟩
  by_cases hi : i < ops.length
  · refine Wp.ghE (GhE.elem (R := ROp) (Pk.next Pk.here) i hi) ?_
    rintro ⟨bb, o, cap, cs⟩ ⟨hv, hcs⟩
    simp only [Value.slice.injEq, true_and] at hv
    obtain ⟨rfl, rfl⟩ := hv
    simp only
    refine Wp.get (Pk.next Pk.here) rop_ ?_
    rintro ⟨rfl, -⟩
    have hat : ops[i]? = some ops[i] := List.getElem?_eq_getElem hi
    have hnl := hto i ops[i] (by omega) hat
    generalize ops[i] = x at *
    have hOk := fen_Ok (ops.take i) (by rw [List.length_take]; omega)
    have s3 := apply_ok b (fen (ops.take i)) x (by omega) 40 (by omega) hOk
    by_cases hc : x.client = 15
    · rw [← fen_snocN hat hc]
      refine Wp.seq ?_
      refine Wp.seq ?_
      refine Wp.region ?_
      refine WpL.step (Stp.rd (Rdo.move rfl) rfl ?_)
      refine WpL.step (Stp.rd (Rdo.move rfl) rfl ?_)
      refine WpL.step (Stp.rd (Rdo.lenSlice rfl) rfl ?_)
      refine WpL.step (Stp.rd (Rdo.lti rfl rfl) rfl ?_)
      refine WpL.nil ?_
      refine Thn.n ?_
      refine Wp.condK rfl (by first | rfl | assumption | (simp only [decide_eq_true_eq, decide_eq_false_iff_not, Bool.not_eq_true', Bool.not_eq_false', List.length_cons, List.length_nil]; first | assumption | omega) | (simp <;> done) | (simp <;> omega)) ?_
      refine Wp.skip ?_
      refine Thn.n ?_
      refine Wp.seq ?_
      refine Wp.block ?_
      refine Wp.seq ?_
      refine Wp.region ?_
      refine WpL.step (Stp.rd (Rdo.move rfl) rfl ?_)
      refine WpL.step (Stp.rd (Rdo.move rfl) rfl ?_)
      refine WpL.step (Stp.rd (Rdo.indexSlice rfl rfl (by omega)) rfl ?_)
      refine WpL.step (Stp.rd (Rdo.fieldAddr rfl) rfl ?_)
      refine WpL.step (Stp.rd (Rdo.load rfl (Lds.ione rfl)) rfl ?_)
      refine WpL.step (Stp.rd (Rdo.nei rfl rfl) rfl ?_)
      refine WpL.nil ?_
      refine Thn.n ?_
      refine Wp.condL rfl (by first | rfl | assumption | (simp only [decide_eq_true_eq, decide_eq_false_iff_not, Bool.not_eq_true', Bool.not_eq_false', List.length_cons, List.length_nil]; first | assumption | omega) | (simp <;> done) | (simp <;> omega)) ?_
      refine Wp.skip ?_
      refine Blk.n ?_
      refine Thn.n ?_
      refine Wp.region ?_
      refine WpL.step (Stp.rd (Rdo.move rfl) rfl ?_)
      refine WpL.step (Stp.rd (Rdo.succ rfl rfl (by omega)) rfl ?_)
      refine WpL.step (Stp.rd (Rdo.assign rfl) rfl ?_)
      refine WpL.nil ?_
      refine Thn.n ?_
      exact ⟨k - 1, _, _, by omega, ⟨i + 1, by omega, rfl, rfl⟩, (by repeat (first | exact trivial | refine ⟨rfl, ?_⟩)), Gh.tk (by repeat (first | exact Tk.nil | apply Tk.cons (by repeat (first | exact Pk.here | apply Pk.next))))⟩
    · rw [← fen_snocY hat hc] at s3
      refine Wp.seq ?_
      refine Wp.seq ?_
      refine Wp.region ?_
      refine WpL.step (Stp.rd (Rdo.move rfl) rfl ?_)
      refine WpL.step (Stp.rd (Rdo.move rfl) rfl ?_)
      refine WpL.step (Stp.rd (Rdo.lenSlice rfl) rfl ?_)
      refine WpL.step (Stp.rd (Rdo.lti rfl rfl) rfl ?_)
      refine WpL.nil ?_
      refine Thn.n ?_
      refine Wp.condK rfl (by first | rfl | assumption | (simp only [decide_eq_true_eq, decide_eq_false_iff_not, Bool.not_eq_true', Bool.not_eq_false', List.length_cons, List.length_nil]; first | assumption | omega) | (simp <;> done) | (simp <;> omega)) ?_
      refine Wp.skip ?_
      refine Thn.n ?_
      refine Wp.seq ?_
      refine Wp.block ?_
      refine Wp.seq ?_
      refine Wp.region ?_
      refine WpL.step (Stp.rd (Rdo.move rfl) rfl ?_)
      refine WpL.step (Stp.rd (Rdo.move rfl) rfl ?_)
      refine WpL.step (Stp.rd (Rdo.indexSlice rfl rfl (by omega)) rfl ?_)
      refine WpL.step (Stp.rd (Rdo.fieldAddr rfl) rfl ?_)
      refine WpL.step (Stp.rd (Rdo.load rfl (Lds.ione rfl)) rfl ?_)
      refine WpL.step (Stp.rd (Rdo.nei rfl rfl) rfl ?_)
      refine WpL.nil ?_
      refine Thn.n ?_
      refine Wp.condK rfl (by first | rfl | assumption | (simp only [decide_eq_true_eq, decide_eq_false_iff_not, Bool.not_eq_true', Bool.not_eq_false', List.length_cons, List.length_nil]; first | assumption | omega) | (simp <;> done) | (simp <;> omega)) ?_
      refine Wp.region ?_
      refine WpL.step (Stp.rd (Rdo.move rfl) rfl ?_)
      refine WpL.step (Stp.rd (Rdo.move rfl) rfl ?_)
      refine WpL.step (Stp.rd (Rdo.move rfl) rfl ?_)
      refine WpL.step (Stp.rd (Rdo.indexSlice rfl rfl (by omega)) rfl ?_)
      refine WpL.step (Stp.rd (Rdo.load rfl (by apply Lds.iall; (first | rfl | assumption | (simp <;> fail)))) rfl ?_)
      refine WpL.step (Stp.call (s3) (by kernel_rfl) rfl (by repeat (first | exact Tk.nil | apply Tk.cons (by repeat (first | exact Pk.here | apply Pk.next)))) rfl ?_)
      rintro _ _ ⟨v32_0, ⟨v32_1, ⟨rfl, rfl⟩⟩⟩
      refine WpL.lst (by simp only [List.cons_append, List.nil_append]; exact rfl) ?_
      refine WpL.nil ?_
      refine Blk.n ?_
      refine Thn.n ?_
      refine Wp.region ?_
      refine WpL.step (Stp.rd (Rdo.move rfl) rfl ?_)
      refine WpL.step (Stp.rd (Rdo.succ rfl rfl (by omega)) rfl ?_)
      refine WpL.step (Stp.rd (Rdo.assign rfl) rfl ?_)
      refine WpL.nil ?_
      refine Thn.n ?_
      exact ⟨k - 1, _, _, by omega, ⟨i + 1, by omega, rfl, rfl⟩, (by repeat (first | exact trivial | refine ⟨rfl, ?_⟩)), Gh.tk (by repeat (first | exact Tk.nil | apply Tk.cons (by repeat (first | exact Pk.here | apply Pk.next))))⟩
  · have hfull : ops.take i = ops := List.take_of_length_le (by omega)
    rw [hfull]
    have o0 := fen_Ok ops (by omega)
    have hna := fen_NoAns ops
    have s1 := apply_ok b (fen ops) fO1 (by decide) 40 (by omega) o0
    have o1 := apply_Ok o0 fO1
    obtain ⟨R1, e1⟩ : ∃ R, R = (fen ops).apply fO1 := ⟨_, rfl⟩
    rw [← e1] at s1 o1
    have s2 := apply_ok b R1.2.2 (fO2 R1.1.producer R1.1.epoch) (Nat.zero_le _) 41 (by omega) o1
    have o2 := apply_Ok o1 (fO2 R1.1.producer R1.1.epoch)
    obtain ⟨R2, e2⟩ : ∃ R, R = R1.2.2.apply (fO2 R1.1.producer R1.1.epoch) := ⟨_, rfl⟩
    rw [← e2] at s2 o2
    have s3 := apply_ok b R2.2.2 fO3 (by decide) 42 (by omega) o2
    have s3' := apply_ok1 b R2.2.2 fO3 (by decide) 42 (by omega) o2
    have o3 := apply_Ok o2 fO3
    obtain ⟨R3, e3⟩ : ∃ R, R = R2.2.2.apply fO3 := ⟨_, rfl⟩
    rw [← e3] at s3 s3' o3
    have s4 := apply_ok b R3.2.2 (fO4 R1.1.producer R1.1.epoch t) (Nat.zero_le _) 43 (by omega) o3
    have o4 := apply_Ok o3 (fO4 R1.1.producer R1.1.epoch t)
    obtain ⟨R4, e4⟩ : ∃ R, R = R3.2.2.apply (fO4 R1.1.producer R1.1.epoch t) := ⟨_, rfl⟩
    rw [← e4] at s4 o4
    have s5 := apply_ok b R4.2.2 (fO5 R1.1.producer R1.1.epoch t cm) (Nat.zero_le _) 44 (by omega) o4
    obtain ⟨R5, e5⟩ : ∃ R, R = R4.2.2.apply (fO5 R1.1.producer R1.1.epoch t cm) := ⟨_, rfl⟩
    rw [← e5] at s5
    have hpl := fences_plain o0 hna t ⟨by omega, by omega⟩ cm R1 R2 R3 R4 R5 e1 e2 e3 e4 e5
    clear e1 e2 e3 e4 e5 o0 o1 o2 o3 o4 hna
    obtain ⟨⟨err1, pr, ep⟩, ms1, c1'⟩ := R1
    obtain ⟨⟨err2, pr2, ep2⟩, ms2, c2'⟩ := R2
    obtain ⟨⟨err3, pr3, ep3⟩, ms3, c3'⟩ := R3
    obtain ⟨⟨err4, pr4, ep4⟩, ms4, c4'⟩ := R4
    obtain ⟨⟨err5, pr5, ep5⟩, ms5, c5'⟩ := R5
    simp only at s1 s2 s3 s3' s4 s5 hpl
    rcases hpl with (rfl | rfl) | ⟨rfl, rfl, rfl | ⟨h3, rfl, rfl, rfl, rfl, rfl, hep⟩⟩
    · clear s2 s3 s3' s4 s5
      refine Wp.seq ?_
      refine Wp.seq ?_
      refine Wp.region ?_
      refine WpL.step (Stp.rd (Rdo.move rfl) rfl ?_)
      refine WpL.step (Stp.rd (Rdo.move rfl) rfl ?_)
      refine WpL.step (Stp.rd (Rdo.lenSlice rfl) rfl ?_)
      refine WpL.step (Stp.rd (Rdo.lti rfl rfl) rfl ?_)
      refine WpL.nil ?_
      refine Thn.n ?_
      refine Wp.condL rfl (by first | rfl | assumption | (simp only [decide_eq_true_eq, decide_eq_false_iff_not, Bool.not_eq_true', Bool.not_eq_false', List.length_cons, List.length_nil]; first | assumption | omega) | (simp <;> done) | (simp <;> omega)) ?_
      refine Wp.exit ?_
      refine Thn.x ?_
      refine Thn.x ?_
      refine Blk.here ?_
      refine Thn.n ?_
      refine Wp.seq ?_
      refine Wp.region ?_
      refine WpL.step (Stp.rd (Rdo.move rfl) rfl ?_)
      refine WpL.step (Stp.rd (Rdo.bld rfl (BldL.cons rfl (VC.i _ _) (by first | rfl | assumption | (simp <;> done)) (by repeat (first | exact LPut.nil _ | apply LPut.here | apply LPut.next)) (BldL.cons rfl (VC.i _ _) (by first | rfl | assumption | (simp <;> done)) (by repeat (first | exact LPut.nil _ | apply LPut.here | apply LPut.next)) (BldL.cons rfl (VC.i _ _) (by first | rfl | assumption | (simp <;> done)) (by repeat (first | exact LPut.nil _ | apply LPut.here | apply LPut.next)) (BldL.cons rfl (VC.s _) (by first | rfl | assumption | (simp <;> done)) (by repeat (first | exact LPut.nil _ | apply LPut.here | apply LPut.next)) (BldL.nil _)))))) rfl ?_)
      refine WpL.step (Stp.call (s1) (by kernel_rfl) rfl (by repeat (first | exact Tk.nil | apply Tk.cons (by repeat (first | exact Pk.here | apply Pk.next)))) rfl ?_)
      rintro _ _ ⟨v20_0, ⟨v20_1, ⟨rfl, rfl⟩⟩⟩
      refine WpL.lst (by simp only [List.cons_append, List.nil_append]; exact rfl) ?_
      refine WpL.step (Stp.rd (Rdo.move rfl) rfl ?_)
      refine WpL.step (Stp.rd (Rdo.extract rfl rfl) rfl ?_)
      refine WpL.step (Stp.rd (Rdo.extract rfl rfl) rfl ?_)
      (refine WpL.step (Stp.alloc rfl ?_); intro nb25)
      refine WpL.step (Stp.storeV rfl rfl (VC.ag _) (by first | rfl | assumption | (simp <;> done)) (by repeat (first | (apply Sts.all; (focus (first | rfl | assumption | (simp <;> done))); (focus (first | exact oneCells1 rfl | assumption | exact oneCells1 (by assumption) | ((repeat (first | assumption | exact oneCells_nil | exact oneCells_bytesC _ | (apply oneCells_cons; (focus (first | rfl | assumption))) | apply oneCells_append)); done) | (simp [oneCells, Value.oneCell'] <;> done)))) | (apply Sts.lp (by repeat (first | exact LPut.nil _ | apply LPut.here | apply LPut.next)); (focus (first | exact oneCells1 rfl | assumption | exact oneCells1 (by assumption) | ((repeat (first | assumption | exact oneCells_nil | exact oneCells_bytesC _ | (apply oneCells_cons; (focus (first | rfl | assumption))) | apply oneCells_append)); done) | (simp [oneCells, Value.oneCell'] <;> done)))) | (refine Sts.row1 (by first | assumption | omega | (simp <;> omega)) (by first | rfl | assumption)) | (refine Sts.rowP (by assumption) (by first | rfl | assumption | (simp <;> done)) (by rfl) (by (first | exact oneCells1 rfl | assumption | exact oneCells1 (by assumption) | ((repeat (first | assumption | exact oneCells_nil | exact oneCells_bytesC _ | (apply oneCells_cons; (focus (first | rfl | assumption))) | apply oneCells_append)); done) | (simp [oneCells, Value.oneCell'] <;> done)))) | apply Sts.next)) ?_)
      refine WpL.step (Stp.rd (Rdo.assign rfl) rfl ?_)
      refine WpL.nil ?_
      refine Thn.n ?_
      refine Wp.seq ?_
      refine Wp.seq ?_
      refine Wp.region ?_
      refine WpL.step (Stp.rd (Rdo.fieldAddr0 rfl) rfl ?_)
      refine WpL.step (Stp.rd (Rdo.load rfl (Lds.one rfl)) rfl ?_)
      refine WpL.step (Stp.rd (Rdo.nei rfl rfl) rfl ?_)
      refine WpL.nil ?_
      refine Thn.n ?_
      refine Wp.condT rfl ?_
      refine Wp.seq ?_
      refine Wp.region ?_
      refine WpL.step (Stp.rd (Rdo.fieldAddr0 rfl) rfl ?_)
      refine WpL.step (Stp.rd (Rdo.load rfl (Lds.one rfl)) rfl ?_)
      refine WpL.step (Stp.rd (Rdo.eqi rfl rfl) rfl ?_)
      refine WpL.step (Stp.rd (Rdo.move rfl) rfl ?_)
      refine WpL.pass rfl rfl rfl rfl ?_
      refine WpL.pass rfl rfl rfl rfl ?_
      refine WpL.pass rfl rfl rfl rfl ?_
      refine WpL.step (Stp.rd (Rdo.pick_t rfl rfl) rfl ?_)
      refine WpL.step (Stp.rd (Rdo.move rfl) rfl ?_)
      refine WpL.want rfl rfl rfl (Stp.call (known_ok) (by kernel_rfl) rfl (by repeat (first | exact Tk.nil | apply Tk.cons (by repeat (first | exact Pk.here | apply Pk.next)))) rfl ?_)
      rintro _ _ ⟨rfl, rfl⟩
      refine WpL.lst (by simp only [List.cons_append, List.nil_append]; exact rfl) ?_
      refine WpL.step (Stp.rd (Rdo.pick_t rfl rfl) rfl ?_)
      refine WpL.step (Stp.rd (Rdo.assign rfl) rfl ?_)
      refine WpL.nil ?_
      refine Thn.n ?_
      refine Wp.ret ?_
      refine Thn.r ?_
      refine Ret.now (ResV.tmp rfl ResV.nil) (Gh.tk (by repeat (first | exact Tk.nil | apply Tk.cons (by repeat (first | exact Pk.here | apply Pk.next))))) rfl
    · clear s2 s3 s3' s4 s5
      refine Wp.seq ?_
      refine Wp.seq ?_
      refine Wp.region ?_
      refine WpL.step (Stp.rd (Rdo.move rfl) rfl ?_)
      refine WpL.step (Stp.rd (Rdo.move rfl) rfl ?_)
      refine WpL.step (Stp.rd (Rdo.lenSlice rfl) rfl ?_)
      refine WpL.step (Stp.rd (Rdo.lti rfl rfl) rfl ?_)
      refine WpL.nil ?_
      refine Thn.n ?_
      refine Wp.condL rfl (by first | rfl | assumption | (simp only [decide_eq_true_eq, decide_eq_false_iff_not, Bool.not_eq_true', Bool.not_eq_false', List.length_cons, List.length_nil]; first | assumption | omega) | (simp <;> done) | (simp <;> omega)) ?_
      refine Wp.exit ?_
      refine Thn.x ?_
      refine Thn.x ?_
      refine Blk.here ?_
      refine Thn.n ?_
      refine Wp.seq ?_
      refine Wp.region ?_
      refine WpL.step (Stp.rd (Rdo.move rfl) rfl ?_)
      refine WpL.step (Stp.rd (Rdo.bld rfl (BldL.cons rfl (VC.i _ _) (by first | rfl | assumption | (simp <;> done)) (by repeat (first | exact LPut.nil _ | apply LPut.here | apply LPut.next)) (BldL.cons rfl (VC.i _ _) (by first | rfl | assumption | (simp <;> done)) (by repeat (first | exact LPut.nil _ | apply LPut.here | apply LPut.next)) (BldL.cons rfl (VC.i _ _) (by first | rfl | assumption | (simp <;> done)) (by repeat (first | exact LPut.nil _ | apply LPut.here | apply LPut.next)) (BldL.cons rfl (VC.s _) (by first | rfl | assumption | (simp <;> done)) (by repeat (first | exact LPut.nil _ | apply LPut.here | apply LPut.next)) (BldL.nil _)))))) rfl ?_)
      refine WpL.step (Stp.call (s1) (by kernel_rfl) rfl (by repeat (first | exact Tk.nil | apply Tk.cons (by repeat (first | exact Pk.here | apply Pk.next)))) rfl ?_)
      rintro _ _ ⟨v20_0, ⟨v20_1, ⟨rfl, rfl⟩⟩⟩
      refine WpL.lst (by simp only [List.cons_append, List.nil_append]; exact rfl) ?_
      refine WpL.step (Stp.rd (Rdo.move rfl) rfl ?_)
      refine WpL.step (Stp.rd (Rdo.extract rfl rfl) rfl ?_)
      refine WpL.step (Stp.rd (Rdo.extract rfl rfl) rfl ?_)
      (refine WpL.step (Stp.alloc rfl ?_); intro nb25)
      refine WpL.step (Stp.storeV rfl rfl (VC.ag _) (by first | rfl | assumption | (simp <;> done)) (by repeat (first | (apply Sts.all; (focus (first | rfl | assumption | (simp <;> done))); (focus (first | exact oneCells1 rfl | assumption | exact oneCells1 (by assumption) | ((repeat (first | assumption | exact oneCells_nil | exact oneCells_bytesC _ | (apply oneCells_cons; (focus (first | rfl | assumption))) | apply oneCells_append)); done) | (simp [oneCells, Value.oneCell'] <;> done)))) | (apply Sts.lp (by repeat (first | exact LPut.nil _ | apply LPut.here | apply LPut.next)); (focus (first | exact oneCells1 rfl | assumption | exact oneCells1 (by assumption) | ((repeat (first | assumption | exact oneCells_nil | exact oneCells_bytesC _ | (apply oneCells_cons; (focus (first | rfl | assumption))) | apply oneCells_append)); done) | (simp [oneCells, Value.oneCell'] <;> done)))) | (refine Sts.row1 (by first | assumption | omega | (simp <;> omega)) (by first | rfl | assumption)) | (refine Sts.rowP (by assumption) (by first | rfl | assumption | (simp <;> done)) (by rfl) (by (first | exact oneCells1 rfl | assumption | exact oneCells1 (by assumption) | ((repeat (first | assumption | exact oneCells_nil | exact oneCells_bytesC _ | (apply oneCells_cons; (focus (first | rfl | assumption))) | apply oneCells_append)); done) | (simp [oneCells, Value.oneCell'] <;> done)))) | apply Sts.next)) ?_)
      refine WpL.step (Stp.rd (Rdo.assign rfl) rfl ?_)
      refine WpL.nil ?_
      refine Thn.n ?_
      refine Wp.seq ?_
      refine Wp.seq ?_
      refine Wp.region ?_
      refine WpL.step (Stp.rd (Rdo.fieldAddr0 rfl) rfl ?_)
      refine WpL.step (Stp.rd (Rdo.load rfl (Lds.one rfl)) rfl ?_)
      refine WpL.step (Stp.rd (Rdo.nei rfl rfl) rfl ?_)
      refine WpL.nil ?_
      refine Thn.n ?_
      refine Wp.condT rfl ?_
      refine Wp.seq ?_
      refine Wp.region ?_
      refine WpL.step (Stp.rd (Rdo.fieldAddr0 rfl) rfl ?_)
      refine WpL.step (Stp.rd (Rdo.load rfl (Lds.one rfl)) rfl ?_)
      refine WpL.step (Stp.rd (Rdo.eqi rfl rfl) rfl ?_)
      refine WpL.step (Stp.rd (Rdo.move rfl) rfl ?_)
      refine WpL.want rfl rfl rfl (Stp.rd (Rdo.fieldAddr0 rfl) rfl ?_)
      refine WpL.want rfl rfl rfl (Stp.rd (Rdo.load rfl (Lds.one rfl)) rfl ?_)
      refine WpL.want rfl rfl rfl (Stp.rd (Rdo.eqi rfl rfl) rfl ?_)
      refine WpL.step (Stp.rd (Rdo.pick_f rfl rfl) rfl ?_)
      refine WpL.step (Stp.rd (Rdo.move rfl) rfl ?_)
      refine WpL.want rfl rfl rfl (Stp.call (known_ok) (by kernel_rfl) rfl (by repeat (first | exact Tk.nil | apply Tk.cons (by repeat (first | exact Pk.here | apply Pk.next)))) rfl ?_)
      rintro _ _ ⟨rfl, rfl⟩
      refine WpL.lst (by simp only [List.cons_append, List.nil_append]; exact rfl) ?_
      refine WpL.step (Stp.rd (Rdo.pick_t rfl rfl) rfl ?_)
      refine WpL.step (Stp.rd (Rdo.assign rfl) rfl ?_)
      refine WpL.nil ?_
      refine Thn.n ?_
      refine Wp.ret ?_
      refine Thn.r ?_
      refine Ret.now (ResV.tmp rfl ResV.nil) (Gh.tk (by repeat (first | exact Tk.nil | apply Tk.cons (by repeat (first | exact Pk.here | apply Pk.next))))) rfl
    · clear s3' s4 s5
      refine Wp.seq ?_
      refine Wp.seq ?_
      refine Wp.region ?_
      refine WpL.step (Stp.rd (Rdo.move rfl) rfl ?_)
      refine WpL.step (Stp.rd (Rdo.move rfl) rfl ?_)
      refine WpL.step (Stp.rd (Rdo.lenSlice rfl) rfl ?_)
      refine WpL.step (Stp.rd (Rdo.lti rfl rfl) rfl ?_)
      refine WpL.nil ?_
      refine Thn.n ?_
      refine Wp.condL rfl (by first | rfl | assumption | (simp only [decide_eq_true_eq, decide_eq_false_iff_not, Bool.not_eq_true', Bool.not_eq_false', List.length_cons, List.length_nil]; first | assumption | omega) | (simp <;> done) | (simp <;> omega)) ?_
      refine Wp.exit ?_
      refine Thn.x ?_
      refine Thn.x ?_
      refine Blk.here ?_
      refine Thn.n ?_
      refine Wp.seq ?_
      refine Wp.region ?_
      refine WpL.step (Stp.rd (Rdo.move rfl) rfl ?_)
      refine WpL.step (Stp.rd (Rdo.bld rfl (BldL.cons rfl (VC.i _ _) (by first | rfl | assumption | (simp <;> done)) (by repeat (first | exact LPut.nil _ | apply LPut.here | apply LPut.next)) (BldL.cons rfl (VC.i _ _) (by first | rfl | assumption | (simp <;> done)) (by repeat (first | exact LPut.nil _ | apply LPut.here | apply LPut.next)) (BldL.cons rfl (VC.i _ _) (by first | rfl | assumption | (simp <;> done)) (by repeat (first | exact LPut.nil _ | apply LPut.here | apply LPut.next)) (BldL.cons rfl (VC.s _) (by first | rfl | assumption | (simp <;> done)) (by repeat (first | exact LPut.nil _ | apply LPut.here | apply LPut.next)) (BldL.nil _)))))) rfl ?_)
      refine WpL.step (Stp.call (s1) (by kernel_rfl) rfl (by repeat (first | exact Tk.nil | apply Tk.cons (by repeat (first | exact Pk.here | apply Pk.next)))) rfl ?_)
      rintro _ _ ⟨v20_0, ⟨v20_1, ⟨rfl, rfl⟩⟩⟩
      refine WpL.lst (by simp only [List.cons_append, List.nil_append]; exact rfl) ?_
      refine WpL.step (Stp.rd (Rdo.move rfl) rfl ?_)
      refine WpL.step (Stp.rd (Rdo.extract rfl rfl) rfl ?_)
      refine WpL.step (Stp.rd (Rdo.extract rfl rfl) rfl ?_)
      (refine WpL.step (Stp.alloc rfl ?_); intro nb25)
      refine WpL.step (Stp.storeV rfl rfl (VC.ag _) (by first | rfl | assumption | (simp <;> done)) (by repeat (first | (apply Sts.all; (focus (first | rfl | assumption | (simp <;> done))); (focus (first | exact oneCells1 rfl | assumption | exact oneCells1 (by assumption) | ((repeat (first | assumption | exact oneCells_nil | exact oneCells_bytesC _ | (apply oneCells_cons; (focus (first | rfl | assumption))) | apply oneCells_append)); done) | (simp [oneCells, Value.oneCell'] <;> done)))) | (apply Sts.lp (by repeat (first | exact LPut.nil _ | apply LPut.here | apply LPut.next)); (focus (first | exact oneCells1 rfl | assumption | exact oneCells1 (by assumption) | ((repeat (first | assumption | exact oneCells_nil | exact oneCells_bytesC _ | (apply oneCells_cons; (focus (first | rfl | assumption))) | apply oneCells_append)); done) | (simp [oneCells, Value.oneCell'] <;> done)))) | (refine Sts.row1 (by first | assumption | omega | (simp <;> omega)) (by first | rfl | assumption)) | (refine Sts.rowP (by assumption) (by first | rfl | assumption | (simp <;> done)) (by rfl) (by (first | exact oneCells1 rfl | assumption | exact oneCells1 (by assumption) | ((repeat (first | assumption | exact oneCells_nil | exact oneCells_bytesC _ | (apply oneCells_cons; (focus (first | rfl | assumption))) | apply oneCells_append)); done) | (simp [oneCells, Value.oneCell'] <;> done)))) | apply Sts.next)) ?_)
      refine WpL.step (Stp.rd (Rdo.assign rfl) rfl ?_)
      refine WpL.nil ?_
      refine Thn.n ?_
      refine Wp.seq ?_
      refine Wp.seq ?_
      refine Wp.region ?_
      refine WpL.step (Stp.rd (Rdo.fieldAddr0 rfl) rfl ?_)
      refine WpL.step (Stp.rd (Rdo.load rfl (Lds.one rfl)) rfl ?_)
      refine WpL.step (Stp.rd (Rdo.nei rfl rfl) rfl ?_)
      refine WpL.nil ?_
      refine Thn.n ?_
      refine Wp.condF rfl ?_
      refine Wp.skip ?_
      refine Thn.n ?_
      refine Wp.seq ?_
      refine Wp.draw (by kernel_rfl) ?_
      refine WpR.take (i := 0) rfl (by kernel_rfl) (by kernel_rfl) (by kernel_rfl) (Rdo.fieldAddr0 rfl) rfl ?_
      refine WpR.take (i := 2) rfl (by kernel_rfl) (by kernel_rfl) (by kernel_rfl) (Rdo.fieldAddr0 rfl) rfl ?_
      refine WpR.load (i := 1) [3] rfl (by kernel_rfl) (by kernel_rfl) (by kernel_rfl) (by kernel_rfl) (by kernel_rfl) rfl Tk.rfl_ (Harm.rd rfl (Rdo.load rfl (Lds.one rfl)) Harm.nil) (Rdo.load rfl (Lds.one rfl)) rfl ?_
      refine WpR.take (i := 4) rfl (by kernel_rfl) (by kernel_rfl) (by kernel_rfl) (Rdo.assign rfl) rfl ?_
      refine WpR.one (i := 3) rfl (by kernel_rfl) (Stp.rd (Rdo.load rfl (Lds.one rfl)) rfl ?_)
      refine WpR.take (i := 5) rfl (by kernel_rfl) (by kernel_rfl) (by kernel_rfl) (Rdo.assign rfl) rfl ?_
      refine WpR.done (by kernel_rfl) ?_
      refine Thn.n ?_
      refine Wp.seq ?_
      refine Wp.region ?_
      refine WpL.step (Stp.rd (Rdo.move rfl) rfl ?_)
      refine WpL.step (Stp.rd (Rdo.move rfl) rfl ?_)
      refine WpL.step (Stp.rd (Rdo.move rfl) rfl ?_)
      refine WpL.step (Stp.rd (Rdo.bld rfl (BldL.cons rfl (VC.i _ _) (by first | rfl | assumption | (simp <;> done)) (by repeat (first | exact LPut.nil _ | apply LPut.here | apply LPut.next)) (BldL.cons rfl (VC.i _ _) (by first | rfl | assumption | (simp <;> done)) (by repeat (first | exact LPut.nil _ | apply LPut.here | apply LPut.next)) (BldL.cons rfl (VC.i _ _) (by first | rfl | assumption | (simp <;> done)) (by repeat (first | exact LPut.nil _ | apply LPut.here | apply LPut.next)) (BldL.cons rfl (VC.i _ _) (by first | rfl | assumption | (simp <;> done)) (by repeat (first | exact LPut.nil _ | apply LPut.here | apply LPut.next)) (BldL.cons rfl (VC.i _ _) (by first | rfl | assumption | (simp <;> done)) (by repeat (first | exact LPut.nil _ | apply LPut.here | apply LPut.next)) (BldL.cons rfl (VC.i _ _) (by first | rfl | assumption | (simp <;> done)) (by repeat (first | exact LPut.nil _ | apply LPut.here | apply LPut.next)) (BldL.nil _)))))))) rfl ?_)
      refine WpL.step (Stp.call (s2) (by kernel_rfl) rfl (by repeat (first | exact Tk.nil | apply Tk.cons (by repeat (first | exact Pk.here | apply Pk.next)))) rfl ?_)
      rintro _ _ ⟨v58_0, ⟨v58_1, ⟨rfl, rfl⟩⟩⟩
      refine WpL.lst (by simp only [List.cons_append, List.nil_append]; exact rfl) ?_
      refine WpL.step (Stp.rd (Rdo.move rfl) rfl ?_)
      refine WpL.step (Stp.rd (Rdo.extract rfl rfl) rfl ?_)
      refine WpL.step (Stp.rd (Rdo.extract rfl rfl) rfl ?_)
      (refine WpL.step (Stp.alloc rfl ?_); intro nb63)
      refine WpL.step (Stp.storeV rfl rfl (VC.ag _) (by first | rfl | assumption | (simp <;> done)) (by repeat (first | (apply Sts.all; (focus (first | rfl | assumption | (simp <;> done))); (focus (first | exact oneCells1 rfl | assumption | exact oneCells1 (by assumption) | ((repeat (first | assumption | exact oneCells_nil | exact oneCells_bytesC _ | (apply oneCells_cons; (focus (first | rfl | assumption))) | apply oneCells_append)); done) | (simp [oneCells, Value.oneCell'] <;> done)))) | (apply Sts.lp (by repeat (first | exact LPut.nil _ | apply LPut.here | apply LPut.next)); (focus (first | exact oneCells1 rfl | assumption | exact oneCells1 (by assumption) | ((repeat (first | assumption | exact oneCells_nil | exact oneCells_bytesC _ | (apply oneCells_cons; (focus (first | rfl | assumption))) | apply oneCells_append)); done) | (simp [oneCells, Value.oneCell'] <;> done)))) | (refine Sts.row1 (by first | assumption | omega | (simp <;> omega)) (by first | rfl | assumption)) | (refine Sts.rowP (by assumption) (by first | rfl | assumption | (simp <;> done)) (by rfl) (by (first | exact oneCells1 rfl | assumption | exact oneCells1 (by assumption) | ((repeat (first | assumption | exact oneCells_nil | exact oneCells_bytesC _ | (apply oneCells_cons; (focus (first | rfl | assumption))) | apply oneCells_append)); done) | (simp [oneCells, Value.oneCell'] <;> done)))) | apply Sts.next)) ?_)
      refine WpL.step (Stp.rd (Rdo.assign rfl) rfl ?_)
      refine WpL.nil ?_
      refine Thn.n ?_
      refine Wp.seq ?_
      refine Wp.region ?_
      refine WpL.step (Stp.rd (Rdo.move rfl) rfl ?_)
      refine WpL.step (Stp.rd (Rdo.bld rfl (BldL.cons rfl (VC.i _ _) (by first | rfl | assumption | (simp <;> done)) (by repeat (first | exact LPut.nil _ | apply LPut.here | apply LPut.next)) (BldL.cons rfl (VC.i _ _) (by first | rfl | assumption | (simp <;> done)) (by repeat (first | exact LPut.nil _ | apply LPut.here | apply LPut.next)) (BldL.cons rfl (VC.i _ _) (by first | rfl | assumption | (simp <;> done)) (by repeat (first | exact LPut.nil _ | apply LPut.here | apply LPut.next)) (BldL.cons rfl (VC.s _) (by first | rfl | assumption | (simp <;> done)) (by repeat (first | exact LPut.nil _ | apply LPut.here | apply LPut.next)) (BldL.nil _)))))) rfl ?_)
      refine WpL.step (Stp.call (s3) (by kernel_rfl) rfl (by repeat (first | exact Tk.nil | apply Tk.cons (by repeat (first | exact Pk.here | apply Pk.next)))) rfl ?_)
      rintro _ _ ⟨v73_0, ⟨v73_1, ⟨rfl, rfl⟩⟩⟩
      refine WpL.lst (by simp only [List.cons_append, List.nil_append]; exact rfl) ?_
      refine WpL.step (Stp.rd (Rdo.move rfl) rfl ?_)
      refine WpL.step (Stp.rd (Rdo.extract rfl rfl) rfl ?_)
      refine WpL.step (Stp.rd (Rdo.extract rfl rfl) rfl ?_)
      (refine WpL.step (Stp.alloc rfl ?_); intro nb78)
      refine WpL.step (Stp.storeV rfl rfl (VC.ag _) (by first | rfl | assumption | (simp <;> done)) (by repeat (first | (apply Sts.all; (focus (first | rfl | assumption | (simp <;> done))); (focus (first | exact oneCells1 rfl | assumption | exact oneCells1 (by assumption) | ((repeat (first | assumption | exact oneCells_nil | exact oneCells_bytesC _ | (apply oneCells_cons; (focus (first | rfl | assumption))) | apply oneCells_append)); done) | (simp [oneCells, Value.oneCell'] <;> done)))) | (apply Sts.lp (by repeat (first | exact LPut.nil _ | apply LPut.here | apply LPut.next)); (focus (first | exact oneCells1 rfl | assumption | exact oneCells1 (by assumption) | ((repeat (first | assumption | exact oneCells_nil | exact oneCells_bytesC _ | (apply oneCells_cons; (focus (first | rfl | assumption))) | apply oneCells_append)); done) | (simp [oneCells, Value.oneCell'] <;> done)))) | (refine Sts.row1 (by first | assumption | omega | (simp <;> omega)) (by first | rfl | assumption)) | (refine Sts.rowP (by assumption) (by first | rfl | assumption | (simp <;> done)) (by rfl) (by (first | exact oneCells1 rfl | assumption | exact oneCells1 (by assumption) | ((repeat (first | assumption | exact oneCells_nil | exact oneCells_bytesC _ | (apply oneCells_cons; (focus (first | rfl | assumption))) | apply oneCells_append)); done) | (simp [oneCells, Value.oneCell'] <;> done)))) | apply Sts.next)) ?_)
      refine WpL.step (Stp.rd (Rdo.assign rfl) rfl ?_)
      refine WpL.nil ?_
      refine Thn.n ?_
      refine Wp.seq ?_
      refine Wp.seq ?_
      refine Wp.region ?_
      refine WpL.step (Stp.rd (Rdo.fieldAddr0 rfl) rfl ?_)
      refine WpL.step (Stp.rd (Rdo.load rfl (Lds.next (Lds.next (Lds.next (Lds.one rfl))))) rfl ?_)
      refine WpL.step (Stp.rd (Rdo.nei rfl rfl) rfl ?_)
      refine WpL.nil ?_
      refine Thn.n ?_
      refine Wp.condF rfl ?_
      refine Wp.skip ?_
      refine Thn.n ?_
      refine Wp.seq ?_
      refine Wp.seq ?_
      refine Wp.region ?_
      refine WpL.step (Stp.rd (Rdo.fieldAddr0 rfl) rfl ?_)
      refine WpL.step (Stp.rd (Rdo.load rfl (Lds.one rfl)) rfl ?_)
      refine WpL.step (Stp.rd (Rdo.nei rfl rfl) rfl ?_)
      refine WpL.nil ?_
      refine Thn.n ?_
      refine Wp.condT rfl ?_
      refine Wp.seq ?_
      refine Wp.region ?_
      refine WpL.step (Stp.rd (Rdo.fieldAddr0 rfl) rfl ?_)
      refine WpL.step (Stp.rd (Rdo.load rfl (Lds.one rfl)) rfl ?_)
      refine WpL.step (Stp.rd (Rdo.eqi rfl rfl) rfl ?_)
      refine WpL.step (Stp.rd (Rdo.move rfl) rfl ?_)
      refine WpL.want rfl rfl rfl (Stp.call (known_ok) (by kernel_rfl) rfl (by repeat (first | exact Tk.nil | apply Tk.cons (by repeat (first | exact Pk.here | apply Pk.next)))) rfl ?_)
      rintro _ _ ⟨rfl, rfl⟩
      refine WpL.lst (by simp only [List.cons_append, List.nil_append]; exact rfl) ?_
      refine WpL.step (Stp.rd (Rdo.pick_t rfl rfl) rfl ?_)
      refine WpL.step (Stp.rd (Rdo.assign rfl) rfl ?_)
      refine WpL.nil ?_
      refine Thn.n ?_
      refine Wp.ret ?_
      refine Thn.r ?_
      refine Ret.now (ResV.tmp rfl ResV.nil) (Gh.tk (by repeat (first | exact Tk.nil | apply Tk.cons (by repeat (first | exact Pk.here | apply Pk.next))))) rfl
    · have s3 := s3' (by simp)
      clear s3'
      simp only [Rep.mk.injEq] at h3
      obtain ⟨rfl, rfl, rfl⟩ := h3
      have f1 : (([⟨3, pr3, ep, 1⟩, ⟨1, pr3, ep + 1, 0⟩] : List Mark).map markC).flatten = [] ++ (markC ⟨3, pr3, ep, 1⟩ ++ markC ⟨1, pr3, ep + 1, 0⟩) := rfl
      refine Wp.seq ?_
      refine Wp.seq ?_
      refine Wp.region ?_
      refine WpL.step (Stp.rd (Rdo.move rfl) rfl ?_)
      refine WpL.step (Stp.rd (Rdo.move rfl) rfl ?_)
      refine WpL.step (Stp.rd (Rdo.lenSlice rfl) rfl ?_)
      refine WpL.step (Stp.rd (Rdo.lti rfl rfl) rfl ?_)
      refine WpL.nil ?_
      refine Thn.n ?_
      refine Wp.condL rfl (by first | rfl | assumption | (simp only [decide_eq_true_eq, decide_eq_false_iff_not, Bool.not_eq_true', Bool.not_eq_false', List.length_cons, List.length_nil]; first | assumption | omega) | (simp <;> done) | (simp <;> omega)) ?_
      refine Wp.exit ?_
      refine Thn.x ?_
      refine Thn.x ?_
      refine Blk.here ?_
      refine Thn.n ?_
      refine Wp.seq ?_
      refine Wp.region ?_
      refine WpL.step (Stp.rd (Rdo.move rfl) rfl ?_)
      refine WpL.step (Stp.rd (Rdo.bld rfl (BldL.cons rfl (VC.i _ _) (by first | rfl | assumption | (simp <;> done)) (by repeat (first | exact LPut.nil _ | apply LPut.here | apply LPut.next)) (BldL.cons rfl (VC.i _ _) (by first | rfl | assumption | (simp <;> done)) (by repeat (first | exact LPut.nil _ | apply LPut.here | apply LPut.next)) (BldL.cons rfl (VC.i _ _) (by first | rfl | assumption | (simp <;> done)) (by repeat (first | exact LPut.nil _ | apply LPut.here | apply LPut.next)) (BldL.cons rfl (VC.s _) (by first | rfl | assumption | (simp <;> done)) (by repeat (first | exact LPut.nil _ | apply LPut.here | apply LPut.next)) (BldL.nil _)))))) rfl ?_)
      refine WpL.step (Stp.call (s1) (by kernel_rfl) rfl (by repeat (first | exact Tk.nil | apply Tk.cons (by repeat (first | exact Pk.here | apply Pk.next)))) rfl ?_)
      rintro _ _ ⟨v20_0, ⟨v20_1, ⟨rfl, rfl⟩⟩⟩
      refine WpL.lst (by simp only [List.cons_append, List.nil_append]; exact rfl) ?_
      refine WpL.step (Stp.rd (Rdo.move rfl) rfl ?_)
      refine WpL.step (Stp.rd (Rdo.extract rfl rfl) rfl ?_)
      refine WpL.step (Stp.rd (Rdo.extract rfl rfl) rfl ?_)
      (refine WpL.step (Stp.alloc rfl ?_); intro nb25)
      refine WpL.step (Stp.storeV rfl rfl (VC.ag _) (by first | rfl | assumption | (simp <;> done)) (by repeat (first | (apply Sts.all; (focus (first | rfl | assumption | (simp <;> done))); (focus (first | exact oneCells1 rfl | assumption | exact oneCells1 (by assumption) | ((repeat (first | assumption | exact oneCells_nil | exact oneCells_bytesC _ | (apply oneCells_cons; (focus (first | rfl | assumption))) | apply oneCells_append)); done) | (simp [oneCells, Value.oneCell'] <;> done)))) | (apply Sts.lp (by repeat (first | exact LPut.nil _ | apply LPut.here | apply LPut.next)); (focus (first | exact oneCells1 rfl | assumption | exact oneCells1 (by assumption) | ((repeat (first | assumption | exact oneCells_nil | exact oneCells_bytesC _ | (apply oneCells_cons; (focus (first | rfl | assumption))) | apply oneCells_append)); done) | (simp [oneCells, Value.oneCell'] <;> done)))) | (refine Sts.row1 (by first | assumption | omega | (simp <;> omega)) (by first | rfl | assumption)) | (refine Sts.rowP (by assumption) (by first | rfl | assumption | (simp <;> done)) (by rfl) (by (first | exact oneCells1 rfl | assumption | exact oneCells1 (by assumption) | ((repeat (first | assumption | exact oneCells_nil | exact oneCells_bytesC _ | (apply oneCells_cons; (focus (first | rfl | assumption))) | apply oneCells_append)); done) | (simp [oneCells, Value.oneCell'] <;> done)))) | apply Sts.next)) ?_)
      refine WpL.step (Stp.rd (Rdo.assign rfl) rfl ?_)
      refine WpL.nil ?_
      refine Thn.n ?_
      refine Wp.seq ?_
      refine Wp.seq ?_
      refine Wp.region ?_
      refine WpL.step (Stp.rd (Rdo.fieldAddr0 rfl) rfl ?_)
      refine WpL.step (Stp.rd (Rdo.load rfl (Lds.one rfl)) rfl ?_)
      refine WpL.step (Stp.rd (Rdo.nei rfl rfl) rfl ?_)
      refine WpL.nil ?_
      refine Thn.n ?_
      refine Wp.condF rfl ?_
      refine Wp.skip ?_
      refine Thn.n ?_
      refine Wp.seq ?_
      refine Wp.draw (by kernel_rfl) ?_
      refine WpR.take (i := 0) rfl (by kernel_rfl) (by kernel_rfl) (by kernel_rfl) (Rdo.fieldAddr0 rfl) rfl ?_
      refine WpR.take (i := 2) rfl (by kernel_rfl) (by kernel_rfl) (by kernel_rfl) (Rdo.fieldAddr0 rfl) rfl ?_
      refine WpR.load (i := 1) [3] rfl (by kernel_rfl) (by kernel_rfl) (by kernel_rfl) (by kernel_rfl) (by kernel_rfl) rfl Tk.rfl_ (Harm.rd rfl (Rdo.load rfl (Lds.one rfl)) Harm.nil) (Rdo.load rfl (Lds.one rfl)) rfl ?_
      refine WpR.take (i := 4) rfl (by kernel_rfl) (by kernel_rfl) (by kernel_rfl) (Rdo.assign rfl) rfl ?_
      refine WpR.one (i := 3) rfl (by kernel_rfl) (Stp.rd (Rdo.load rfl (Lds.one rfl)) rfl ?_)
      refine WpR.take (i := 5) rfl (by kernel_rfl) (by kernel_rfl) (by kernel_rfl) (Rdo.assign rfl) rfl ?_
      refine WpR.done (by kernel_rfl) ?_
      refine Thn.n ?_
      refine Wp.seq ?_
      refine Wp.region ?_
      refine WpL.step (Stp.rd (Rdo.move rfl) rfl ?_)
      refine WpL.step (Stp.rd (Rdo.move rfl) rfl ?_)
      refine WpL.step (Stp.rd (Rdo.move rfl) rfl ?_)
      refine WpL.step (Stp.rd (Rdo.bld rfl (BldL.cons rfl (VC.i _ _) (by first | rfl | assumption | (simp <;> done)) (by repeat (first | exact LPut.nil _ | apply LPut.here | apply LPut.next)) (BldL.cons rfl (VC.i _ _) (by first | rfl | assumption | (simp <;> done)) (by repeat (first | exact LPut.nil _ | apply LPut.here | apply LPut.next)) (BldL.cons rfl (VC.i _ _) (by first | rfl | assumption | (simp <;> done)) (by repeat (first | exact LPut.nil _ | apply LPut.here | apply LPut.next)) (BldL.cons rfl (VC.i _ _) (by first | rfl | assumption | (simp <;> done)) (by repeat (first | exact LPut.nil _ | apply LPut.here | apply LPut.next)) (BldL.cons rfl (VC.i _ _) (by first | rfl | assumption | (simp <;> done)) (by repeat (first | exact LPut.nil _ | apply LPut.here | apply LPut.next)) (BldL.cons rfl (VC.i _ _) (by first | rfl | assumption | (simp <;> done)) (by repeat (first | exact LPut.nil _ | apply LPut.here | apply LPut.next)) (BldL.nil _)))))))) rfl ?_)
      refine WpL.step (Stp.call (s2) (by kernel_rfl) rfl (by repeat (first | exact Tk.nil | apply Tk.cons (by repeat (first | exact Pk.here | apply Pk.next)))) rfl ?_)
      rintro _ _ ⟨v58_0, ⟨v58_1, ⟨rfl, rfl⟩⟩⟩
      refine WpL.lst (by simp only [List.cons_append, List.nil_append]; exact rfl) ?_
      refine WpL.step (Stp.rd (Rdo.move rfl) rfl ?_)
      refine WpL.step (Stp.rd (Rdo.extract rfl rfl) rfl ?_)
      refine WpL.step (Stp.rd (Rdo.extract rfl rfl) rfl ?_)
      (refine WpL.step (Stp.alloc rfl ?_); intro nb63)
      refine WpL.step (Stp.storeV rfl rfl (VC.ag _) (by first | rfl | assumption | (simp <;> done)) (by repeat (first | (apply Sts.all; (focus (first | rfl | assumption | (simp <;> done))); (focus (first | exact oneCells1 rfl | assumption | exact oneCells1 (by assumption) | ((repeat (first | assumption | exact oneCells_nil | exact oneCells_bytesC _ | (apply oneCells_cons; (focus (first | rfl | assumption))) | apply oneCells_append)); done) | (simp [oneCells, Value.oneCell'] <;> done)))) | (apply Sts.lp (by repeat (first | exact LPut.nil _ | apply LPut.here | apply LPut.next)); (focus (first | exact oneCells1 rfl | assumption | exact oneCells1 (by assumption) | ((repeat (first | assumption | exact oneCells_nil | exact oneCells_bytesC _ | (apply oneCells_cons; (focus (first | rfl | assumption))) | apply oneCells_append)); done) | (simp [oneCells, Value.oneCell'] <;> done)))) | (refine Sts.row1 (by first | assumption | omega | (simp <;> omega)) (by first | rfl | assumption)) | (refine Sts.rowP (by assumption) (by first | rfl | assumption | (simp <;> done)) (by rfl) (by (first | exact oneCells1 rfl | assumption | exact oneCells1 (by assumption) | ((repeat (first | assumption | exact oneCells_nil | exact oneCells_bytesC _ | (apply oneCells_cons; (focus (first | rfl | assumption))) | apply oneCells_append)); done) | (simp [oneCells, Value.oneCell'] <;> done)))) | apply Sts.next)) ?_)
      refine WpL.step (Stp.rd (Rdo.assign rfl) rfl ?_)
      refine WpL.nil ?_
      refine Thn.n ?_
      refine Wp.seq ?_
      refine Wp.region ?_
      refine WpL.step (Stp.rd (Rdo.move rfl) rfl ?_)
      refine WpL.step (Stp.rd (Rdo.bld rfl (BldL.cons rfl (VC.i _ _) (by first | rfl | assumption | (simp <;> done)) (by repeat (first | exact LPut.nil _ | apply LPut.here | apply LPut.next)) (BldL.cons rfl (VC.i _ _) (by first | rfl | assumption | (simp <;> done)) (by repeat (first | exact LPut.nil _ | apply LPut.here | apply LPut.next)) (BldL.cons rfl (VC.i _ _) (by first | rfl | assumption | (simp <;> done)) (by repeat (first | exact LPut.nil _ | apply LPut.here | apply LPut.next)) (BldL.cons rfl (VC.s _) (by first | rfl | assumption | (simp <;> done)) (by repeat (first | exact LPut.nil _ | apply LPut.here | apply LPut.next)) (BldL.nil _)))))) rfl ?_)
      refine WpL.step (Stp.call (s3) (by kernel_rfl) rfl (by repeat (first | exact Tk.nil | apply Tk.cons (by repeat (first | exact Pk.here | apply Pk.next)))) rfl ?_)
      rintro _ _ ⟨v73_0, ⟨v73_1, ⟨v73_2, ⟨rfl, rfl⟩⟩⟩⟩
      refine WpL.lst (by simp only [List.cons_append, List.nil_append]; exact rfl) ?_
      refine WpL.step (Stp.rd (Rdo.move rfl) rfl ?_)
      refine WpL.step (Stp.rd (Rdo.extract rfl rfl) rfl ?_)
      refine WpL.step (Stp.rd (Rdo.extract rfl rfl) rfl ?_)
      (refine WpL.step (Stp.alloc rfl ?_); intro nb78)
      refine WpL.step (Stp.storeV rfl rfl (VC.ag _) (by first | rfl | assumption | (simp <;> done)) (by repeat (first | (apply Sts.all; (focus (first | rfl | assumption | (simp <;> done))); (focus (first | exact oneCells1 rfl | assumption | exact oneCells1 (by assumption) | ((repeat (first | assumption | exact oneCells_nil | exact oneCells_bytesC _ | (apply oneCells_cons; (focus (first | rfl | assumption))) | apply oneCells_append)); done) | (simp [oneCells, Value.oneCell'] <;> done)))) | (apply Sts.lp (by repeat (first | exact LPut.nil _ | apply LPut.here | apply LPut.next)); (focus (first | exact oneCells1 rfl | assumption | exact oneCells1 (by assumption) | ((repeat (first | assumption | exact oneCells_nil | exact oneCells_bytesC _ | (apply oneCells_cons; (focus (first | rfl | assumption))) | apply oneCells_append)); done) | (simp [oneCells, Value.oneCell'] <;> done)))) | (refine Sts.row1 (by first | assumption | omega | (simp <;> omega)) (by first | rfl | assumption)) | (refine Sts.rowP (by assumption) (by first | rfl | assumption | (simp <;> done)) (by rfl) (by (first | exact oneCells1 rfl | assumption | exact oneCells1 (by assumption) | ((repeat (first | assumption | exact oneCells_nil | exact oneCells_bytesC _ | (apply oneCells_cons; (focus (first | rfl | assumption))) | apply oneCells_append)); done) | (simp [oneCells, Value.oneCell'] <;> done)))) | apply Sts.next)) ?_)
      refine WpL.step (Stp.rd (Rdo.assign rfl) rfl ?_)
      refine WpL.nil ?_
      refine Thn.n ?_
      refine Wp.seq ?_
      refine Wp.seq ?_
      refine Wp.region ?_
      refine WpL.step (Stp.rd (Rdo.fieldAddr0 rfl) rfl ?_)
      refine WpL.step (Stp.rd (Rdo.load rfl (Lds.next (Lds.next (Lds.next (Lds.one rfl))))) rfl ?_)
      refine WpL.step (Stp.rd (Rdo.nei rfl rfl) rfl ?_)
      refine WpL.nil ?_
      refine Thn.n ?_
      refine Wp.condF rfl ?_
      refine Wp.skip ?_
      refine Thn.n ?_
      refine Wp.seq ?_
      refine Wp.seq ?_
      refine Wp.region ?_
      refine WpL.step (Stp.rd (Rdo.fieldAddr0 rfl) rfl ?_)
      refine WpL.step (Stp.rd (Rdo.load rfl (Lds.one rfl)) rfl ?_)
      refine WpL.step (Stp.rd (Rdo.nei rfl rfl) rfl ?_)
      refine WpL.nil ?_
      refine Thn.n ?_
      refine Wp.condF rfl ?_
      refine Wp.skip ?_
      refine Thn.n ?_
      refine Wp.seq ?_
      refine Wp.region ?_
      refine WpL.step (Stp.rd (Rdo.move rfl) rfl ?_)
      refine WpL.step (Stp.rd (Rdo.move rfl) rfl ?_)
      refine WpL.step (Stp.rd (Rdo.move rfl) rfl ?_)
      refine WpL.step (Stp.rd (Rdo.move rfl) rfl ?_)
      refine WpL.step (Stp.rd (Rdo.bld rfl (BldL.cons rfl (VC.i _ _) (by first | rfl | assumption | (simp <;> done)) (by repeat (first | exact LPut.nil _ | apply LPut.here | apply LPut.next)) (BldL.cons rfl (VC.i _ _) (by first | rfl | assumption | (simp <;> done)) (by repeat (first | exact LPut.nil _ | apply LPut.here | apply LPut.next)) (BldL.cons rfl (VC.i _ _) (by first | rfl | assumption | (simp <;> done)) (by repeat (first | exact LPut.nil _ | apply LPut.here | apply LPut.next)) (BldL.cons rfl (VC.i _ _) (by first | rfl | assumption | (simp <;> done)) (by repeat (first | exact LPut.nil _ | apply LPut.here | apply LPut.next)) (BldL.cons rfl (VC.i _ _) (by first | rfl | assumption | (simp <;> done)) (by repeat (first | exact LPut.nil _ | apply LPut.here | apply LPut.next)) (BldL.cons rfl (VC.i _ _) (by first | rfl | assumption | (simp <;> done)) (by repeat (first | exact LPut.nil _ | apply LPut.here | apply LPut.next)) (BldL.nil _)))))))) rfl ?_)
      refine WpL.step (Stp.call (s4) (by kernel_rfl) rfl (by repeat (first | exact Tk.nil | apply Tk.cons (by repeat (first | exact Pk.here | apply Pk.next)))) rfl ?_)
      rintro _ _ ⟨v113_0, ⟨v113_1, ⟨rfl, rfl⟩⟩⟩
      refine WpL.lst (by simp only [List.cons_append, List.nil_append]; exact rfl) ?_
      refine WpL.step (Stp.rd (Rdo.move rfl) rfl ?_)
      refine WpL.step (Stp.rd (Rdo.extract rfl rfl) rfl ?_)
      refine WpL.step (Stp.rd (Rdo.extract rfl rfl) rfl ?_)
      (refine WpL.step (Stp.alloc rfl ?_); intro nb118)
      refine WpL.step (Stp.storeV rfl rfl (VC.ag _) (by first | rfl | assumption | (simp <;> done)) (by repeat (first | (apply Sts.all; (focus (first | rfl | assumption | (simp <;> done))); (focus (first | exact oneCells1 rfl | assumption | exact oneCells1 (by assumption) | ((repeat (first | assumption | exact oneCells_nil | exact oneCells_bytesC _ | (apply oneCells_cons; (focus (first | rfl | assumption))) | apply oneCells_append)); done) | (simp [oneCells, Value.oneCell'] <;> done)))) | (apply Sts.lp (by repeat (first | exact LPut.nil _ | apply LPut.here | apply LPut.next)); (focus (first | exact oneCells1 rfl | assumption | exact oneCells1 (by assumption) | ((repeat (first | assumption | exact oneCells_nil | exact oneCells_bytesC _ | (apply oneCells_cons; (focus (first | rfl | assumption))) | apply oneCells_append)); done) | (simp [oneCells, Value.oneCell'] <;> done)))) | (refine Sts.row1 (by first | assumption | omega | (simp <;> omega)) (by first | rfl | assumption)) | (refine Sts.rowP (by assumption) (by first | rfl | assumption | (simp <;> done)) (by rfl) (by (first | exact oneCells1 rfl | assumption | exact oneCells1 (by assumption) | ((repeat (first | assumption | exact oneCells_nil | exact oneCells_bytesC _ | (apply oneCells_cons; (focus (first | rfl | assumption))) | apply oneCells_append)); done) | (simp [oneCells, Value.oneCell'] <;> done)))) | apply Sts.next)) ?_)
      refine WpL.step (Stp.rd (Rdo.assign rfl) rfl ?_)
      refine WpL.nil ?_
      refine Thn.n ?_
      refine Wp.seq ?_
      refine Wp.region ?_
      refine WpL.step (Stp.rd (Rdo.move rfl) rfl ?_)
      refine WpL.step (Stp.rd (Rdo.move rfl) rfl ?_)
      refine WpL.step (Stp.rd (Rdo.move rfl) rfl ?_)
      refine WpL.step (Stp.rd (Rdo.move rfl) rfl ?_)
      refine WpL.step (Stp.rd (Rdo.move rfl) rfl ?_)
      refine WpL.step (Stp.rd (Rdo.bld rfl (BldL.cons rfl (VC.i _ _) (by first | rfl | assumption | (simp <;> done)) (by repeat (first | exact LPut.nil _ | apply LPut.here | apply LPut.next)) (BldL.cons rfl (VC.i _ _) (by first | rfl | assumption | (simp <;> done)) (by repeat (first | exact LPut.nil _ | apply LPut.here | apply LPut.next)) (BldL.cons rfl (VC.i _ _) (by first | rfl | assumption | (simp <;> done)) (by repeat (first | exact LPut.nil _ | apply LPut.here | apply LPut.next)) (BldL.cons rfl (VC.i _ _) (by first | rfl | assumption | (simp <;> done)) (by repeat (first | exact LPut.nil _ | apply LPut.here | apply LPut.next)) (BldL.cons rfl (VC.i _ _) (by first | rfl | assumption | (simp <;> done)) (by repeat (first | exact LPut.nil _ | apply LPut.here | apply LPut.next)) (BldL.cons rfl (VC.i _ _) (by first | rfl | assumption | (simp <;> done)) (by repeat (first | exact LPut.nil _ | apply LPut.here | apply LPut.next)) (BldL.cons rfl (VC.b _) (by first | rfl | assumption | (simp <;> done)) (by repeat (first | exact LPut.nil _ | apply LPut.here | apply LPut.next)) (BldL.nil _))))))))) rfl ?_)
      refine WpL.step (Stp.call (s5) (by kernel_rfl) rfl (by repeat (first | exact Tk.nil | apply Tk.cons (by repeat (first | exact Pk.here | apply Pk.next)))) rfl ?_)
      rintro _ _ ⟨v132_0, ⟨v132_1, ⟨rfl, rfl⟩⟩⟩
      refine WpL.lst (by simp only [List.cons_append, List.nil_append]; exact rfl) ?_
      refine WpL.step (Stp.rd (Rdo.move rfl) rfl ?_)
      refine WpL.step (Stp.rd (Rdo.extract rfl rfl) rfl ?_)
      refine WpL.step (Stp.rd (Rdo.extract rfl rfl) rfl ?_)
      (refine WpL.step (Stp.alloc rfl ?_); intro nb137)
      refine WpL.step (Stp.storeV rfl rfl (VC.ag _) (by first | rfl | assumption | (simp <;> done)) (by repeat (first | (apply Sts.all; (focus (first | rfl | assumption | (simp <;> done))); (focus (first | exact oneCells1 rfl | assumption | exact oneCells1 (by assumption) | ((repeat (first | assumption | exact oneCells_nil | exact oneCells_bytesC _ | (apply oneCells_cons; (focus (first | rfl | assumption))) | apply oneCells_append)); done) | (simp [oneCells, Value.oneCell'] <;> done)))) | (apply Sts.lp (by repeat (first | exact LPut.nil _ | apply LPut.here | apply LPut.next)); (focus (first | exact oneCells1 rfl | assumption | exact oneCells1 (by assumption) | ((repeat (first | assumption | exact oneCells_nil | exact oneCells_bytesC _ | (apply oneCells_cons; (focus (first | rfl | assumption))) | apply oneCells_append)); done) | (simp [oneCells, Value.oneCell'] <;> done)))) | (refine Sts.row1 (by first | assumption | omega | (simp <;> omega)) (by first | rfl | assumption)) | (refine Sts.rowP (by assumption) (by first | rfl | assumption | (simp <;> done)) (by rfl) (by (first | exact oneCells1 rfl | assumption | exact oneCells1 (by assumption) | ((repeat (first | assumption | exact oneCells_nil | exact oneCells_bytesC _ | (apply oneCells_cons; (focus (first | rfl | assumption))) | apply oneCells_append)); done) | (simp [oneCells, Value.oneCell'] <;> done)))) | apply Sts.next)) ?_)
      refine WpL.step (Stp.rd (Rdo.assign rfl) rfl ?_)
      refine WpL.nil ?_
      refine Thn.n ?_
      refine Wp.seq ?_
      refine Wp.region ?_
      refine WpL.step (Stp.rd (Rdo.fieldAddr0 rfl) rfl ?_)
      refine WpL.step (Stp.rd (Rdo.load rfl (Lds.next (Lds.next (Lds.next (Lds.next (Lds.next (Lds.one rfl))))))) rfl ?_)
      refine WpL.step (Stp.rd (Rdo.move rfl) rfl ?_)
      refine WpL.step (Stp.rd (Rdo.eqi rfl rfl) rfl ?_)
      refine WpL.step (Stp.rd (Rdo.move rfl) rfl ?_)
      refine WpL.gT rfl rfl (by first | rfl | assumption | (simp only [decide_eq_true_eq, decide_eq_false_iff_not, Bool.not_eq_true', Bool.not_eq_false', List.length_cons, List.length_nil]; first | assumption | omega) | (simp <;> done) | (simp <;> omega)) ?_
      refine WpL.want rfl rfl rfl (Stp.rd (Rdo.fieldAddr0 rfl) rfl ?_)
      refine WpL.want rfl rfl rfl (Stp.rd (Rdo.load rfl (Lds.next (Lds.next (Lds.next (Lds.next (Lds.next (Lds.one rfl))))))) rfl ?_)
      refine WpL.want rfl rfl rfl (Stp.rd (Rdo.move rfl) rfl ?_)
      refine WpL.want rfl rfl rfl (Stp.rd (Rdo.add64 rfl rfl (by first | omega | (dsimp only; omega))) rfl ?_)
      refine WpL.want rfl rfl rfl (Stp.rd (Rdo.eqi rfl rfl) rfl ?_)
      refine WpL.step (Stp.rd (Rdo.pick_t rfl rfl) rfl ?_)
      refine WpL.step (Stp.rd (Rdo.move rfl) rfl ?_)
      refine WpL.gT rfl rfl (by first | rfl | assumption | (simp only [decide_eq_true_eq, decide_eq_false_iff_not, Bool.not_eq_true', Bool.not_eq_false', List.length_cons, List.length_nil]; first | assumption | omega) | (simp <;> done) | (simp <;> omega)) ?_
      refine WpL.want rfl rfl rfl (Stp.rd (Rdo.move rfl) rfl ?_)
      refine WpL.want rfl rfl rfl (Stp.rd (Rdo.lenSlice rfl) rfl ?_)
      refine WpL.want rfl rfl rfl (Stp.rd (Rdo.eqi rfl rfl) rfl ?_)
      refine WpL.step (Stp.rd (Rdo.pick_t rfl rfl) rfl ?_)
      refine WpL.step (Stp.rd (Rdo.move rfl) rfl ?_)
      refine WpL.want rfl rfl rfl (Stp.rd (Rdo.move rfl) rfl ?_)
      refine WpL.want rfl rfl rfl (Stp.rd (Rdo.indexSliceE (i := 0) rfl rfl rfl (by first | omega | (simp <;> omega))) rfl ?_)
      refine WpL.want rfl rfl rfl (Stp.rd (Rdo.load rfl (Lds.next (Lds.next (Lds.next (Lds.next (Lds.next (Lds.next (Lds.row (by assumption) (by first | assumption | omega | (simp <;> omega)) (by first | assumption | rfl))))))))) rfl ?_)
      refine WpL.want rfl rfl rfl (Stp.rd (Rdo.move rfl) rfl ?_)
      refine WpL.want rfl rfl rfl (Stp.rd (Rdo.move rfl) rfl ?_)
      refine WpL.want rfl rfl rfl (Stp.rd (Rdo.bld rfl (BldL.cons rfl (VC.i _ _) (by first | rfl | assumption | (simp <;> done)) (by repeat (first | exact LPut.nil _ | apply LPut.here | apply LPut.next)) (BldL.cons rfl (VC.i _ _) (by first | rfl | assumption | (simp <;> done)) (by repeat (first | exact LPut.nil _ | apply LPut.here | apply LPut.next)) (BldL.cons rfl (VC.i _ _) (by first | rfl | assumption | (simp <;> done)) (by repeat (first | exact LPut.nil _ | apply LPut.here | apply LPut.next)) (BldL.cons rfl (VC.i _ _) (by first | rfl | assumption | (simp <;> done)) (by repeat (first | exact LPut.nil _ | apply LPut.here | apply LPut.next)) (BldL.nil _)))))) rfl ?_)
      refine WpL.want rfl rfl rfl (Stp.rd (Rdo.eqagg rfl rfl (by first | rfl | exact oks_hc _ | exact oks_voteC _ | assumption) (by first | rfl | exact oks_hc _ | exact oks_voteC _ | assumption)) rfl ?_)
      refine WpL.step (Stp.rd (Rdo.pick_t rfl rfl) rfl ?_)
      refine WpL.step (Stp.rd (Rdo.move rfl) rfl ?_)
      refine WpL.gT rfl rfl (by first | rfl | assumption | (simp only [decide_eq_true_eq, decide_eq_false_iff_not, Bool.not_eq_true', Bool.not_eq_false', List.length_cons, List.length_nil]; first | assumption | omega) | (simp <;> done) | (simp <;> omega)) ?_
      refine WpL.want rfl rfl rfl (Stp.rd (Rdo.move rfl) rfl ?_)
      refine WpL.want rfl rfl rfl (Stp.rd (Rdo.indexSliceE (i := 1) rfl rfl rfl (by first | omega | (simp <;> omega))) rfl ?_)
      clear f1
      have f2 : (([⟨3, pr3, ep, 1⟩, ⟨1, pr3, ep + 1, 0⟩] : List Mark).map markC).flatten = markC ⟨3, pr3, ep, 1⟩ ++ (markC ⟨1, pr3, ep + 1, 0⟩ ++ []) := rfl
      have f3 : (markC ⟨3, pr3, ep, 1⟩).length = 1 * 4 := rfl
      refine WpL.want rfl rfl rfl (Stp.rd (Rdo.load rfl (Lds.next (Lds.next (Lds.next (Lds.next (Lds.next (Lds.next (Lds.row (by assumption) (by first | assumption | omega | (simp <;> omega)) (by first | assumption | rfl))))))))) rfl ?_)
      refine WpL.want rfl rfl rfl (Stp.rd (Rdo.move rfl) rfl ?_)
      refine WpL.want rfl rfl rfl (Stp.rd (Rdo.move rfl) rfl ?_)
      refine WpL.want rfl rfl rfl (Stp.rd (Rdo.add64 rfl rfl (by first | omega | (dsimp only; omega))) rfl ?_)
      refine WpL.want rfl rfl rfl (Stp.rd (Rdo.bld rfl (BldL.cons rfl (VC.i _ _) (by first | rfl | assumption | (simp <;> done)) (by repeat (first | exact LPut.nil _ | apply LPut.here | apply LPut.next)) (BldL.cons rfl (VC.i _ _) (by first | rfl | assumption | (simp <;> done)) (by repeat (first | exact LPut.nil _ | apply LPut.here | apply LPut.next)) (BldL.cons rfl (VC.i _ _) (by first | rfl | assumption | (simp <;> done)) (by repeat (first | exact LPut.nil _ | apply LPut.here | apply LPut.next)) (BldL.nil _))))) rfl ?_)
      refine WpL.want rfl rfl rfl (Stp.rd (Rdo.eqagg rfl rfl (by first | rfl | exact oks_hc _ | exact oks_voteC _ | assumption) (by first | rfl | exact oks_hc _ | exact oks_voteC _ | assumption)) rfl ?_)
      refine WpL.step (Stp.rd (Rdo.pick_t rfl rfl) rfl ?_)
      refine WpL.step (Stp.rd (Rdo.move rfl) rfl ?_)
      refine WpL.gT rfl rfl (by first | rfl | assumption | (simp only [decide_eq_true_eq, decide_eq_false_iff_not, Bool.not_eq_true', Bool.not_eq_false', List.length_cons, List.length_nil]; first | assumption | omega) | (simp <;> done) | (simp <;> omega)) ?_
      refine WpL.want rfl rfl rfl (Stp.rd (Rdo.fieldAddr0 rfl) rfl ?_)
      refine WpL.want rfl rfl rfl (Stp.rd (Rdo.load rfl (Lds.next (Lds.next (Lds.next (Lds.one rfl))))) rfl ?_)
      refine WpL.want rfl rfl rfl (Stp.rd (Rdo.eqi rfl rfl) rfl ?_)
      refine WpL.step (Stp.rd (Rdo.pick_t rfl rfl) rfl ?_)
      refine WpL.step (Stp.rd (Rdo.move rfl) rfl ?_)
      refine WpL.want rfl rfl rfl (Stp.rd (Rdo.fieldAddr0 rfl) rfl ?_)
      refine WpL.want rfl rfl rfl (Stp.rd (Rdo.load rfl (Lds.one rfl)) rfl ?_)
      refine WpL.want rfl rfl rfl (Stp.rd (Rdo.eqi rfl rfl) rfl ?_)
      refine WpL.step (Stp.rd (Rdo.pick_t rfl rfl) rfl ?_)
      refine WpL.step (Stp.rd (Rdo.move rfl) rfl ?_)
      refine WpL.want rfl rfl rfl (Stp.rd (Rdo.move rfl) rfl ?_)
      refine WpL.want rfl rfl rfl (Stp.rd (Rdo.lenSlice rfl) rfl ?_)
      refine WpL.want rfl rfl rfl (Stp.rd (Rdo.move rfl) rfl ?_)
      refine WpL.want rfl rfl rfl (Stp.rd (Rdo.lenSlice rfl) rfl ?_)
      refine WpL.want rfl rfl rfl (Stp.rd (Rdo.add rfl rfl) rfl ?_)
      refine WpL.want rfl rfl rfl (Stp.rd (Rdo.eqi rfl rfl) rfl ?_)
      refine WpL.step (Stp.rd (Rdo.pick_t rfl rfl) rfl ?_)
      refine WpL.step (Stp.rd (Rdo.move rfl) rfl ?_)
      refine WpL.want rfl rfl rfl (Stp.call (known_ok) (by kernel_rfl) rfl (by repeat (first | exact Tk.nil | apply Tk.cons (by repeat (first | exact Pk.here | apply Pk.next)))) rfl ?_)
      rintro _ _ ⟨rfl, rfl⟩
      refine WpL.lst (by simp only [List.cons_append, List.nil_append]; exact rfl) ?_
      refine WpL.step (Stp.rd (Rdo.pick_t rfl rfl) rfl ?_)
      refine WpL.step (Stp.rd (Rdo.assign rfl) rfl ?_)
      refine WpL.nil ?_
      refine Thn.n ?_
      refine Wp.ret ?_
      refine Ret.now (ResV.tmp rfl ResV.nil) (Gh.tk (by repeat (first | exact Tk.nil | apply Tk.cons (by repeat (first | exact Pk.here | apply Pk.next))))) rfl
theorem fen_walk (a : Option Addr) (n c : Nat) (ops : List Go.Proofs.YtccgdnocldmjeaaDoor.Op) (a1 : Int) (a2 : Bool) (w : World) (h : ROps (fun b => w.heap[b]?) [.slice a n c] ops) (_ : (Lit.int .i64 a1).wf = true) :
    Calls Tryd.prog 3 #[.slice a n c, .int .i64 a1, .bool a2] w fun e w' => e = .returned (.bool true) ∧ Go.RowKit.Below w.heap.size w w' := by
  obtain ⟨v, hv, h1, h2⟩ := h
  obtain rfl := (List.cons.inj hv).1
  exact Trip.top (args := [.slice a n c, vi a1, vb a2]) (Φ := fun g => RdSl ROp 9 g (.slice a n c) ops) (post := fun r _ => r = vb true) h1 (fun _ _ h => h) (fenLaw_ok _ ops a1 a2 h2)
end Go.Proofs.YtccgdnocldmjeaaDoor
