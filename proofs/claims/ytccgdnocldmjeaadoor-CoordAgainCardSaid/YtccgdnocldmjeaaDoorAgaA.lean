/- CoordAgain, walked. -/
import Derived.Test.YtccgdnocldmjeaaDoorAgaP
import Derived.Test.YtccgdnocldmjeaaDoorCo19
import Derived.Test.YtccgdnocldmjeaaDoorTop
namespace Go.Proofs.YtccgdnocldmjeaaDoor
open Go
set_option maxHeartbeats 4000000
set_option linter.unusedSimpArgs false
set_option linter.unusedVariables false
set_option maxRecDepth 20000

theorem run_take3 {ops : List Go.Proofs.YtccgdnocldmjeaaDoor.Op} {i : Nat} {o : Go.Proofs.YtccgdnocldmjeaaDoor.Op} (h : ops[i]? = some o) : run CoS.new (ops.take (i + 1)) = ((run CoS.new (ops.take i)).apply o).2.2 := by
  rw [List.take_add_one, h, Option.toList_some, run_snoc]
theorem run_OkT3 (ops : List Go.Proofs.YtccgdnocldmjeaaDoor.Op) (i : Nat) : (run CoS.new (ops.take i)).Ok i := by
  have h := run_Ok (ops.take i) CoS.Ok.new
  exact h.mono (by rw [List.length_take]; omega)
theorem oks_rep8 (n : Nat) : ∀ Z : List Int, Z.length = n → oks (List.replicate n (.i .u8)) (Z.map v8) = true := by
  induction n with
  | zero => intro Z h; rw [List.length_eq_zero_iff.1 h]; rfl
  | succ n ih =>
    intro Z h
    cases Z with
    | nil => simp at h
    | cons z Z =>
      have := ih Z (by simpa using h)
      simp only [List.replicate_succ, List.map_cons, oks, this, Bool.and_true]
      rfl
theorem sum_len (c : CoS) : c.sum.length = 32 := by unfold CoS.sum dSum; exact dOut_len _ _
theorem repsC_len (l : List Rep) : ((l.map repC).flatten).length = l.length * 3 := by
  induction l with
  | nil => rfl
  | cons x l ih => simp [ih]; omega
theorem reps_split {rs : List Rep} {i : Nat} {m : Rep} (h : rs[i]? = some m) : (rs.map repC).flatten = ((rs.take i).map repC).flatten ++ (repC m ++ ((rs.drop (i + 1)).map repC).flatten) := by
  obtain ⟨hi, he⟩ := List.getElem?_eq_some_iff.1 h
  conv => lhs; rw [← List.take_append_drop i rs, List.drop_eq_getElem_cons hi, he]
  simp
abbrev ag2E (v : Value) (b : Nat) (w : Value) (nh i : Nat) : Env := [(0, v), (3, vp b 0), (4, w), (8, vp nh 0), (9, vi i)]
/-- What the first operations were answered. -/
def reps (ops : List Go.Proofs.YtccgdnocldmjeaaDoor.Op) : Nat → List Rep
  | 0 => []
  | i + 1 => match ops[i]? with
    | some o => reps ops i ++ [((run CoS.new (ops.take i)).apply o).1]
    | none => reps ops i
theorem reps_snoc {ops : List Go.Proofs.YtccgdnocldmjeaaDoor.Op} {i : Nat} {o : Go.Proofs.YtccgdnocldmjeaaDoor.Op} (h : ops[i]? = some o) : reps ops (i + 1) = reps ops i ++ [((run CoS.new (ops.take i)).apply o).1] := by
  simp only [reps, h]
theorem reps_len (ops : List Go.Proofs.YtccgdnocldmjeaaDoor.Op) (i : Nat) (hi : i ≤ ops.length) : (reps ops i).length = i := by
  induction i with
  | zero => rfl
  | succ i ih =>
    rw [reps_snoc (List.getElem?_eq_getElem (by omega)), List.length_append, ih (by omega)]
    rfl
theorem reps_get (ops : List Go.Proofs.YtccgdnocldmjeaaDoor.Op) (n : Nat) (hn : n ≤ ops.length) {i : Nat} {o : Go.Proofs.YtccgdnocldmjeaaDoor.Op} (h : ops[i]? = some o) (hi : i < n) : (reps ops n)[i]? = some ((run CoS.new (ops.take i)).apply o).1 := by
  induction n with
  | zero => omega
  | succ n ih =>
    rw [reps_snoc (List.getElem?_eq_getElem (by omega : n < ops.length))]
    by_cases e : i = n
    · subst e
      rw [List.getElem?_append_right (by rw [reps_len _ _ (by omega)]; omega), reps_len _ _ (by omega), Nat.sub_self]
      have : ops[i] = o := (List.getElem?_eq_some_iff.1 h).2
      rw [this]
      rfl
    · rw [List.getElem?_append_left (by rw [reps_len _ _ (by omega)]; omega)]
      exact ih (by omega) (by omega)
abbrev repA (v : Value) (rs : List Rep) : HP := rowA 30 3 v rs.length (rs.map repC).flatten
theorem repA_snoc (v : Value) (ms : List Rep) (m : Rep) : rowA 30 3 v (ms.length + 1) ((ms.map repC).flatten ++ repC m) = repA v (ms ++ [m]) := by
  have h1 : (ms ++ [m]).length = ms.length + 1 := by simp
  have h2 : ((ms ++ [m]).map repC).flatten = (ms.map repC).flatten ++ repC m := by simp
  unfold repA
  rw [h1, h2]
abbrev agE (v : Value) (b : Nat) (w : Value) (i : Nat) : Env := [(0, v), (3, vp b 0), (4, w), (5, vi i)]
theorem againLaw_ok (v : Value) (ops : List Go.Proofs.YtccgdnocldmjeaaDoor.Op) (hl : ops.length * 80 ≤ reachBytes) : Trip Tryd.prog 9 [v] [opsF v ops] (fun r _ => r = vb true) := by
  have hR : reachBytes = 140737488351232 := by decide
  refine Trip.get Pk.here shape_rdsl ?_
  rintro ⟨a1, c1, rfl⟩
  have s0 := long_ok (.slice a1 ops.length c1) ops (by omega)
  by_cases h40 : (ops.length : Int) > 40
  · refine Trip.of_body Tryd.func9 rfl Tryd.ntmps9 Tryd.results9 rfl ?_
    refine Wp.seq ?_
    refine Wp.region ?_
    refine WpL.step (Stp.rd (Rdo.assign rfl) rfl ?_)
    refine WpL.nil ?_
    refine Thn.n ?_
    refine Wp.seq ?_
    refine Wp.seq ?_
    refine Wp.region ?_
    refine WpL.step (Stp.rd (Rdo.move rfl) rfl ?_)
    refine WpL.step (Stp.call (s0) (by kernel_rfl) rfl (by repeat (first | exact Tk.nil | apply Tk.cons (by repeat (first | exact Pk.here | apply Pk.next)))) rfl ?_)
    rintro _ _ ⟨v10_0, ⟨rfl, rfl⟩⟩
    refine WpL.lst (by simp only [List.cons_append, List.nil_append]; exact rfl) ?_
    refine WpL.step (Stp.rd (Rdo.move rfl) rfl ?_)
    refine WpL.gB rfl rfl (fun c13 => ?_) (fun c13 => ?_)
    refine WpL.pass rfl rfl rfl rfl ?_
    refine WpL.pass rfl rfl rfl rfl ?_
    refine WpL.pass rfl rfl rfl rfl ?_
    refine WpL.step (Stp.rd (Rdo.pick_t rfl rfl) rfl ?_)
    refine WpL.nil ?_
    refine Thn.n ?_
    refine Wp.condT rfl ?_
    refine Wp.seq ?_
    refine Wp.region ?_
    refine WpL.step (Stp.rd (Rdo.assign rfl) rfl ?_)
    refine WpL.nil ?_
    refine Thn.n ?_
    refine Wp.ret ?_
    refine Thn.r ?_
    refine Ret.now (ResV.tmp rfl ResV.nil) (Gh.tk (by repeat (first | exact Tk.nil | apply Tk.cons (by repeat (first | exact Pk.here | apply Pk.next))))) rfl
    refine WpL.want rfl rfl rfl (Stp.rd (Rdo.move rfl) rfl ?_)
    refine WpL.want rfl rfl rfl (Stp.rd (Rdo.lenSlice rfl) rfl ?_)
    refine WpL.want rfl rfl rfl (Stp.rd (Rdo.gti rfl rfl) rfl ?_)
    refine WpL.step (Stp.rd (Rdo.pick_f rfl rfl) rfl ?_)
    refine WpL.nil ?_
    refine Thn.n ?_
    refine Wp.condK rfl (by first | rfl | assumption | (simp only [decide_eq_true_eq, decide_eq_false_iff_not, Bool.not_eq_true', Bool.not_eq_false', List.length_cons, List.length_nil]; first | assumption | omega) | (simp <;> done) | (simp <;> omega)) ?_
    refine Wp.seq ?_
    refine Wp.region ?_
    refine WpL.step (Stp.rd (Rdo.assign rfl) rfl ?_)
    refine WpL.nil ?_
    refine Thn.n ?_
    refine Wp.ret ?_
    refine Thn.r ?_
    refine Ret.now (ResV.tmp rfl ResV.nil) (Gh.tk (by repeat (first | exact Tk.nil | apply Tk.cons (by repeat (first | exact Pk.here | apply Pk.next))))) rfl
  refine Trip.of_body Tryd.func9 rfl Tryd.ntmps9 Tryd.results9 rfl ?_
  refine Wp.seq ?_
  refine Wp.region ?_
  refine WpL.step (Stp.rd (Rdo.assign rfl) rfl ?_)
  refine WpL.nil ?_
  refine Thn.n ?_
  refine Wp.seq ?_
  refine Wp.seq ?_
  refine Wp.region ?_
  refine WpL.step (Stp.rd (Rdo.move rfl) rfl ?_)
  refine WpL.step (Stp.call (s0) (by kernel_rfl) rfl (by repeat (first | exact Tk.nil | apply Tk.cons (by repeat (first | exact Pk.here | apply Pk.next)))) rfl ?_)
  rintro _ _ ⟨v10_0, ⟨rfl, rfl⟩⟩
  refine WpL.lst (by simp only [List.cons_append, List.nil_append]; exact rfl) ?_
  refine WpL.step (Stp.rd (Rdo.move rfl) rfl ?_)
  refine WpL.gB rfl rfl (fun c13 => ?_) (fun c13 => ?_)
  refine WpL.pass rfl rfl rfl rfl ?_
  refine WpL.pass rfl rfl rfl rfl ?_
  refine WpL.pass rfl rfl rfl rfl ?_
  refine WpL.step (Stp.rd (Rdo.pick_t rfl rfl) rfl ?_)
  refine WpL.nil ?_
  refine Thn.n ?_
  refine Wp.condT rfl ?_
  refine Wp.seq ?_
  refine Wp.region ?_
  refine WpL.step (Stp.rd (Rdo.assign rfl) rfl ?_)
  refine WpL.nil ?_
  refine Thn.n ?_
  refine Wp.ret ?_
  refine Thn.r ?_
  refine Ret.now (ResV.tmp rfl ResV.nil) (Gh.tk (by repeat (first | exact Tk.nil | apply Tk.cons (by repeat (first | exact Pk.here | apply Pk.next))))) rfl
  refine WpL.want rfl rfl rfl (Stp.rd (Rdo.move rfl) rfl ?_)
  refine WpL.want rfl rfl rfl (Stp.rd (Rdo.lenSlice rfl) rfl ?_)
  refine WpL.want rfl rfl rfl (Stp.rd (Rdo.gti rfl rfl) rfl ?_)
  refine WpL.step (Stp.rd (Rdo.pick_f rfl rfl) rfl ?_)
  refine WpL.nil ?_
  refine Thn.n ?_
  refine Wp.condL rfl (by first | rfl | assumption | (simp only [decide_eq_true_eq, decide_eq_false_iff_not, Bool.not_eq_true', Bool.not_eq_false', List.length_cons, List.length_nil]; first | assumption | omega) | (simp <;> done) | (simp <;> omega)) ?_
  refine Wp.skip ?_
  refine Thn.n ?_
  refine Wp.seq ?_
  refine Wp.region ?_
  refine WpL.step (Stp.call (new_ok) (by kernel_rfl) rfl (by repeat (first | exact Tk.nil | apply Tk.cons (by repeat (first | exact Pk.here | apply Pk.next)))) rfl ?_)
  rintro _ _ ⟨v41_0, ⟨rfl, rfl⟩⟩
  refine WpL.lst (by simp only [List.cons_append, List.nil_append]; exact rfl) ?_
  refine WpL.step (Stp.rd (Rdo.assign rfl) rfl ?_)
  refine WpL.nil ?_
  refine Thn.n ?_
  refine Wp.seq ?_
  refine Wp.seq ?_
  refine Wp.region ?_
  refine WpL.step (Stp.rd (Rdo.move rfl) rfl ?_)
  refine WpL.step (Stp.rd (Rdo.eqnil rfl rfl) rfl ?_)
  refine WpL.nil ?_
  refine Thn.n ?_
  refine Wp.condF rfl ?_
  refine Wp.skip ?_
  refine Thn.n ?_
  refine Wp.seq ?_
  refine Wp.region ?_
  refine WpL.step (Stp.rd (Rdo.assign rfl) rfl ?_)
  refine WpL.nil ?_
  refine Thn.n ?_
  refine Wp.seq ?_
  refine Wp.seq ?_
  refine Wp.region ?_
  refine WpL.step (Stp.rd (Rdo.assign rfl) rfl ?_)
  refine WpL.nil ?_
  refine Thn.n ?_
  refine Wp.block ?_
  have hto : NmTo ops 80 := v10_0.2 c13
  obtain ⟨b, hb⟩ : ∃ n, n = v41_0 := ⟨_, rfl⟩
  subst hb
  refine Wp.loopE (fun k e h => ∃ (i : Nat) (w : Value), i + k = ops.length ∧ e = agE (.slice a1 ops.length c1) b w i ∧ h = [coA b (run CoS.new (ops.take i)), repA w (reps ops i), opsF (.slice a1 ops.length c1) ops]) ops.length
    (e0 := agE (.slice a1 ops.length c1) b vnil 0) (l0 := [coA b (run CoS.new (ops.take 0)), repA vnil (reps ops 0), opsF (.slice a1 ops.length c1) ops]) (by repeat (first | exact trivial | refine ⟨rfl, ?_⟩)) (by repeat (first | exact trivial | refine ⟨rfl, ?_⟩)) (Gh.trans (Gh.nil 30 3) (Gh.tk (by repeat (first | exact Tk.nil | apply Tk.cons (by repeat (first | exact Pk.here | apply Pk.next)))))) ⟨0, _, by omega, rfl, rfl⟩ ?_
  rintro k e h ⟨i, w, hik, rfl, rfl⟩
  refine Wp.get (Pk.next Pk.here) (fun r => rowA_shape) ?_
  rintro ⟨a2, c2, rfl⟩
  by_cases hi : i < ops.length
  · have hi' : (i : Int) < ops.length := by omega
    refine Wp.ghE (GhE.elem (R := ROp) (Pk.next (Pk.next Pk.here)) i hi) ?_
    rintro ⟨bb, oo, cap, cs⟩ ⟨hv, hcs⟩
    simp only [Value.slice.injEq, true_and] at hv
    obtain ⟨rfl, rfl⟩ := hv
    simp only
    refine Wp.get (Pk.next Pk.here) rop_ ?_
    rintro ⟨rfl, -⟩
    have hat : ops[i]? = some ops[i] := List.getElem?_eq_getElem hi
    have hnl := hto i ops[i] (by omega) hat
    have hrs := reps_snoc hat
    have hrl := reps_len ops i (by omega)
    have hr40 : (reps ops i).length ≤ 40 := by omega
    generalize ops[i] = x at *
    have s3 := apply_ok b (run CoS.new (ops.take i)) x (by omega) i (by omega) (run_OkT3 ops i)
    rw [← run_take3 hat] at s3
    generalize hR : (run CoS.new (ops.take i)).apply x = R at *
    refine Wp.seq ?_
    refine Wp.seq ?_
    refine Wp.region ?_
    refine WpL.step (Stp.rd (Rdo.move rfl) rfl ?_)
    refine WpL.step (Stp.rd (Rdo.move rfl) rfl ?_)
    refine WpL.step (Stp.rd (Rdo.lenSlice rfl) rfl ?_)
    refine WpL.step (Stp.rd (Rdo.lti rfl rfl) rfl ?_)
    refine WpL.nil ?_
    refine Thn.n ?_
    refine Wp.condK rfl (by first | rfl | assumption | (simp only [decide_eq_true_eq, decide_eq_false_iff_not, Bool.not_eq_true', Bool.not_eq_false', List.length_cons, List.length_nil]; first | assumption | omega) | (simp <;> done) | (simp <;> omega)) ?_
    refine Wp.skip ?_
    refine Thn.n ?_
    refine Wp.seq ?_
    refine Wp.block ?_
    refine Wp.seq ?_
    refine Wp.region ?_
    refine WpL.step (Stp.rd (Rdo.move rfl) rfl ?_)
    refine WpL.step (Stp.rd (Rdo.move rfl) rfl ?_)
    refine WpL.step (Stp.rd (Rdo.move rfl) rfl ?_)
    refine WpL.step (Stp.rd (Rdo.indexSlice rfl rfl (by omega)) rfl ?_)
    refine WpL.step (Stp.rd (Rdo.load rfl (by apply Lds.iall; (first | rfl | assumption | (simp <;> fail)))) rfl ?_)
    refine WpL.step (Stp.call (s3) (by kernel_rfl) rfl (by repeat (first | exact Tk.nil | apply Tk.cons (by repeat (first | exact Pk.here | apply Pk.next)))) rfl ?_)
    rintro _ _ ⟨v22_0, ⟨v22_1, ⟨rfl, rfl⟩⟩⟩
    refine WpL.lst (by simp only [List.cons_append, List.nil_append]; exact rfl) ?_
    refine WpL.step (Stp.rd (Rdo.move rfl) rfl ?_)
    refine WpL.step (Stp.rd (Rdo.extract rfl rfl) rfl ?_)
    refine WpL.step (Stp.rd (Rdo.extract rfl rfl) rfl ?_)
    (refine WpL.step (Stp.alloc rfl ?_); intro nb27)
    refine WpL.step (Stp.storeV rfl rfl (VC.ag _) (by first | rfl | assumption | (simp <;> done)) (by repeat (first | (apply Sts.all; (focus (first | rfl | assumption | (simp <;> done))); (focus (first | exact oneCells1 rfl | assumption | exact oneCells1 (by assumption) | ((repeat (first | assumption | exact oneCells_nil | exact oneCells_bytesC _ | (apply oneCells_cons; (focus (first | rfl | assumption))) | apply oneCells_append)); done) | (simp [oneCells, Value.oneCell'] <;> done)))) | (apply Sts.lp (by repeat (first | exact LPut.nil _ | apply LPut.here | apply LPut.next)); (focus (first | exact oneCells1 rfl | assumption | exact oneCells1 (by assumption) | ((repeat (first | assumption | exact oneCells_nil | exact oneCells_bytesC _ | (apply oneCells_cons; (focus (first | rfl | assumption))) | apply oneCells_append)); done) | (simp [oneCells, Value.oneCell'] <;> done)))) | (refine Sts.row1 (by first | assumption | omega | (simp <;> omega)) (by first | rfl | assumption)) | (refine Sts.rowP (by assumption) (by first | rfl | assumption | (simp <;> done)) (by rfl) (by (first | exact oneCells1 rfl | assumption | exact oneCells1 (by assumption) | ((repeat (first | assumption | exact oneCells_nil | exact oneCells_bytesC _ | (apply oneCells_cons; (focus (first | rfl | assumption))) | apply oneCells_append)); done) | (simp [oneCells, Value.oneCell'] <;> done)))) | apply Sts.next)) ?_)
    refine WpL.step (Stp.rd (Rdo.assign rfl) rfl ?_)
    refine WpL.nil ?_
    refine Thn.n ?_
    refine Wp.region ?_
    refine WpL.step (Stp.rd (Rdo.move rfl) rfl ?_)
    refine WpL.step (Stp.rd (Rdo.load rfl (by apply Lds.all; (first | rfl | assumption | (simp <;> fail)))) rfl ?_)
    (refine WpL.step (Stp.sliceV rfl rfl (VCs.cons (VC.ag _) (by first | rfl | assumption | (simp <;> done)) VCs.nil) (by simp only [List.cons_append, List.nil_append, List.append_nil]; exact rfl) rfl rfl ?_); intro nb35)
    (refine WpL.step (Stp.appendP rfl rfl (Pk.next (Pk.next (Pk.next (Pk.next (Pk.next (Pk.next (Pk.next Pk.here))))))) (Src.cel (by first | rfl | (simp <;> done) | (simp <;> omega))) (by first | rfl | (simp <;> done) | (simp <;> omega)) (by first | assumption | exact oneCells1 rfl | exact oneCells1 (by assumption) | exact oneCells_bytesC _ | exact oneCells_votesC _ | (simp [oneCells, Value.oneCell'] <;> done)) (by first | omega | (simp <;> omega)) (by first | omega | (simp <;> omega)) rfl (by first | rfl | (simp <;> done)) ?_); intro na36 nc36)
    refine WpL.step (Stp.rd (Rdo.assign rfl) rfl ?_)
    refine WpL.nil ?_
    refine Blk.n ?_
    refine Thn.n ?_
    refine Wp.region ?_
    refine WpL.step (Stp.rd (Rdo.move rfl) rfl ?_)
    refine WpL.step (Stp.rd (Rdo.succ rfl rfl (by omega)) rfl ?_)
    refine WpL.step (Stp.rd (Rdo.assign rfl) rfl ?_)
    refine WpL.nil ?_
    refine Thn.n ?_
    refine ⟨k - 1, _, _, by omega, ⟨i + 1, _, by omega, rfl, rfl⟩, (by repeat (first | exact trivial | refine ⟨rfl, ?_⟩)), ?_⟩
    rw [hrs, ← repA_snoc]
    exact Gh.tk (by repeat (first | exact Tk.nil | apply Tk.cons (by repeat (first | exact Pk.here | apply Pk.next))))
  · have hOk := run_OkT3 ops ops.length
    have hie : i = ops.length := by omega
    subst hie
    have hag := fun j o => again_plain ops CoS.new j o
    have hrg := fun j o => reps_get ops ops.length (Nat.le_refl _) (i := j) (o := o)
    have hrl := reps_len ops ops.length (Nat.le_refl _)
    rw [List.take_length] at *
    generalize run CoS.new ops = c at *
    generalize reps ops ops.length = rs at *
    have hml := hOk.ml
    have s2 := csum_ok b c (by omega)
    have hzl := sum_len c
    generalize c.sum = Z at *
    have ok1 := oks_rep8 32 Z hzl
    have hz1 : (Z.map v8).length = 32 := by rw [List.length_map]; exact hzl
    refine Wp.seq ?_
    refine Wp.seq ?_
    refine Wp.region ?_
    refine WpL.step (Stp.rd (Rdo.move rfl) rfl ?_)
    refine WpL.step (Stp.rd (Rdo.move rfl) rfl ?_)
    refine WpL.step (Stp.rd (Rdo.lenSlice rfl) rfl ?_)
    refine WpL.step (Stp.rd (Rdo.lti rfl rfl) rfl ?_)
    refine WpL.nil ?_
    refine Thn.n ?_
    refine Wp.condL rfl (by first | rfl | assumption | (simp only [decide_eq_true_eq, decide_eq_false_iff_not, Bool.not_eq_true', Bool.not_eq_false', List.length_cons, List.length_nil]; first | assumption | omega) | (simp <;> done) | (simp <;> omega)) ?_
    refine Wp.exit ?_
    refine Thn.x ?_
    refine Thn.x ?_
    refine Blk.here ?_
    refine Thn.n ?_
    refine Wp.seq ?_
    refine Wp.region ?_
    refine WpL.step (Stp.rd (Rdo.move rfl) rfl ?_)
    refine WpL.step (Stp.call (s2) (by kernel_rfl) rfl (by repeat (first | exact Tk.nil | apply Tk.cons (by repeat (first | exact Pk.here | apply Pk.next)))) rfl ?_)
    rintro _ _ ⟨rfl, rfl⟩
    refine WpL.lst (by simp only [List.cons_append, List.nil_append]; exact rfl) ?_
    (refine WpL.step (Stp.alloc rfl ?_); intro nb21)
    refine WpL.step (Stp.storeV rfl rfl (VC.ag _) (by first | rfl | assumption | (simp <;> done)) (by repeat (first | (apply Sts.all; (focus (first | rfl | assumption | (simp <;> done))); (focus (first | exact oneCells1 rfl | assumption | exact oneCells1 (by assumption) | ((repeat (first | assumption | exact oneCells_nil | exact oneCells_bytesC _ | (apply oneCells_cons; (focus (first | rfl | assumption))) | apply oneCells_append)); done) | (simp [oneCells, Value.oneCell'] <;> done)))) | (apply Sts.lp (by repeat (first | exact LPut.nil _ | apply LPut.here | apply LPut.next)); (focus (first | exact oneCells1 rfl | assumption | exact oneCells1 (by assumption) | ((repeat (first | assumption | exact oneCells_nil | exact oneCells_bytesC _ | (apply oneCells_cons; (focus (first | rfl | assumption))) | apply oneCells_append)); done) | (simp [oneCells, Value.oneCell'] <;> done)))) | (refine Sts.row1 (by first | assumption | omega | (simp <;> omega)) (by first | rfl | assumption)) | (refine Sts.rowP (by assumption) (by first | rfl | assumption | (simp <;> done)) (by rfl) (by (first | exact oneCells1 rfl | assumption | exact oneCells1 (by assumption) | ((repeat (first | assumption | exact oneCells_nil | exact oneCells_bytesC _ | (apply oneCells_cons; (focus (first | rfl | assumption))) | apply oneCells_append)); done) | (simp [oneCells, Value.oneCell'] <;> done)))) | apply Sts.next)) ?_)
    refine WpL.nil ?_
    refine Thn.n ?_
    refine Wp.seq ?_
    refine Wp.seq ?_
    refine Wp.region ?_
    refine WpL.step (Stp.rd (Rdo.assign rfl) rfl ?_)
    refine WpL.nil ?_
    refine Thn.n ?_
    refine Wp.block ?_
    refine Wp.loopE (fun k e h => ∃ i : Nat, i + k = ops.length ∧ e = ag2E (.slice a1 ops.length c1) b (.slice a2 rs.length c2) nb21 i ∧ h = [coA b c, cel nb21 54 (Z.map v8), repA (.slice a2 rs.length c2) rs, opsF (.slice a1 ops.length c1) ops]) ops.length
      (e0 := ag2E (.slice a1 ops.length c1) b (.slice a2 rs.length c2) nb21 0) (l0 := [coA b c, cel nb21 54 (Z.map v8), repA (.slice a2 rs.length c2) rs, opsF (.slice a1 ops.length c1) ops]) (by repeat (first | exact trivial | refine ⟨rfl, ?_⟩)) (by repeat (first | exact trivial | refine ⟨rfl, ?_⟩)) (Gh.tk (by repeat (first | exact Tk.nil | apply Tk.cons (by repeat (first | exact Pk.here | apply Pk.next))))) ⟨0, by omega, rfl, rfl⟩ ?_
    rintro k e h ⟨i, hik, rfl, rfl⟩
    by_cases hi : i < ops.length
    · have hi' : (i : Int) < ops.length := by omega
      refine Wp.get (Pk.next (Pk.next Pk.here)) (fun r => rowA_at i (by omega)) ?_
      rintro ⟨rb, ro, rc, hv⟩
      simp only [Value.slice.injEq, true_and] at hv
      obtain ⟨rfl, rfl⟩ := hv
      refine Wp.ghE (GhE.elem (R := ROp) (Pk.next (Pk.next (Pk.next Pk.here))) i hi) ?_
      rintro ⟨bb, oo, cap, cs⟩ ⟨hv, hcs⟩
      simp only [Value.slice.injEq, true_and] at hv
      obtain ⟨rfl, rfl⟩ := hv
      simp only
      refine Wp.get (Pk.next Pk.here) rop_ ?_
      rintro ⟨rfl, -⟩
      have hat : ops[i]? = some ops[i] := List.getElem?_eq_getElem hi
      have hnl := hto i ops[i] (by omega) hat
      have hap := hag i ops[i] hat
      have hrr := hrg i ops[i] hat hi
      generalize ops[i] = x at *
      have s3 := apply_ok b c x (by omega) ops.length (by omega) hOk
      rw [hap] at s3
      generalize ((run CoS.new (ops.take i)).apply x).1 = rep at *
      have hsp := reps_split hrr
      have hpl : (((rs.take i).map repC).flatten).length = i * 3 := by rw [repsC_len, List.length_take, Nat.min_eq_left (by omega)]
      clear hag hrg hat hap
      refine Wp.seq ?_
      refine Wp.seq ?_
      refine Wp.region ?_
      refine WpL.step (Stp.rd (Rdo.move rfl) rfl ?_)
      refine WpL.step (Stp.rd (Rdo.move rfl) rfl ?_)
      refine WpL.step (Stp.rd (Rdo.lenSlice rfl) rfl ?_)
      refine WpL.step (Stp.rd (Rdo.lti rfl rfl) rfl ?_)
      refine WpL.nil ?_
      refine Thn.n ?_
      refine Wp.condK rfl (by first | rfl | assumption | (simp only [decide_eq_true_eq, decide_eq_false_iff_not, Bool.not_eq_true', Bool.not_eq_false', List.length_cons, List.length_nil]; first | assumption | omega) | (simp <;> done) | (simp <;> omega)) ?_
      refine Wp.skip ?_
      refine Thn.n ?_
      refine Wp.seq ?_
      refine Wp.block ?_
      refine Wp.seq ?_
      refine Wp.region ?_
      refine WpL.step (Stp.rd (Rdo.move rfl) rfl ?_)
      refine WpL.step (Stp.rd (Rdo.move rfl) rfl ?_)
      refine WpL.step (Stp.rd (Rdo.move rfl) rfl ?_)
      refine WpL.step (Stp.rd (Rdo.indexSlice rfl rfl (by omega)) rfl ?_)
      refine WpL.step (Stp.rd (Rdo.load rfl (by apply Lds.iall; (first | rfl | assumption | (simp <;> fail)))) rfl ?_)
      refine WpL.step (Stp.call (s3) (by kernel_rfl) rfl (by repeat (first | exact Tk.nil | apply Tk.cons (by repeat (first | exact Pk.here | apply Pk.next)))) rfl ?_)
      rintro _ _ ⟨v22_0, ⟨v22_1, ⟨rfl, rfl⟩⟩⟩
      refine WpL.lst (by simp only [List.cons_append, List.nil_append]; exact rfl) ?_
      refine WpL.step (Stp.rd (Rdo.move rfl) rfl ?_)
      refine WpL.step (Stp.rd (Rdo.extract rfl rfl) rfl ?_)
      refine WpL.step (Stp.rd (Rdo.extract rfl rfl) rfl ?_)
      (refine WpL.step (Stp.alloc rfl ?_); intro nb27)
      refine WpL.step (Stp.storeV rfl rfl (VC.ag _) (by first | rfl | assumption | (simp <;> done)) (by repeat (first | (apply Sts.all; (focus (first | rfl | assumption | (simp <;> done))); (focus (first | exact oneCells1 rfl | assumption | exact oneCells1 (by assumption) | ((repeat (first | assumption | exact oneCells_nil | exact oneCells_bytesC _ | (apply oneCells_cons; (focus (first | rfl | assumption))) | apply oneCells_append)); done) | (simp [oneCells, Value.oneCell'] <;> done)))) | (apply Sts.lp (by repeat (first | exact LPut.nil _ | apply LPut.here | apply LPut.next)); (focus (first | exact oneCells1 rfl | assumption | exact oneCells1 (by assumption) | ((repeat (first | assumption | exact oneCells_nil | exact oneCells_bytesC _ | (apply oneCells_cons; (focus (first | rfl | assumption))) | apply oneCells_append)); done) | (simp [oneCells, Value.oneCell'] <;> done)))) | (refine Sts.row1 (by first | assumption | omega | (simp <;> omega)) (by first | rfl | assumption)) | (refine Sts.rowP (by assumption) (by first | rfl | assumption | (simp <;> done)) (by rfl) (by (first | exact oneCells1 rfl | assumption | exact oneCells1 (by assumption) | ((repeat (first | assumption | exact oneCells_nil | exact oneCells_bytesC _ | (apply oneCells_cons; (focus (first | rfl | assumption))) | apply oneCells_append)); done) | (simp [oneCells, Value.oneCell'] <;> done)))) | apply Sts.next)) ?_)
      refine WpL.step (Stp.rd (Rdo.assign rfl) rfl ?_)
      refine WpL.nil ?_
      refine Thn.n ?_
      refine Wp.seq ?_
      refine Wp.draw (by kernel_rfl) ?_
      refine WpR.take (i := 1) rfl (by kernel_rfl) (by kernel_rfl) (by kernel_rfl) (Rdo.move rfl) rfl ?_
      refine WpR.take (i := 2) rfl (by kernel_rfl) (by kernel_rfl) (by kernel_rfl) (Rdo.move rfl) rfl ?_
      refine WpR.take (i := 3) rfl (by kernel_rfl) (by kernel_rfl) (by kernel_rfl) (Rdo.indexSlice rfl rfl (by omega)) rfl ?_
      refine WpR.phaseL (m := 0) #[true, true, true, true, true, true, true, true, true, true, true] 8 _ rfl (by kernel_rfl) (Tk.cons Pk.here (Tk.cons (Pk.next (Pk.next (Pk.next (Pk.next (Pk.next (Pk.next Pk.here)))))) Tk.nil)) ?_
      refine WpA.take (i := 0) rfl rfl (by kernel_rfl) (by kernel_rfl) (by kernel_rfl) (Rdo.load rfl (by apply Lds.all; (first | rfl | assumption | (simp <;> fail)))) rfl ?_
      refine WpA.take (i := 4) rfl rfl (by kernel_rfl) (by kernel_rfl) (by kernel_rfl) (Rdo.load rfl (Lds.next (Lds.row (by assumption) (by first | assumption | omega | (simp <;> omega)) (by first | assumption | rfl)))) rfl ?_
      refine WpA.take (i := 5) rfl rfl (by kernel_rfl) (by kernel_rfl) (by kernel_rfl) (Rdo.neagg rfl rfl (by first | rfl | exact oks_hc _ | exact oks_voteC _ | assumption) (by first | rfl | exact oks_hc _ | exact oks_voteC _ | assumption)) rfl ?_
      refine WpA.take (i := 6) rfl rfl (by kernel_rfl) (by kernel_rfl) (by kernel_rfl) (Rdo.move rfl) rfl ?_
      refine WpA.tF 64 rfl (by first | rfl | assumption | (simp only [decide_eq_true_eq, decide_eq_false_iff_not, Bool.not_eq_true', Bool.not_eq_false', List.length_cons, List.length_nil]; first | assumption | omega) | (simp <;> done) | (simp <;> omega)) ?_
      refine WpA.want (i := 7) rfl rfl rfl rfl rfl (by kernel_rfl) (by kernel_rfl) (by kernel_rfl) (Rdo.move rfl) rfl ?_
      refine WpA.want (i := 8) rfl rfl rfl rfl rfl (by kernel_rfl) (by kernel_rfl) (by kernel_rfl) (Rdo.lenSlice rfl) rfl ?_
      refine WpA.want (i := 9) rfl rfl rfl rfl rfl (by kernel_rfl) (by kernel_rfl) (by kernel_rfl) (Rdo.nei rfl rfl) rfl ?_
      refine WpA.take (i := 10) rfl rfl (by kernel_rfl) (by kernel_rfl) (by kernel_rfl) (Rdo.pick_f rfl rfl) rfl ?_
      refine WpA.stop (by kernel_rfl) ?_
      refine WpR.lst (by simp only [List.cons_append, List.nil_append]; exact rfl) ?_
      refine WpR.done (by kernel_rfl) ?_
      refine Thn.n ?_
      refine Wp.condF rfl ?_
      refine Wp.skip ?_
      refine Blk.n ?_
      refine Thn.n ?_
      refine Wp.region ?_
      refine WpL.step (Stp.rd (Rdo.move rfl) rfl ?_)
      refine WpL.step (Stp.rd (Rdo.succ rfl rfl (by omega)) rfl ?_)
      refine WpL.step (Stp.rd (Rdo.assign rfl) rfl ?_)
      refine WpL.nil ?_
      refine Thn.n ?_
      exact ⟨k - 1, _, _, by omega, ⟨i + 1, by omega, rfl, rfl⟩, (by repeat (first | exact trivial | refine ⟨rfl, ?_⟩)), Gh.tk (by repeat (first | exact Tk.nil | apply Tk.cons (by repeat (first | exact Pk.here | apply Pk.next))))⟩
    · refine Wp.seq ?_
      refine Wp.seq ?_
      refine Wp.region ?_
      refine WpL.step (Stp.rd (Rdo.move rfl) rfl ?_)
      refine WpL.step (Stp.rd (Rdo.move rfl) rfl ?_)
      refine WpL.step (Stp.rd (Rdo.lenSlice rfl) rfl ?_)
      refine WpL.step (Stp.rd (Rdo.lti rfl rfl) rfl ?_)
      refine WpL.nil ?_
      refine Thn.n ?_
      refine Wp.condL rfl (by first | rfl | assumption | (simp only [decide_eq_true_eq, decide_eq_false_iff_not, Bool.not_eq_true', Bool.not_eq_false', List.length_cons, List.length_nil]; first | assumption | omega) | (simp <;> done) | (simp <;> omega)) ?_
      refine Wp.exit ?_
      refine Thn.x ?_
      refine Thn.x ?_
      refine Blk.here ?_
      refine Thn.n ?_
      refine Wp.seq ?_
      refine Wp.draw (by kernel_rfl) ?_
      refine WpR.take (i := 0) rfl (by kernel_rfl) (by kernel_rfl) (by kernel_rfl) (Rdo.move rfl) rfl ?_
      refine WpR.phaseL (m := 0) #[true, true, true, true, true, true, true, true] 7 _ rfl (by kernel_rfl) (Tk.cons (Pk.next Pk.here) Tk.nil) ?_
      refine WpA.take (i := 2) rfl rfl (by kernel_rfl) (by kernel_rfl) (by kernel_rfl) (Rdo.load rfl (by apply Lds.all; (first | rfl | assumption | (simp <;> fail)))) rfl ?_
      refine WpA.one (i := 1) rfl (by kernel_rfl) (Stp.call (s2) (by kernel_rfl) rfl (by repeat (first | exact Tk.nil | apply Tk.cons (by repeat (first | exact Pk.here | apply Pk.next)))) rfl ?_)
      rintro _ _ ⟨rfl, rfl⟩
      refine WpA.lst (by simp only [List.cons_append, List.nil_append]; exact rfl) ?_
      refine WpA.take (i := 3) rfl rfl (by kernel_rfl) (by kernel_rfl) (by kernel_rfl) (Rdo.eqagg rfl rfl (by first | rfl | exact oks_hc _ | exact oks_voteC _ | assumption) (by first | rfl | exact oks_hc _ | exact oks_voteC _ | assumption)) rfl ?_
      refine WpA.take (i := 4) rfl rfl (by kernel_rfl) (by kernel_rfl) (by kernel_rfl) (Rdo.move rfl) rfl ?_
      refine WpA.tT 73 rfl (by first | rfl | assumption | (simp only [decide_eq_true_eq, decide_eq_false_iff_not, Bool.not_eq_true', Bool.not_eq_false', List.length_cons, List.length_nil]; first | assumption | omega) | (simp <;> done) | (simp <;> omega)) ?_
      refine WpA.oneG (i := 5) rfl rfl rfl rfl (by kernel_rfl) (Stp.call (known_ok) (by kernel_rfl) rfl (by repeat (first | exact Tk.nil | apply Tk.cons (by repeat (first | exact Pk.here | apply Pk.next)))) rfl ?_)
      rintro _ _ ⟨rfl, rfl⟩
      refine WpA.lst (by simp only [List.cons_append, List.nil_append]; exact rfl) ?_
      refine WpA.take (i := 6) rfl rfl (by kernel_rfl) (by kernel_rfl) (by kernel_rfl) (Rdo.pick_t rfl rfl) rfl ?_
      refine WpA.take (i := 7) rfl rfl (by kernel_rfl) (by kernel_rfl) (by kernel_rfl) (Rdo.assign rfl) rfl ?_
      refine WpA.stop (by kernel_rfl) ?_
      refine WpR.lst (by simp only [List.cons_append, List.nil_append]; exact rfl) ?_
      refine WpR.done (by kernel_rfl) ?_
      refine Thn.n ?_
      refine Wp.ret ?_
      refine Ret.now (ResV.tmp rfl ResV.nil) (Gh.tk (by repeat (first | exact Tk.nil | apply Tk.cons (by repeat (first | exact Pk.here | apply Pk.next))))) rfl
theorem aga_walk (a : Option Addr) (n c : Nat) (ops : List Go.Proofs.YtccgdnocldmjeaaDoor.Op) (w : World) (h : ROps (fun b => w.heap[b]?) [.slice a n c] ops) :
    Calls Tryd.prog 9 #[.slice a n c] w fun e w' => e = .returned (.bool true) ∧ Go.RowKit.Below w.heap.size w w' := by
  obtain ⟨v, hv, h1, h2⟩ := h
  obtain rfl := (List.cons.inj hv).1
  exact Trip.top (args := [.slice a n c]) (Φ := fun g => RdSl ROp 9 g (.slice a n c) ops) (post := fun r _ => r = vb true) h1 (fun _ _ h => h) (againLaw_ok _ ops h2)
end Go.Proofs.YtccgdnocldmjeaaDoor
