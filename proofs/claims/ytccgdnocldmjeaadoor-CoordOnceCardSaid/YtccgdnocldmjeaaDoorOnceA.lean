/- CoordOnce, walked. -/
import Derived.Test.YtccgdnocldmjeaaDoorOnceP
import Derived.Test.YtccgdnocldmjeaaDoorTop
namespace Go.Proofs.YtccgdnocldmjeaaDoor
open Go
set_option maxHeartbeats 4000000
set_option linter.unusedSimpArgs false
set_option linter.unusedVariables false
set_option maxRecDepth 20000

theorem run_take {ops : List Go.Proofs.YtccgdnocldmjeaaDoor.Op} {i : Nat} {o : Go.Proofs.YtccgdnocldmjeaaDoor.Op} (h : ops[i]? = some o) : run CoS.new (ops.take (i + 1)) = ((run CoS.new (ops.take i)).apply o).2.2 := by
  rw [List.take_add_one, h, Option.toList_some, run_snoc]
theorem run_OkT (ops : List Go.Proofs.YtccgdnocldmjeaaDoor.Op) (i : Nat) : (run CoS.new (ops.take i)).Ok i := by
  have h := run_Ok (ops.take i) CoS.Ok.new
  exact h.mono (by rw [List.length_take]; omega)
theorem run_PaT (ops : List Go.Proofs.YtccgdnocldmjeaaDoor.Op) (i : Nat) : PaL (run CoS.new (ops.take i)).prods := run_Pa _ (by intro p hp; cases hp)
theorem run_OnceT (ops : List Go.Proofs.YtccgdnocldmjeaaDoor.Op) (i : Nat) : OnceC (run CoS.new (ops.take i)) := run_Once _ CoS.Ok.new OnceL.nil
abbrev onE (v : Value) (b i : Nat) : Env := [(0, v), (3, vp b 0), (4, vi i)]
abbrev onL (b : Nat) (c : CoS) (a : Option Addr) (cp : Nat) (a1 : Option Addr) (c1 : Nat) (ops : List Go.Proofs.YtccgdnocldmjeaaDoor.Op) : List HP := [coA b c, markA (.slice a c.marks.length cp) c.marks, opsF (.slice a1 ops.length c1) ops]
theorem marks_get (ms : List Mark) (i : Nat) (m : Mark) (h : ms[i]? = some m) (f : Nat) (hf : f < 4) : ((ms.map markC).flatten)[i * 4 + f]? = (markC m)[f]? := by
  induction ms generalizing i with
  | nil => simp at h
  | cons x ms ih =>
    cases i with
    | zero =>
      simp only [List.getElem?_cons_zero, Option.some.injEq] at h
      subst h
      rw [List.map_cons, List.flatten_cons, List.getElem?_append_left (by simp [markC]; omega)]
      congr 1
      omega
    | succ i =>
      rw [List.getElem?_cons_succ] at h
      rw [List.map_cons, List.flatten_cons, List.getElem?_append_right (by simp [markC]; omega), ← ih i h]
      congr 1
      simp [markC]
      omega
theorem marks_cell {ms : List Mark} {i : Nat} {m : Mark} (h : ms[i]? = some m) : ((ms.map markC).flatten)[i * 4 + 1]? = some (vi m.producer) ∧ ((ms.map markC).flatten)[i * 4 + 2]? = some (vi m.epoch) ∧ ((ms.map markC).flatten)[i * 4 + 3]? = some (vi m.txn) :=
  ⟨marks_get ms i m h 1 (by omega), marks_get ms i m h 2 (by omega), marks_get ms i m h 3 (by omega)⟩
theorem onceLaw_ok (v : Value) (ops : List Go.Proofs.YtccgdnocldmjeaaDoor.Op) (hl : ops.length * 80 ≤ reachBytes) : Trip Tryd.prog 7 [v] [opsF v ops] (fun r _ => r = vb true) := by
  have hR : reachBytes = 140737488351232 := by decide
  refine Trip.get Pk.here shape_rdsl ?_
  rintro ⟨a1, c1, rfl⟩
  have s0 := long_ok (.slice a1 ops.length c1) ops (by omega)
  refine Trip.of_body Tryd.func7 rfl Tryd.ntmps7 Tryd.results7 rfl ?_
  refine Wp.seq ?_
  refine Wp.region ?_
  refine WpL.step (Stp.rd (Rdo.assign rfl) rfl ?_)
  refine WpL.nil ?_
  refine Thn.n ?_
  refine Wp.seq ?_
  refine Wp.seq ?_
  refine Wp.region ?_
  refine WpL.step (Stp.rd (Rdo.move rfl) rfl ?_)
  refine WpL.step (Stp.call (s0) (by kernel_rfl) rfl (by repeat (first | exact Tk.nil | apply Tk.cons (by repeat (first | exact Pk.here | apply Pk.next)))) rfl ?_)
  rintro _ _ ⟨v10_0, ⟨rfl, rfl⟩⟩
  refine WpL.lst (by simp only [List.cons_append, List.nil_append]; exact rfl) ?_
  refine WpL.nil ?_
  refine Thn.n ?_
  refine Wp.cond rfl (fun c14 => ?_) (fun c14 => ?_)
  refine Wp.seq ?_
  refine Wp.region ?_
  refine WpL.step (Stp.rd (Rdo.assign rfl) rfl ?_)
  refine WpL.nil ?_
  refine Thn.n ?_
  refine Wp.ret ?_
  refine Thn.r ?_
  refine Ret.now (ResV.tmp rfl ResV.nil) (Gh.tk (by repeat (first | exact Tk.nil | apply Tk.cons (by repeat (first | exact Pk.here | apply Pk.next))))) rfl
  refine Wp.skip ?_
  refine Thn.n ?_
  refine Wp.seq ?_
  refine Wp.region ?_
  refine WpL.step (Stp.call (new_ok) (by kernel_rfl) rfl (by repeat (first | exact Tk.nil | apply Tk.cons (by repeat (first | exact Pk.here | apply Pk.next)))) rfl ?_)
  rintro _ _ ⟨v28_0, ⟨rfl, rfl⟩⟩
  refine WpL.lst (by simp only [List.cons_append, List.nil_append]; exact rfl) ?_
  refine WpL.step (Stp.rd (Rdo.assign rfl) rfl ?_)
  refine WpL.nil ?_
  refine Thn.n ?_
  refine Wp.seq ?_
  refine Wp.seq ?_
  refine Wp.region ?_
  refine WpL.step (Stp.rd (Rdo.move rfl) rfl ?_)
  refine WpL.step (Stp.rd (Rdo.eqnil rfl rfl) rfl ?_)
  refine WpL.nil ?_
  refine Thn.n ?_
  refine Wp.condF rfl ?_
  refine Wp.skip ?_
  refine Thn.n ?_
  refine Wp.seq ?_
  refine Wp.seq ?_
  refine Wp.region ?_
  refine WpL.step (Stp.rd (Rdo.assign rfl) rfl ?_)
  refine WpL.nil ?_
  refine Thn.n ?_
  refine Wp.block ?_
  have hto : NmTo ops 80 := v10_0.2 c14
  obtain ⟨b, hb⟩ : ∃ n, n = v28_0 := ⟨_, rfl⟩
  subst hb
  refine Wp.loopE (fun k e h => ∃ i : Nat, i + k = ops.length ∧ i ≤ 80 ∧ e = onE (.slice a1 ops.length c1) b i ∧ h = [coA b (run CoS.new (ops.take i)), opsF (.slice a1 ops.length c1) ops]) ops.length
    (e0 := onE (.slice a1 ops.length c1) b 0) (l0 := [coA b (run CoS.new (ops.take 0)), opsF (.slice a1 ops.length c1) ops]) (by repeat (first | exact trivial | refine ⟨rfl, ?_⟩)) (by repeat (first | exact trivial | refine ⟨rfl, ?_⟩)) (Gh.tk (by repeat (first | exact Tk.nil | apply Tk.cons (by repeat (first | exact Pk.here | apply Pk.next))))) ⟨0, by omega, by omega, rfl, rfl⟩ ?_
  rintro k e h ⟨i, hik, h80, rfl, rfl⟩
  by_cases hi : i < ops.length ∧ i < 80
  · obtain ⟨hi, h80⟩ := hi
    have hi' : (i : Int) < ops.length := by omega
    have h80' : (i : Int) < 80 := by omega
    refine Wp.ghE (GhE.elem (R := ROp) (Pk.next Pk.here) i hi) ?_
    rintro ⟨bb, o, cap, cs⟩ ⟨hv, hcs⟩
    simp only [Value.slice.injEq, true_and] at hv
    obtain ⟨rfl, rfl⟩ := hv
    simp only
    refine Wp.get (Pk.next Pk.here) rop_ ?_
    rintro ⟨rfl, -⟩
    have hat : ops[i]? = some ops[i] := List.getElem?_eq_getElem hi
    have hnl := hto i ops[i] (by omega) hat
    generalize ops[i] = x at *
    have s3 := apply_ok b (run CoS.new (ops.take i)) x (by omega) i (by omega) (run_OkT ops i)
    rw [← run_take hat] at s3
    refine Wp.seq ?_
    refine Wp.seq ?_
    refine Wp.region ?_
    refine WpL.step (Stp.rd (Rdo.move rfl) rfl ?_)
    refine WpL.step (Stp.rd (Rdo.move rfl) rfl ?_)
    refine WpL.step (Stp.rd (Rdo.lenSlice rfl) rfl ?_)
    refine WpL.step (Stp.rd (Rdo.lti rfl rfl) rfl ?_)
    refine WpL.step (Stp.rd (Rdo.move rfl) rfl ?_)
    refine WpL.gT rfl rfl (by first | rfl | assumption | (simp only [decide_eq_true_eq, decide_eq_false_iff_not, Bool.not_eq_true', Bool.not_eq_false', List.length_cons, List.length_nil]; first | assumption | omega) | (simp <;> done) | (simp <;> omega)) ?_
    refine WpL.want rfl rfl rfl (Stp.rd (Rdo.move rfl) rfl ?_)
    refine WpL.want rfl rfl rfl (Stp.rd (Rdo.lti rfl rfl) rfl ?_)
    refine WpL.step (Stp.rd (Rdo.pick_t rfl rfl) rfl ?_)
    refine WpL.nil ?_
    refine Thn.n ?_
    refine Wp.condK rfl (by first | rfl | assumption | (simp only [decide_eq_true_eq, decide_eq_false_iff_not, Bool.not_eq_true', Bool.not_eq_false', List.length_cons, List.length_nil]; first | assumption | omega) | (simp <;> done) | (simp <;> omega)) ?_
    refine Wp.skip ?_
    refine Thn.n ?_
    refine Wp.seq ?_
    refine Wp.block ?_
    refine Wp.region ?_
    refine WpL.step (Stp.rd (Rdo.move rfl) rfl ?_)
    refine WpL.step (Stp.rd (Rdo.move rfl) rfl ?_)
    refine WpL.step (Stp.rd (Rdo.move rfl) rfl ?_)
    refine WpL.step (Stp.rd (Rdo.indexSlice rfl rfl (by omega)) rfl ?_)
    refine WpL.step (Stp.rd (Rdo.load rfl (by apply Lds.iall; (first | rfl | assumption | (simp <;> fail)))) rfl ?_)
    refine WpL.step (Stp.call (s3) (by kernel_rfl) rfl (by repeat (first | exact Tk.nil | apply Tk.cons (by repeat (first | exact Pk.here | apply Pk.next)))) rfl ?_)
    rintro _ _ ⟨v26_0, ⟨v26_1, ⟨rfl, rfl⟩⟩⟩
    refine WpL.lst (by simp only [List.cons_append, List.nil_append]; exact rfl) ?_
    refine WpL.nil ?_
    refine Blk.n ?_
    refine Thn.n ?_
    refine Wp.region ?_
    refine WpL.step (Stp.rd (Rdo.move rfl) rfl ?_)
    refine WpL.step (Stp.rd (Rdo.succ rfl rfl (by omega)) rfl ?_)
    refine WpL.step (Stp.rd (Rdo.assign rfl) rfl ?_)
    refine WpL.nil ?_
    refine Thn.n ?_
    exact ⟨k - 1, _, _, by omega, ⟨i + 1, by omega, by omega, rfl, rfl⟩, (by repeat (first | exact trivial | refine ⟨rfl, ?_⟩)), Gh.tk (by repeat (first | exact Tk.nil | apply Tk.cons (by repeat (first | exact Pk.here | apply Pk.next))))⟩
  · have hOk := run_OkT ops i
    have hPa := run_PaT ops i
    have hOn := run_OnceT ops i
    generalize run CoS.new (ops.take i) = c at *
    have hml := hOk.ml
    have s4 := marks_ok b c (by omega)
    refine Wp.seq (Wp.mono (Q := fun x e' l' => x = .exit 0 ∧ EnvSub [(3, vp b 0)] e' ∧ l' = [coA b c, opsF (.slice a1 ops.length c1) ops]) ?_ ?_)
    · by_cases hlen : i < ops.length
      · have hi1 : (i : Int) < ops.length := by omega
        have hi2 : ¬ (i : Int) < 80 := by omega
        refine Wp.seq ?_
        refine Wp.region ?_
        refine WpL.step (Stp.rd (Rdo.move rfl) rfl ?_)
        refine WpL.step (Stp.rd (Rdo.move rfl) rfl ?_)
        refine WpL.step (Stp.rd (Rdo.lenSlice rfl) rfl ?_)
        refine WpL.step (Stp.rd (Rdo.lti rfl rfl) rfl ?_)
        refine WpL.step (Stp.rd (Rdo.move rfl) rfl ?_)
        refine WpL.gT rfl rfl (by first | rfl | assumption | (simp only [decide_eq_true_eq, decide_eq_false_iff_not, Bool.not_eq_true', Bool.not_eq_false', List.length_cons, List.length_nil]; first | assumption | omega) | (simp <;> done) | (simp <;> omega)) ?_
        refine WpL.want rfl rfl rfl (Stp.rd (Rdo.move rfl) rfl ?_)
        refine WpL.want rfl rfl rfl (Stp.rd (Rdo.lti rfl rfl) rfl ?_)
        refine WpL.step (Stp.rd (Rdo.pick_t rfl rfl) rfl ?_)
        refine WpL.nil ?_
        refine Thn.n ?_
        refine Wp.condL rfl (by first | rfl | assumption | (simp only [decide_eq_true_eq, decide_eq_false_iff_not, Bool.not_eq_true', Bool.not_eq_false', List.length_cons, List.length_nil]; first | assumption | omega) | (simp <;> done) | (simp <;> omega)) ?_
        refine Wp.exit ?_
        exact ⟨rfl, (by repeat (first | exact trivial | refine ⟨rfl, ?_⟩)), rfl⟩
      · have hi1 : ¬ (i : Int) < ops.length := by omega
        refine Wp.seq ?_
        refine Wp.region ?_
        refine WpL.step (Stp.rd (Rdo.move rfl) rfl ?_)
        refine WpL.step (Stp.rd (Rdo.move rfl) rfl ?_)
        refine WpL.step (Stp.rd (Rdo.lenSlice rfl) rfl ?_)
        refine WpL.step (Stp.rd (Rdo.lti rfl rfl) rfl ?_)
        refine WpL.step (Stp.rd (Rdo.move rfl) rfl ?_)
        refine WpL.gF rfl rfl (by first | rfl | assumption | (simp only [decide_eq_true_eq, decide_eq_false_iff_not, Bool.not_eq_true', Bool.not_eq_false', List.length_cons, List.length_nil]; first | assumption | omega) | (simp <;> done) | (simp <;> omega)) ?_
        refine WpL.pass rfl rfl rfl rfl ?_
        refine WpL.pass rfl rfl rfl rfl ?_
        refine WpL.step (Stp.rd (Rdo.pick_f rfl rfl) rfl ?_)
        refine WpL.nil ?_
        refine Thn.n ?_
        refine Wp.condF rfl ?_
        refine Wp.exit ?_
        exact ⟨rfl, (by repeat (first | exact trivial | refine ⟨rfl, ?_⟩)), rfl⟩
    · rintro x e' l' ⟨rfl, he, rfl⟩
      refine Thn.x (Thn.x (Blk.here (Thn.n (Wp.sub he ?_))))
      refine Wp.seq ?_
      refine Wp.region ?_
      refine WpL.step (Stp.rd (Rdo.move rfl) rfl ?_)
      refine WpL.step (Stp.call (s4) (by kernel_rfl) rfl (by repeat (first | exact Tk.nil | apply Tk.cons (by repeat (first | exact Pk.here | apply Pk.next)))) rfl ?_)
      rintro _ _ ⟨v4_0, ⟨v4_1, ⟨rfl, rfl⟩⟩⟩
      refine WpL.lst (by simp only [List.cons_append, List.nil_append]; exact rfl) ?_
      refine WpL.step (Stp.rd (Rdo.assign rfl) rfl ?_)
      refine WpL.nil ?_
      refine Thn.n ?_
      refine Wp.seq ?_
      refine Wp.seq ?_
      refine Wp.region ?_
      refine WpL.step (Stp.rd (Rdo.assign rfl) rfl ?_)
      refine WpL.nil ?_
      refine Thn.n ?_
      refine Wp.block ?_
      refine Wp.loopE (fun k e h => ∃ p : Nat, p + k = c.marks.length ∧ e = [(3, vp b 0), (5, .slice v4_0 c.marks.length v4_1), (6, vi p)] ∧ h = onL b c v4_0 v4_1 a1 c1 ops) c.marks.length
        (e0 := [(3, vp b 0), (5, .slice v4_0 c.marks.length v4_1), (6, vi (0 : Nat))]) (l0 := onL b c v4_0 v4_1 a1 c1 ops) (by repeat (first | exact trivial | refine ⟨rfl, ?_⟩)) (by repeat (first | exact trivial | refine ⟨rfl, ?_⟩)) (Gh.tk (by repeat (first | exact Tk.nil | apply Tk.cons (by repeat (first | exact Pk.here | apply Pk.next))))) ⟨0, by omega, rfl, rfl⟩ ?_
      rintro k2 e h ⟨p, hpk, rfl, rfl⟩
      by_cases hp : p < c.marks.length
      · have hp' : (p : Int) < c.marks.length := by omega
        refine Wp.get (Pk.next Pk.here) (fun r => rowA_at p hp) ?_
        rintro ⟨mb, mo, mcap, hv⟩
        simp only [Value.slice.injEq, true_and] at hv
        obtain ⟨rfl, rfl⟩ := hv
        have hM : c.marks[p]? = some c.marks[p] := List.getElem?_eq_getElem hp
        obtain ⟨g1, g2, g3⟩ := marks_cell hM
        obtain ⟨x1, x2, x3⟩ := once_plain hOn (List.getElem_mem hp)
        have hdis : ∀ q m2, q < p → c.marks[q]? = some m2 → ¬ sameM m2 c.marks[p] := fun q m2 hq hm2 => by
          obtain ⟨h5, rfl⟩ := List.getElem?_eq_some_iff.1 hm2
          exact (List.pairwise_iff_getElem.1 hOn.dis) q p h5 hp hq
        generalize c.marks[p] = M at *
        refine Wp.seq ?_
        refine Wp.seq ?_
        refine Wp.region ?_
        refine WpL.step (Stp.rd (Rdo.move rfl) rfl ?_)
        refine WpL.step (Stp.rd (Rdo.move rfl) rfl ?_)
        refine WpL.step (Stp.rd (Rdo.lenSlice rfl) rfl ?_)
        refine WpL.step (Stp.rd (Rdo.lti rfl rfl) rfl ?_)
        refine WpL.nil ?_
        refine Thn.n ?_
        refine Wp.condK rfl (by first | rfl | assumption | (simp only [decide_eq_true_eq, decide_eq_false_iff_not, Bool.not_eq_true', Bool.not_eq_false', List.length_cons, List.length_nil]; first | assumption | omega) | (simp <;> done) | (simp <;> omega)) ?_
        refine Wp.skip ?_
        refine Thn.n ?_
        refine Wp.seq ?_
        refine Wp.block ?_
        refine Wp.seq ?_
        refine Wp.seq ?_
        refine Wp.region ?_
        refine WpL.step (Stp.rd (Rdo.assign rfl) rfl ?_)
        refine WpL.nil ?_
        refine Thn.n ?_
        refine Wp.block ?_
        refine Wp.loopE (fun k e h => ∃ q : Nat, q + k = p ∧ e = [(3, vp b 0), (5, .slice (some ⟨mb, mo, none⟩) c.marks.length v4_1), (6, vi p), (7, vi q)] ∧ h = onL b c (some ⟨mb, mo, none⟩) v4_1 a1 c1 ops) p
          (e0 := [(3, vp b 0), (5, .slice (some ⟨mb, mo, none⟩) c.marks.length v4_1), (6, vi p), (7, vi (0 : Nat))]) (l0 := onL b c (some ⟨mb, mo, none⟩) v4_1 a1 c1 ops) (by repeat (first | exact trivial | refine ⟨rfl, ?_⟩)) (by repeat (first | exact trivial | refine ⟨rfl, ?_⟩)) (Gh.tk (by repeat (first | exact Tk.nil | apply Tk.cons (by repeat (first | exact Pk.here | apply Pk.next))))) ⟨0, by omega, rfl, rfl⟩ ?_
        rintro k3 e h ⟨q, hqk, rfl, rfl⟩
        by_cases hq : q < p
        · have hq' : (q : Int) < p := by omega
          have hQ : c.marks[q]? = some c.marks[q] := List.getElem?_eq_getElem (by omega)
          obtain ⟨d1, d2, d3⟩ := marks_cell hQ
          have hd := hdis q _ hq hQ
          generalize c.marks[q] = M2 at *
          by_cases y1 : M.producer = M2.producer
          · by_cases y2 : M.epoch = M2.epoch
            · have y3 : ¬ M.txn = M2.txn := fun h => hd ⟨y1.symm, y2.symm, h.symm⟩
              refine Wp.seq ?_
              refine Wp.seq ?_
              refine Wp.region ?_
              refine WpL.step (Stp.rd (Rdo.move rfl) rfl ?_)
              refine WpL.step (Stp.rd (Rdo.move rfl) rfl ?_)
              refine WpL.step (Stp.rd (Rdo.lti rfl rfl) rfl ?_)
              refine WpL.nil ?_
              refine Thn.n ?_
              refine Wp.condK rfl (by first | rfl | assumption | (simp only [decide_eq_true_eq, decide_eq_false_iff_not, Bool.not_eq_true', Bool.not_eq_false', List.length_cons, List.length_nil]; first | assumption | omega) | (simp <;> done) | (simp <;> omega)) ?_
              refine Wp.skip ?_
              refine Thn.n ?_
              refine Wp.seq ?_
              refine Wp.block ?_
              refine Wp.seq ?_
              refine Wp.draw (by kernel_rfl) ?_
              refine WpR.take (i := 0) rfl (by kernel_rfl) (by kernel_rfl) (by kernel_rfl) (Rdo.move rfl) rfl ?_
              refine WpR.take (i := 1) rfl (by kernel_rfl) (by kernel_rfl) (by kernel_rfl) (Rdo.move rfl) rfl ?_
              refine WpR.take (i := 2) rfl (by kernel_rfl) (by kernel_rfl) (by kernel_rfl) (Rdo.indexSlice rfl rfl (by omega)) rfl ?_
              refine WpR.take (i := 3) rfl (by kernel_rfl) (by kernel_rfl) (by kernel_rfl) (Rdo.fieldAddr rfl) rfl ?_
              refine WpR.take (i := 5) rfl (by kernel_rfl) (by kernel_rfl) (by kernel_rfl) (Rdo.move rfl) rfl ?_
              refine WpR.take (i := 6) rfl (by kernel_rfl) (by kernel_rfl) (by kernel_rfl) (Rdo.move rfl) rfl ?_
              refine WpR.take (i := 7) rfl (by kernel_rfl) (by kernel_rfl) (by kernel_rfl) (Rdo.indexSlice rfl rfl (by omega)) rfl ?_
              refine WpR.take (i := 8) rfl (by kernel_rfl) (by kernel_rfl) (by kernel_rfl) (Rdo.fieldAddr rfl) rfl ?_
              refine WpR.phaseL (m := 0) #[true, true, true, true, true, true, true, true, true, true, true, true, true, true, true, true, true, true, true, true, true, true, true, true, true, true, true, true, true, true, true, true, true, true, true, true, true] 29 _ rfl (by kernel_rfl) (Tk.cons (Pk.next Pk.here) Tk.nil) ?_
              refine WpA.take (i := 4) rfl rfl (by kernel_rfl) (by kernel_rfl) (by kernel_rfl) (Rdo.load rfl (Lds.rowF (by assumption))) rfl ?_
              refine WpA.take (i := 9) rfl rfl (by kernel_rfl) (by kernel_rfl) (by kernel_rfl) (Rdo.load rfl (Lds.rowF (by assumption))) rfl ?_
              refine WpA.take (i := 10) rfl rfl (by kernel_rfl) (by kernel_rfl) (by kernel_rfl) (Rdo.eqi rfl rfl) rfl ?_
              refine WpA.take (i := 11) rfl rfl (by kernel_rfl) (by kernel_rfl) (by kernel_rfl) (Rdo.move rfl) rfl ?_
              refine WpA.tT 58 rfl (by first | rfl | assumption | (simp only [decide_eq_true_eq, decide_eq_false_iff_not, Bool.not_eq_true', Bool.not_eq_false', List.length_cons, List.length_nil]; first | assumption | omega) | (simp <;> done) | (simp <;> omega)) ?_
              refine WpA.want (i := 12) rfl rfl rfl rfl rfl (by kernel_rfl) (by kernel_rfl) (by kernel_rfl) (Rdo.move rfl) rfl ?_
              refine WpA.want (i := 13) rfl rfl rfl rfl rfl (by kernel_rfl) (by kernel_rfl) (by kernel_rfl) (Rdo.move rfl) rfl ?_
              refine WpA.want (i := 14) rfl rfl rfl rfl rfl (by kernel_rfl) (by kernel_rfl) (by kernel_rfl) (Rdo.indexSlice rfl rfl (by omega)) rfl ?_
              refine WpA.want (i := 15) rfl rfl rfl rfl rfl (by kernel_rfl) (by kernel_rfl) (by kernel_rfl) (Rdo.fieldAddr rfl) rfl ?_
              refine WpA.want (i := 16) rfl rfl rfl rfl rfl (by kernel_rfl) (by kernel_rfl) (by kernel_rfl) (Rdo.load rfl (Lds.rowF (by assumption))) rfl ?_
              refine WpA.want (i := 17) rfl rfl rfl rfl rfl (by kernel_rfl) (by kernel_rfl) (by kernel_rfl) (Rdo.move rfl) rfl ?_
              refine WpA.want (i := 18) rfl rfl rfl rfl rfl (by kernel_rfl) (by kernel_rfl) (by kernel_rfl) (Rdo.move rfl) rfl ?_
              refine WpA.want (i := 19) rfl rfl rfl rfl rfl (by kernel_rfl) (by kernel_rfl) (by kernel_rfl) (Rdo.indexSlice rfl rfl (by omega)) rfl ?_
              refine WpA.want (i := 20) rfl rfl rfl rfl rfl (by kernel_rfl) (by kernel_rfl) (by kernel_rfl) (Rdo.fieldAddr rfl) rfl ?_
              refine WpA.want (i := 21) rfl rfl rfl rfl rfl (by kernel_rfl) (by kernel_rfl) (by kernel_rfl) (Rdo.load rfl (Lds.rowF (by assumption))) rfl ?_
              refine WpA.want (i := 22) rfl rfl rfl rfl rfl (by kernel_rfl) (by kernel_rfl) (by kernel_rfl) (Rdo.eqi rfl rfl) rfl ?_
              refine WpA.take (i := 23) rfl rfl (by kernel_rfl) (by kernel_rfl) (by kernel_rfl) (Rdo.pick_t rfl rfl) rfl ?_
              refine WpA.take (i := 24) rfl rfl (by kernel_rfl) (by kernel_rfl) (by kernel_rfl) (Rdo.move rfl) rfl ?_
              refine WpA.tT 71 rfl (by first | rfl | assumption | (simp only [decide_eq_true_eq, decide_eq_false_iff_not, Bool.not_eq_true', Bool.not_eq_false', List.length_cons, List.length_nil]; first | assumption | omega) | (simp <;> done) | (simp <;> omega)) ?_
              refine WpA.want (i := 25) rfl rfl rfl rfl rfl (by kernel_rfl) (by kernel_rfl) (by kernel_rfl) (Rdo.move rfl) rfl ?_
              refine WpA.want (i := 26) rfl rfl rfl rfl rfl (by kernel_rfl) (by kernel_rfl) (by kernel_rfl) (Rdo.move rfl) rfl ?_
              refine WpA.want (i := 27) rfl rfl rfl rfl rfl (by kernel_rfl) (by kernel_rfl) (by kernel_rfl) (Rdo.indexSlice rfl rfl (by omega)) rfl ?_
              refine WpA.want (i := 28) rfl rfl rfl rfl rfl (by kernel_rfl) (by kernel_rfl) (by kernel_rfl) (Rdo.fieldAddr rfl) rfl ?_
              refine WpA.want (i := 29) rfl rfl rfl rfl rfl (by kernel_rfl) (by kernel_rfl) (by kernel_rfl) (Rdo.load rfl (Lds.rowF (by assumption))) rfl ?_
              refine WpA.want (i := 30) rfl rfl rfl rfl rfl (by kernel_rfl) (by kernel_rfl) (by kernel_rfl) (Rdo.move rfl) rfl ?_
              refine WpA.want (i := 31) rfl rfl rfl rfl rfl (by kernel_rfl) (by kernel_rfl) (by kernel_rfl) (Rdo.move rfl) rfl ?_
              refine WpA.want (i := 32) rfl rfl rfl rfl rfl (by kernel_rfl) (by kernel_rfl) (by kernel_rfl) (Rdo.indexSlice rfl rfl (by omega)) rfl ?_
              refine WpA.want (i := 33) rfl rfl rfl rfl rfl (by kernel_rfl) (by kernel_rfl) (by kernel_rfl) (Rdo.fieldAddr rfl) rfl ?_
              refine WpA.want (i := 34) rfl rfl rfl rfl rfl (by kernel_rfl) (by kernel_rfl) (by kernel_rfl) (Rdo.load rfl (Lds.rowF (by assumption))) rfl ?_
              refine WpA.want (i := 35) rfl rfl rfl rfl rfl (by kernel_rfl) (by kernel_rfl) (by kernel_rfl) (Rdo.eqi rfl rfl) rfl ?_
              refine WpA.take (i := 36) rfl rfl (by kernel_rfl) (by kernel_rfl) (by kernel_rfl) (Rdo.pick_t rfl rfl) rfl ?_
              refine WpA.stop (by kernel_rfl) ?_
              refine WpR.lst (by simp only [List.cons_append, List.nil_append]; exact rfl) ?_
              refine WpR.done (by kernel_rfl) ?_
              refine Thn.n ?_
              refine Wp.condL rfl (by first | rfl | assumption | (simp only [decide_eq_true_eq, decide_eq_false_iff_not, Bool.not_eq_true', Bool.not_eq_false', List.length_cons, List.length_nil]; first | assumption | omega) | (simp <;> done) | (simp <;> omega)) ?_
              refine Wp.skip ?_
              refine Blk.n ?_
              refine Thn.n ?_
              refine Wp.region ?_
              refine WpL.step (Stp.rd (Rdo.move rfl) rfl ?_)
              refine WpL.step (Stp.rd (Rdo.succ rfl rfl (by omega)) rfl ?_)
              refine WpL.step (Stp.rd (Rdo.assign rfl) rfl ?_)
              refine WpL.nil ?_
              refine Thn.n ?_
              exact ⟨k3 - 1, _, _, by omega, ⟨q + 1, by omega, rfl, rfl⟩, (by repeat (first | exact trivial | refine ⟨rfl, ?_⟩)), Gh.tk (by repeat (first | exact Tk.nil | apply Tk.cons (by repeat (first | exact Pk.here | apply Pk.next))))⟩
            · refine Wp.seq ?_
              refine Wp.seq ?_
              refine Wp.region ?_
              refine WpL.step (Stp.rd (Rdo.move rfl) rfl ?_)
              refine WpL.step (Stp.rd (Rdo.move rfl) rfl ?_)
              refine WpL.step (Stp.rd (Rdo.lti rfl rfl) rfl ?_)
              refine WpL.nil ?_
              refine Thn.n ?_
              refine Wp.condK rfl (by first | rfl | assumption | (simp only [decide_eq_true_eq, decide_eq_false_iff_not, Bool.not_eq_true', Bool.not_eq_false', List.length_cons, List.length_nil]; first | assumption | omega) | (simp <;> done) | (simp <;> omega)) ?_
              refine Wp.skip ?_
              refine Thn.n ?_
              refine Wp.seq ?_
              refine Wp.block ?_
              refine Wp.seq ?_
              refine Wp.draw (by kernel_rfl) ?_
              refine WpR.take (i := 0) rfl (by kernel_rfl) (by kernel_rfl) (by kernel_rfl) (Rdo.move rfl) rfl ?_
              refine WpR.take (i := 1) rfl (by kernel_rfl) (by kernel_rfl) (by kernel_rfl) (Rdo.move rfl) rfl ?_
              refine WpR.take (i := 2) rfl (by kernel_rfl) (by kernel_rfl) (by kernel_rfl) (Rdo.indexSlice rfl rfl (by omega)) rfl ?_
              refine WpR.take (i := 3) rfl (by kernel_rfl) (by kernel_rfl) (by kernel_rfl) (Rdo.fieldAddr rfl) rfl ?_
              refine WpR.take (i := 5) rfl (by kernel_rfl) (by kernel_rfl) (by kernel_rfl) (Rdo.move rfl) rfl ?_
              refine WpR.take (i := 6) rfl (by kernel_rfl) (by kernel_rfl) (by kernel_rfl) (Rdo.move rfl) rfl ?_
              refine WpR.take (i := 7) rfl (by kernel_rfl) (by kernel_rfl) (by kernel_rfl) (Rdo.indexSlice rfl rfl (by omega)) rfl ?_
              refine WpR.take (i := 8) rfl (by kernel_rfl) (by kernel_rfl) (by kernel_rfl) (Rdo.fieldAddr rfl) rfl ?_
              refine WpR.phaseL (m := 0) #[true, true, true, true, true, true, true, true, true, true, true, true, true, true, true, true, true, true, true, true, true, true, true, true, true, true, true, true, true, true, true, true, true, true, true, true, true] 29 _ rfl (by kernel_rfl) (Tk.cons (Pk.next Pk.here) Tk.nil) ?_
              refine WpA.take (i := 4) rfl rfl (by kernel_rfl) (by kernel_rfl) (by kernel_rfl) (Rdo.load rfl (Lds.rowF (by assumption))) rfl ?_
              refine WpA.take (i := 9) rfl rfl (by kernel_rfl) (by kernel_rfl) (by kernel_rfl) (Rdo.load rfl (Lds.rowF (by assumption))) rfl ?_
              refine WpA.take (i := 10) rfl rfl (by kernel_rfl) (by kernel_rfl) (by kernel_rfl) (Rdo.eqi rfl rfl) rfl ?_
              refine WpA.take (i := 11) rfl rfl (by kernel_rfl) (by kernel_rfl) (by kernel_rfl) (Rdo.move rfl) rfl ?_
              refine WpA.tT 58 rfl (by first | rfl | assumption | (simp only [decide_eq_true_eq, decide_eq_false_iff_not, Bool.not_eq_true', Bool.not_eq_false', List.length_cons, List.length_nil]; first | assumption | omega) | (simp <;> done) | (simp <;> omega)) ?_
              refine WpA.want (i := 12) rfl rfl rfl rfl rfl (by kernel_rfl) (by kernel_rfl) (by kernel_rfl) (Rdo.move rfl) rfl ?_
              refine WpA.want (i := 13) rfl rfl rfl rfl rfl (by kernel_rfl) (by kernel_rfl) (by kernel_rfl) (Rdo.move rfl) rfl ?_
              refine WpA.want (i := 14) rfl rfl rfl rfl rfl (by kernel_rfl) (by kernel_rfl) (by kernel_rfl) (Rdo.indexSlice rfl rfl (by omega)) rfl ?_
              refine WpA.want (i := 15) rfl rfl rfl rfl rfl (by kernel_rfl) (by kernel_rfl) (by kernel_rfl) (Rdo.fieldAddr rfl) rfl ?_
              refine WpA.want (i := 16) rfl rfl rfl rfl rfl (by kernel_rfl) (by kernel_rfl) (by kernel_rfl) (Rdo.load rfl (Lds.rowF (by assumption))) rfl ?_
              refine WpA.want (i := 17) rfl rfl rfl rfl rfl (by kernel_rfl) (by kernel_rfl) (by kernel_rfl) (Rdo.move rfl) rfl ?_
              refine WpA.want (i := 18) rfl rfl rfl rfl rfl (by kernel_rfl) (by kernel_rfl) (by kernel_rfl) (Rdo.move rfl) rfl ?_
              refine WpA.want (i := 19) rfl rfl rfl rfl rfl (by kernel_rfl) (by kernel_rfl) (by kernel_rfl) (Rdo.indexSlice rfl rfl (by omega)) rfl ?_
              refine WpA.want (i := 20) rfl rfl rfl rfl rfl (by kernel_rfl) (by kernel_rfl) (by kernel_rfl) (Rdo.fieldAddr rfl) rfl ?_
              refine WpA.want (i := 21) rfl rfl rfl rfl rfl (by kernel_rfl) (by kernel_rfl) (by kernel_rfl) (Rdo.load rfl (Lds.rowF (by assumption))) rfl ?_
              refine WpA.want (i := 22) rfl rfl rfl rfl rfl (by kernel_rfl) (by kernel_rfl) (by kernel_rfl) (Rdo.eqi rfl rfl) rfl ?_
              refine WpA.take (i := 23) rfl rfl (by kernel_rfl) (by kernel_rfl) (by kernel_rfl) (Rdo.pick_t rfl rfl) rfl ?_
              refine WpA.take (i := 24) rfl rfl (by kernel_rfl) (by kernel_rfl) (by kernel_rfl) (Rdo.move rfl) rfl ?_
              refine WpA.tF 71 rfl (by first | rfl | assumption | (simp only [decide_eq_true_eq, decide_eq_false_iff_not, Bool.not_eq_true', Bool.not_eq_false', List.length_cons, List.length_nil]; first | assumption | omega) | (simp <;> done) | (simp <;> omega)) ?_
              refine WpA.pass (i := 25) rfl rfl rfl rfl rfl (by kernel_rfl) (by kernel_rfl) (by kernel_rfl) rfl ?_
              refine WpA.pass (i := 26) rfl rfl rfl rfl rfl (by kernel_rfl) (by kernel_rfl) (by kernel_rfl) rfl ?_
              refine WpA.pass (i := 27) rfl rfl rfl rfl rfl (by kernel_rfl) (by kernel_rfl) (by kernel_rfl) rfl ?_
              refine WpA.pass (i := 28) rfl rfl rfl rfl rfl (by kernel_rfl) (by kernel_rfl) (by kernel_rfl) rfl ?_
              refine WpA.pass (i := 29) rfl rfl rfl rfl rfl (by kernel_rfl) (by kernel_rfl) (by kernel_rfl) rfl ?_
              refine WpA.pass (i := 30) rfl rfl rfl rfl rfl (by kernel_rfl) (by kernel_rfl) (by kernel_rfl) rfl ?_
              refine WpA.pass (i := 31) rfl rfl rfl rfl rfl (by kernel_rfl) (by kernel_rfl) (by kernel_rfl) rfl ?_
              refine WpA.pass (i := 32) rfl rfl rfl rfl rfl (by kernel_rfl) (by kernel_rfl) (by kernel_rfl) rfl ?_
              refine WpA.pass (i := 33) rfl rfl rfl rfl rfl (by kernel_rfl) (by kernel_rfl) (by kernel_rfl) rfl ?_
              refine WpA.pass (i := 34) rfl rfl rfl rfl rfl (by kernel_rfl) (by kernel_rfl) (by kernel_rfl) rfl ?_
              refine WpA.pass (i := 35) rfl rfl rfl rfl rfl (by kernel_rfl) (by kernel_rfl) (by kernel_rfl) rfl ?_
              refine WpA.take (i := 36) rfl rfl (by kernel_rfl) (by kernel_rfl) (by kernel_rfl) (Rdo.pick_f rfl rfl) rfl ?_
              refine WpA.stop (by kernel_rfl) ?_
              refine WpR.lst (by simp only [List.cons_append, List.nil_append]; exact rfl) ?_
              refine WpR.done (by kernel_rfl) ?_
              refine Thn.n ?_
              refine Wp.condF rfl ?_
              refine Wp.skip ?_
              refine Blk.n ?_
              refine Thn.n ?_
              refine Wp.region ?_
              refine WpL.step (Stp.rd (Rdo.move rfl) rfl ?_)
              refine WpL.step (Stp.rd (Rdo.succ rfl rfl (by omega)) rfl ?_)
              refine WpL.step (Stp.rd (Rdo.assign rfl) rfl ?_)
              refine WpL.nil ?_
              refine Thn.n ?_
              exact ⟨k3 - 1, _, _, by omega, ⟨q + 1, by omega, rfl, rfl⟩, (by repeat (first | exact trivial | refine ⟨rfl, ?_⟩)), Gh.tk (by repeat (first | exact Tk.nil | apply Tk.cons (by repeat (first | exact Pk.here | apply Pk.next))))⟩
          · refine Wp.seq ?_
            refine Wp.seq ?_
            refine Wp.region ?_
            refine WpL.step (Stp.rd (Rdo.move rfl) rfl ?_)
            refine WpL.step (Stp.rd (Rdo.move rfl) rfl ?_)
            refine WpL.step (Stp.rd (Rdo.lti rfl rfl) rfl ?_)
            refine WpL.nil ?_
            refine Thn.n ?_
            refine Wp.condK rfl (by first | rfl | assumption | (simp only [decide_eq_true_eq, decide_eq_false_iff_not, Bool.not_eq_true', Bool.not_eq_false', List.length_cons, List.length_nil]; first | assumption | omega) | (simp <;> done) | (simp <;> omega)) ?_
            refine Wp.skip ?_
            refine Thn.n ?_
            refine Wp.seq ?_
            refine Wp.block ?_
            refine Wp.seq ?_
            refine Wp.draw (by kernel_rfl) ?_
            refine WpR.take (i := 0) rfl (by kernel_rfl) (by kernel_rfl) (by kernel_rfl) (Rdo.move rfl) rfl ?_
            refine WpR.take (i := 1) rfl (by kernel_rfl) (by kernel_rfl) (by kernel_rfl) (Rdo.move rfl) rfl ?_
            refine WpR.take (i := 2) rfl (by kernel_rfl) (by kernel_rfl) (by kernel_rfl) (Rdo.indexSlice rfl rfl (by omega)) rfl ?_
            refine WpR.take (i := 3) rfl (by kernel_rfl) (by kernel_rfl) (by kernel_rfl) (Rdo.fieldAddr rfl) rfl ?_
            refine WpR.take (i := 5) rfl (by kernel_rfl) (by kernel_rfl) (by kernel_rfl) (Rdo.move rfl) rfl ?_
            refine WpR.take (i := 6) rfl (by kernel_rfl) (by kernel_rfl) (by kernel_rfl) (Rdo.move rfl) rfl ?_
            refine WpR.take (i := 7) rfl (by kernel_rfl) (by kernel_rfl) (by kernel_rfl) (Rdo.indexSlice rfl rfl (by omega)) rfl ?_
            refine WpR.take (i := 8) rfl (by kernel_rfl) (by kernel_rfl) (by kernel_rfl) (Rdo.fieldAddr rfl) rfl ?_
            refine WpR.phaseL (m := 0) #[true, true, true, true, true, true, true, true, true, true, true, true, true, true, true, true, true, true, true, true, true, true, true, true, true, true, true, true, true, true, true, true, true, true, true, true, true] 29 _ rfl (by kernel_rfl) (Tk.cons (Pk.next Pk.here) Tk.nil) ?_
            refine WpA.take (i := 4) rfl rfl (by kernel_rfl) (by kernel_rfl) (by kernel_rfl) (Rdo.load rfl (Lds.rowF (by assumption))) rfl ?_
            refine WpA.take (i := 9) rfl rfl (by kernel_rfl) (by kernel_rfl) (by kernel_rfl) (Rdo.load rfl (Lds.rowF (by assumption))) rfl ?_
            refine WpA.take (i := 10) rfl rfl (by kernel_rfl) (by kernel_rfl) (by kernel_rfl) (Rdo.eqi rfl rfl) rfl ?_
            refine WpA.take (i := 11) rfl rfl (by kernel_rfl) (by kernel_rfl) (by kernel_rfl) (Rdo.move rfl) rfl ?_
            refine WpA.tF 58 rfl (by first | rfl | assumption | (simp only [decide_eq_true_eq, decide_eq_false_iff_not, Bool.not_eq_true', Bool.not_eq_false', List.length_cons, List.length_nil]; first | assumption | omega) | (simp <;> done) | (simp <;> omega)) ?_
            refine WpA.pass (i := 12) rfl rfl rfl rfl rfl (by kernel_rfl) (by kernel_rfl) (by kernel_rfl) rfl ?_
            refine WpA.pass (i := 13) rfl rfl rfl rfl rfl (by kernel_rfl) (by kernel_rfl) (by kernel_rfl) rfl ?_
            refine WpA.pass (i := 14) rfl rfl rfl rfl rfl (by kernel_rfl) (by kernel_rfl) (by kernel_rfl) rfl ?_
            refine WpA.pass (i := 15) rfl rfl rfl rfl rfl (by kernel_rfl) (by kernel_rfl) (by kernel_rfl) rfl ?_
            refine WpA.pass (i := 16) rfl rfl rfl rfl rfl (by kernel_rfl) (by kernel_rfl) (by kernel_rfl) rfl ?_
            refine WpA.pass (i := 17) rfl rfl rfl rfl rfl (by kernel_rfl) (by kernel_rfl) (by kernel_rfl) rfl ?_
            refine WpA.pass (i := 18) rfl rfl rfl rfl rfl (by kernel_rfl) (by kernel_rfl) (by kernel_rfl) rfl ?_
            refine WpA.pass (i := 19) rfl rfl rfl rfl rfl (by kernel_rfl) (by kernel_rfl) (by kernel_rfl) rfl ?_
            refine WpA.pass (i := 20) rfl rfl rfl rfl rfl (by kernel_rfl) (by kernel_rfl) (by kernel_rfl) rfl ?_
            refine WpA.pass (i := 21) rfl rfl rfl rfl rfl (by kernel_rfl) (by kernel_rfl) (by kernel_rfl) rfl ?_
            refine WpA.pass (i := 22) rfl rfl rfl rfl rfl (by kernel_rfl) (by kernel_rfl) (by kernel_rfl) rfl ?_
            refine WpA.take (i := 23) rfl rfl (by kernel_rfl) (by kernel_rfl) (by kernel_rfl) (Rdo.pick_f rfl rfl) rfl ?_
            refine WpA.take (i := 24) rfl rfl (by kernel_rfl) (by kernel_rfl) (by kernel_rfl) (Rdo.move rfl) rfl ?_
            refine WpA.pass (i := 25) rfl rfl rfl rfl rfl (by kernel_rfl) (by kernel_rfl) (by kernel_rfl) rfl ?_
            refine WpA.pass (i := 26) rfl rfl rfl rfl rfl (by kernel_rfl) (by kernel_rfl) (by kernel_rfl) rfl ?_
            refine WpA.pass (i := 27) rfl rfl rfl rfl rfl (by kernel_rfl) (by kernel_rfl) (by kernel_rfl) rfl ?_
            refine WpA.pass (i := 28) rfl rfl rfl rfl rfl (by kernel_rfl) (by kernel_rfl) (by kernel_rfl) rfl ?_
            refine WpA.pass (i := 29) rfl rfl rfl rfl rfl (by kernel_rfl) (by kernel_rfl) (by kernel_rfl) rfl ?_
            refine WpA.pass (i := 30) rfl rfl rfl rfl rfl (by kernel_rfl) (by kernel_rfl) (by kernel_rfl) rfl ?_
            refine WpA.pass (i := 31) rfl rfl rfl rfl rfl (by kernel_rfl) (by kernel_rfl) (by kernel_rfl) rfl ?_
            refine WpA.pass (i := 32) rfl rfl rfl rfl rfl (by kernel_rfl) (by kernel_rfl) (by kernel_rfl) rfl ?_
            refine WpA.pass (i := 33) rfl rfl rfl rfl rfl (by kernel_rfl) (by kernel_rfl) (by kernel_rfl) rfl ?_
            refine WpA.pass (i := 34) rfl rfl rfl rfl rfl (by kernel_rfl) (by kernel_rfl) (by kernel_rfl) rfl ?_
            refine WpA.pass (i := 35) rfl rfl rfl rfl rfl (by kernel_rfl) (by kernel_rfl) (by kernel_rfl) rfl ?_
            refine WpA.take (i := 36) rfl rfl (by kernel_rfl) (by kernel_rfl) (by kernel_rfl) (Rdo.pick_f rfl rfl) rfl ?_
            refine WpA.stop (by kernel_rfl) ?_
            refine WpR.lst (by simp only [List.cons_append, List.nil_append]; exact rfl) ?_
            refine WpR.done (by kernel_rfl) ?_
            refine Thn.n ?_
            refine Wp.condF rfl ?_
            refine Wp.skip ?_
            refine Blk.n ?_
            refine Thn.n ?_
            refine Wp.region ?_
            refine WpL.step (Stp.rd (Rdo.move rfl) rfl ?_)
            refine WpL.step (Stp.rd (Rdo.succ rfl rfl (by omega)) rfl ?_)
            refine WpL.step (Stp.rd (Rdo.assign rfl) rfl ?_)
            refine WpL.nil ?_
            refine Thn.n ?_
            exact ⟨k3 - 1, _, _, by omega, ⟨q + 1, by omega, rfl, rfl⟩, (by repeat (first | exact trivial | refine ⟨rfl, ?_⟩)), Gh.tk (by repeat (first | exact Tk.nil | apply Tk.cons (by repeat (first | exact Pk.here | apply Pk.next))))⟩
        · have hq' : ¬ (q : Int) < p := by omega
          have s5 := epoch_ok b c M.producer
          have s6 := open_ok b c M.producer hPa
          obtain ⟨E, o1, hE⟩ : ∃ E o, c.epoch M.producer = (E, o) := ⟨_, _, rfl⟩
          obtain ⟨T, ks, o2, hT⟩ : ∃ T ks o, c.open_ M.producer = (T, ks, o) := ⟨_, _, _, rfl⟩
          rw [hE] at s5 x1 x2 x3
          rw [hT] at s6 x3
          simp only at s5 s6 x1 x2 x3
          subst x1
          have x2' : ¬ M.epoch > E := by omega
          cases o2 with
          | false =>
            refine Wp.seq ?_
            refine Wp.seq ?_
            refine Wp.region ?_
            refine WpL.step (Stp.rd (Rdo.move rfl) rfl ?_)
            refine WpL.step (Stp.rd (Rdo.move rfl) rfl ?_)
            refine WpL.step (Stp.rd (Rdo.lti rfl rfl) rfl ?_)
            refine WpL.nil ?_
            refine Thn.n ?_
            refine Wp.condL rfl (by first | rfl | assumption | (simp only [decide_eq_true_eq, decide_eq_false_iff_not, Bool.not_eq_true', Bool.not_eq_false', List.length_cons, List.length_nil]; first | assumption | omega) | (simp <;> done) | (simp <;> omega)) ?_
            refine Wp.exit ?_
            refine Thn.x ?_
            refine Thn.x ?_
            refine Blk.here ?_
            refine Thn.n ?_
            refine Wp.seq ?_
            refine Wp.region ?_
            refine WpL.step (Stp.rd (Rdo.move rfl) rfl ?_)
            refine WpL.step (Stp.rd (Rdo.move rfl) rfl ?_)
            refine WpL.step (Stp.rd (Rdo.move rfl) rfl ?_)
            refine WpL.step (Stp.rd (Rdo.indexSlice rfl rfl (by omega)) rfl ?_)
            refine WpL.step (Stp.rd (Rdo.fieldAddr rfl) rfl ?_)
            refine WpL.step (Stp.rd (Rdo.load rfl (Lds.next (Lds.rowF (by assumption)))) rfl ?_)
            refine WpL.step (Stp.call (s5) (by kernel_rfl) rfl (by repeat (first | exact Tk.nil | apply Tk.cons (by repeat (first | exact Pk.here | apply Pk.next)))) rfl ?_)
            rintro _ _ ⟨rfl, rfl⟩
            refine WpL.lst (by simp only [List.cons_append, List.nil_append]; exact rfl) ?_
            refine WpL.step (Stp.rd (Rdo.move rfl) rfl ?_)
            refine WpL.step (Stp.rd (Rdo.extract rfl rfl) rfl ?_)
            refine WpL.step (Stp.rd (Rdo.extract rfl rfl) rfl ?_)
            refine WpL.step (Stp.rd (Rdo.assign rfl) rfl ?_)
            refine WpL.step (Stp.rd (Rdo.assign rfl) rfl ?_)
            refine WpL.nil ?_
            refine Thn.n ?_
            refine Wp.seq ?_
            refine Wp.region ?_
            refine WpL.step (Stp.rd (Rdo.move rfl) rfl ?_)
            refine WpL.step (Stp.rd (Rdo.move rfl) rfl ?_)
            refine WpL.step (Stp.rd (Rdo.move rfl) rfl ?_)
            refine WpL.step (Stp.rd (Rdo.indexSlice rfl rfl (by omega)) rfl ?_)
            refine WpL.step (Stp.rd (Rdo.fieldAddr rfl) rfl ?_)
            refine WpL.step (Stp.rd (Rdo.load rfl (Lds.next (Lds.rowF (by assumption)))) rfl ?_)
            refine WpL.step (Stp.call (s6) (by kernel_rfl) rfl (by repeat (first | exact Tk.nil | apply Tk.cons (by repeat (first | exact Pk.here | apply Pk.next)))) rfl ?_)
            rintro _ _ ⟨v41_0, ⟨rfl, rfl⟩⟩
            refine WpL.lst (by simp only [List.cons_append, List.nil_append]; exact rfl) ?_
            refine WpL.step (Stp.rd (Rdo.move rfl) rfl ?_)
            refine WpL.step (Stp.rd (Rdo.extract rfl rfl) rfl ?_)
            refine WpL.step (Stp.rd (Rdo.extract rfl rfl) rfl ?_)
            refine WpL.step (Stp.rd (Rdo.extract rfl rfl) rfl ?_)
            refine WpL.step (Stp.rd (Rdo.assign rfl) rfl ?_)
            refine WpL.step (Stp.rd (Rdo.assign rfl) rfl ?_)
            refine WpL.step (Stp.rd (Rdo.assign rfl) rfl ?_)
            refine WpL.nil ?_
            refine Thn.n ?_
            refine Wp.seq ?_
            refine Wp.region ?_
            refine WpL.step (Stp.rd (Rdo.move rfl) rfl ?_)
            refine WpL.step (Stp.rd (Rdo.not rfl) rfl ?_)
            refine WpL.step (Stp.rd (Rdo.move rfl) rfl ?_)
            refine WpL.want rfl rfl rfl (Stp.rd (Rdo.move rfl) rfl ?_)
            refine WpL.want rfl rfl rfl (Stp.rd (Rdo.move rfl) rfl ?_)
            refine WpL.want rfl rfl rfl (Stp.rd (Rdo.indexSlice rfl rfl (by omega)) rfl ?_)
            refine WpL.want rfl rfl rfl (Stp.rd (Rdo.fieldAddr rfl) rfl ?_)
            refine WpL.want rfl rfl rfl (Stp.rd (Rdo.load rfl (Lds.next (Lds.next (Lds.rowF (by assumption))))) rfl ?_)
            refine WpL.want rfl rfl rfl (Stp.rd (Rdo.move rfl) rfl ?_)
            refine WpL.want rfl rfl rfl (Stp.rd (Rdo.gti rfl rfl) rfl ?_)
            refine WpL.step (Stp.rd (Rdo.pick_f rfl rfl) rfl ?_)
            refine WpL.step (Stp.rd (Rdo.move rfl) rfl ?_)
            refine WpL.gF rfl rfl (by first | rfl | assumption | (simp only [decide_eq_true_eq, decide_eq_false_iff_not, Bool.not_eq_true', Bool.not_eq_false', List.length_cons, List.length_nil]; first | assumption | omega) | (simp <;> done) | (simp <;> omega)) ?_
            refine WpL.want rfl rfl rfl (Stp.rd (Rdo.move rfl) rfl ?_)
            refine WpL.want rfl rfl rfl (Stp.rd (Rdo.move rfl) rfl ?_)
            refine WpL.pass rfl rfl rfl rfl ?_
            refine WpL.pass rfl rfl rfl rfl ?_
            refine WpL.pass rfl rfl rfl rfl ?_
            refine WpL.pass rfl rfl rfl rfl ?_
            refine WpL.pass rfl rfl rfl rfl ?_
            refine WpL.pass rfl rfl rfl rfl ?_
            refine WpL.pass rfl rfl rfl rfl ?_
            refine WpL.want rfl rfl rfl (Stp.rd (Rdo.pick_f rfl rfl) rfl ?_)
            refine WpL.want rfl rfl rfl (Stp.rd (Rdo.move rfl) rfl ?_)
            refine WpL.pass rfl rfl rfl rfl ?_
            refine WpL.pass rfl rfl rfl rfl ?_
            refine WpL.pass rfl rfl rfl rfl ?_
            refine WpL.pass rfl rfl rfl rfl ?_
            refine WpL.pass rfl rfl rfl rfl ?_
            refine WpL.pass rfl rfl rfl rfl ?_
            refine WpL.pass rfl rfl rfl rfl ?_
            refine WpL.want rfl rfl rfl (Stp.rd (Rdo.pick_f rfl rfl) rfl ?_)
            refine WpL.step (Stp.rd (Rdo.pick_f rfl rfl) rfl ?_)
            refine WpL.nil ?_
            refine Thn.n ?_
            refine Wp.condF rfl ?_
            refine Wp.skip ?_
            refine Blk.n ?_
            refine Thn.n ?_
            refine Wp.region ?_
            refine WpL.step (Stp.rd (Rdo.move rfl) rfl ?_)
            refine WpL.step (Stp.rd (Rdo.succ rfl rfl (by omega)) rfl ?_)
            refine WpL.step (Stp.rd (Rdo.assign rfl) rfl ?_)
            refine WpL.nil ?_
            refine Thn.n ?_
            exact ⟨k2 - 1, _, _, by omega, ⟨p + 1, by omega, rfl, rfl⟩, (by repeat (first | exact trivial | refine ⟨rfl, ?_⟩)), Gh.tk (by repeat (first | exact Tk.nil | apply Tk.cons (by repeat (first | exact Pk.here | apply Pk.next))))⟩
          | true =>
            by_cases z1 : M.epoch = E
            · have z2 : ¬ M.txn = T := fun h => x3 ⟨rfl, z1, h⟩
              refine Wp.seq ?_
              refine Wp.seq ?_
              refine Wp.region ?_
              refine WpL.step (Stp.rd (Rdo.move rfl) rfl ?_)
              refine WpL.step (Stp.rd (Rdo.move rfl) rfl ?_)
              refine WpL.step (Stp.rd (Rdo.lti rfl rfl) rfl ?_)
              refine WpL.nil ?_
              refine Thn.n ?_
              refine Wp.condL rfl (by first | rfl | assumption | (simp only [decide_eq_true_eq, decide_eq_false_iff_not, Bool.not_eq_true', Bool.not_eq_false', List.length_cons, List.length_nil]; first | assumption | omega) | (simp <;> done) | (simp <;> omega)) ?_
              refine Wp.exit ?_
              refine Thn.x ?_
              refine Thn.x ?_
              refine Blk.here ?_
              refine Thn.n ?_
              refine Wp.seq ?_
              refine Wp.region ?_
              refine WpL.step (Stp.rd (Rdo.move rfl) rfl ?_)
              refine WpL.step (Stp.rd (Rdo.move rfl) rfl ?_)
              refine WpL.step (Stp.rd (Rdo.move rfl) rfl ?_)
              refine WpL.step (Stp.rd (Rdo.indexSlice rfl rfl (by omega)) rfl ?_)
              refine WpL.step (Stp.rd (Rdo.fieldAddr rfl) rfl ?_)
              refine WpL.step (Stp.rd (Rdo.load rfl (Lds.next (Lds.rowF (by assumption)))) rfl ?_)
              refine WpL.step (Stp.call (s5) (by kernel_rfl) rfl (by repeat (first | exact Tk.nil | apply Tk.cons (by repeat (first | exact Pk.here | apply Pk.next)))) rfl ?_)
              rintro _ _ ⟨rfl, rfl⟩
              refine WpL.lst (by simp only [List.cons_append, List.nil_append]; exact rfl) ?_
              refine WpL.step (Stp.rd (Rdo.move rfl) rfl ?_)
              refine WpL.step (Stp.rd (Rdo.extract rfl rfl) rfl ?_)
              refine WpL.step (Stp.rd (Rdo.extract rfl rfl) rfl ?_)
              refine WpL.step (Stp.rd (Rdo.assign rfl) rfl ?_)
              refine WpL.step (Stp.rd (Rdo.assign rfl) rfl ?_)
              refine WpL.nil ?_
              refine Thn.n ?_
              refine Wp.seq ?_
              refine Wp.region ?_
              refine WpL.step (Stp.rd (Rdo.move rfl) rfl ?_)
              refine WpL.step (Stp.rd (Rdo.move rfl) rfl ?_)
              refine WpL.step (Stp.rd (Rdo.move rfl) rfl ?_)
              refine WpL.step (Stp.rd (Rdo.indexSlice rfl rfl (by omega)) rfl ?_)
              refine WpL.step (Stp.rd (Rdo.fieldAddr rfl) rfl ?_)
              refine WpL.step (Stp.rd (Rdo.load rfl (Lds.next (Lds.rowF (by assumption)))) rfl ?_)
              refine WpL.step (Stp.call (s6) (by kernel_rfl) rfl (by repeat (first | exact Tk.nil | apply Tk.cons (by repeat (first | exact Pk.here | apply Pk.next)))) rfl ?_)
              rintro _ _ ⟨v41_0, ⟨rfl, rfl⟩⟩
              refine WpL.lst (by simp only [List.cons_append, List.nil_append]; exact rfl) ?_
              refine WpL.step (Stp.rd (Rdo.move rfl) rfl ?_)
              refine WpL.step (Stp.rd (Rdo.extract rfl rfl) rfl ?_)
              refine WpL.step (Stp.rd (Rdo.extract rfl rfl) rfl ?_)
              refine WpL.step (Stp.rd (Rdo.extract rfl rfl) rfl ?_)
              refine WpL.step (Stp.rd (Rdo.assign rfl) rfl ?_)
              refine WpL.step (Stp.rd (Rdo.assign rfl) rfl ?_)
              refine WpL.step (Stp.rd (Rdo.assign rfl) rfl ?_)
              refine WpL.nil ?_
              refine Thn.n ?_
              refine Wp.seq ?_
              refine Wp.region ?_
              refine WpL.step (Stp.rd (Rdo.move rfl) rfl ?_)
              refine WpL.step (Stp.rd (Rdo.not rfl) rfl ?_)
              refine WpL.step (Stp.rd (Rdo.move rfl) rfl ?_)
              refine WpL.want rfl rfl rfl (Stp.rd (Rdo.move rfl) rfl ?_)
              refine WpL.want rfl rfl rfl (Stp.rd (Rdo.move rfl) rfl ?_)
              refine WpL.want rfl rfl rfl (Stp.rd (Rdo.indexSlice rfl rfl (by omega)) rfl ?_)
              refine WpL.want rfl rfl rfl (Stp.rd (Rdo.fieldAddr rfl) rfl ?_)
              refine WpL.want rfl rfl rfl (Stp.rd (Rdo.load rfl (Lds.next (Lds.next (Lds.rowF (by assumption))))) rfl ?_)
              refine WpL.want rfl rfl rfl (Stp.rd (Rdo.move rfl) rfl ?_)
              refine WpL.want rfl rfl rfl (Stp.rd (Rdo.gti rfl rfl) rfl ?_)
              refine WpL.step (Stp.rd (Rdo.pick_f rfl rfl) rfl ?_)
              refine WpL.step (Stp.rd (Rdo.move rfl) rfl ?_)
              refine WpL.gF rfl rfl (by first | rfl | assumption | (simp only [decide_eq_true_eq, decide_eq_false_iff_not, Bool.not_eq_true', Bool.not_eq_false', List.length_cons, List.length_nil]; first | assumption | omega) | (simp <;> done) | (simp <;> omega)) ?_
              refine WpL.want rfl rfl rfl (Stp.rd (Rdo.move rfl) rfl ?_)
              refine WpL.want rfl rfl rfl (Stp.rd (Rdo.move rfl) rfl ?_)
              refine WpL.want rfl rfl rfl (Stp.rd (Rdo.move rfl) rfl ?_)
              refine WpL.want rfl rfl rfl (Stp.rd (Rdo.move rfl) rfl ?_)
              refine WpL.want rfl rfl rfl (Stp.rd (Rdo.indexSlice rfl rfl (by omega)) rfl ?_)
              refine WpL.want rfl rfl rfl (Stp.rd (Rdo.fieldAddr rfl) rfl ?_)
              refine WpL.want rfl rfl rfl (Stp.rd (Rdo.load rfl (Lds.next (Lds.next (Lds.rowF (by assumption))))) rfl ?_)
              refine WpL.want rfl rfl rfl (Stp.rd (Rdo.move rfl) rfl ?_)
              refine WpL.want rfl rfl rfl (Stp.rd (Rdo.eqi rfl rfl) rfl ?_)
              refine WpL.want rfl rfl rfl (Stp.rd (Rdo.pick_t rfl rfl) rfl ?_)
              refine WpL.want rfl rfl rfl (Stp.rd (Rdo.move rfl) rfl ?_)
              refine WpL.gT rfl rfl (by first | rfl | assumption | (simp only [decide_eq_true_eq, decide_eq_false_iff_not, Bool.not_eq_true', Bool.not_eq_false', List.length_cons, List.length_nil]; first | assumption | omega) | (simp <;> done) | (simp <;> omega)) ?_
              refine WpL.want rfl rfl rfl (Stp.rd (Rdo.move rfl) rfl ?_)
              refine WpL.want rfl rfl rfl (Stp.rd (Rdo.move rfl) rfl ?_)
              refine WpL.want rfl rfl rfl (Stp.rd (Rdo.indexSlice rfl rfl (by omega)) rfl ?_)
              refine WpL.want rfl rfl rfl (Stp.rd (Rdo.fieldAddr rfl) rfl ?_)
              refine WpL.want rfl rfl rfl (Stp.rd (Rdo.load rfl (Lds.next (Lds.next (Lds.rowF (by assumption))))) rfl ?_)
              refine WpL.want rfl rfl rfl (Stp.rd (Rdo.move rfl) rfl ?_)
              refine WpL.want rfl rfl rfl (Stp.rd (Rdo.eqi rfl rfl) rfl ?_)
              refine WpL.want rfl rfl rfl (Stp.rd (Rdo.pick_t rfl rfl) rfl ?_)
              refine WpL.step (Stp.rd (Rdo.pick_f rfl rfl) rfl ?_)
              refine WpL.nil ?_
              refine Thn.n ?_
              refine Wp.condL rfl (by first | rfl | assumption | (simp only [decide_eq_true_eq, decide_eq_false_iff_not, Bool.not_eq_true', Bool.not_eq_false', List.length_cons, List.length_nil]; first | assumption | omega) | (simp <;> done) | (simp <;> omega)) ?_
              refine Wp.skip ?_
              refine Blk.n ?_
              refine Thn.n ?_
              refine Wp.region ?_
              refine WpL.step (Stp.rd (Rdo.move rfl) rfl ?_)
              refine WpL.step (Stp.rd (Rdo.succ rfl rfl (by omega)) rfl ?_)
              refine WpL.step (Stp.rd (Rdo.assign rfl) rfl ?_)
              refine WpL.nil ?_
              refine Thn.n ?_
              exact ⟨k2 - 1, _, _, by omega, ⟨p + 1, by omega, rfl, rfl⟩, (by repeat (first | exact trivial | refine ⟨rfl, ?_⟩)), Gh.tk (by repeat (first | exact Tk.nil | apply Tk.cons (by repeat (first | exact Pk.here | apply Pk.next))))⟩
            · refine Wp.seq ?_
              refine Wp.seq ?_
              refine Wp.region ?_
              refine WpL.step (Stp.rd (Rdo.move rfl) rfl ?_)
              refine WpL.step (Stp.rd (Rdo.move rfl) rfl ?_)
              refine WpL.step (Stp.rd (Rdo.lti rfl rfl) rfl ?_)
              refine WpL.nil ?_
              refine Thn.n ?_
              refine Wp.condL rfl (by first | rfl | assumption | (simp only [decide_eq_true_eq, decide_eq_false_iff_not, Bool.not_eq_true', Bool.not_eq_false', List.length_cons, List.length_nil]; first | assumption | omega) | (simp <;> done) | (simp <;> omega)) ?_
              refine Wp.exit ?_
              refine Thn.x ?_
              refine Thn.x ?_
              refine Blk.here ?_
              refine Thn.n ?_
              refine Wp.seq ?_
              refine Wp.region ?_
              refine WpL.step (Stp.rd (Rdo.move rfl) rfl ?_)
              refine WpL.step (Stp.rd (Rdo.move rfl) rfl ?_)
              refine WpL.step (Stp.rd (Rdo.move rfl) rfl ?_)
              refine WpL.step (Stp.rd (Rdo.indexSlice rfl rfl (by omega)) rfl ?_)
              refine WpL.step (Stp.rd (Rdo.fieldAddr rfl) rfl ?_)
              refine WpL.step (Stp.rd (Rdo.load rfl (Lds.next (Lds.rowF (by assumption)))) rfl ?_)
              refine WpL.step (Stp.call (s5) (by kernel_rfl) rfl (by repeat (first | exact Tk.nil | apply Tk.cons (by repeat (first | exact Pk.here | apply Pk.next)))) rfl ?_)
              rintro _ _ ⟨rfl, rfl⟩
              refine WpL.lst (by simp only [List.cons_append, List.nil_append]; exact rfl) ?_
              refine WpL.step (Stp.rd (Rdo.move rfl) rfl ?_)
              refine WpL.step (Stp.rd (Rdo.extract rfl rfl) rfl ?_)
              refine WpL.step (Stp.rd (Rdo.extract rfl rfl) rfl ?_)
              refine WpL.step (Stp.rd (Rdo.assign rfl) rfl ?_)
              refine WpL.step (Stp.rd (Rdo.assign rfl) rfl ?_)
              refine WpL.nil ?_
              refine Thn.n ?_
              refine Wp.seq ?_
              refine Wp.region ?_
              refine WpL.step (Stp.rd (Rdo.move rfl) rfl ?_)
              refine WpL.step (Stp.rd (Rdo.move rfl) rfl ?_)
              refine WpL.step (Stp.rd (Rdo.move rfl) rfl ?_)
              refine WpL.step (Stp.rd (Rdo.indexSlice rfl rfl (by omega)) rfl ?_)
              refine WpL.step (Stp.rd (Rdo.fieldAddr rfl) rfl ?_)
              refine WpL.step (Stp.rd (Rdo.load rfl (Lds.next (Lds.rowF (by assumption)))) rfl ?_)
              refine WpL.step (Stp.call (s6) (by kernel_rfl) rfl (by repeat (first | exact Tk.nil | apply Tk.cons (by repeat (first | exact Pk.here | apply Pk.next)))) rfl ?_)
              rintro _ _ ⟨v41_0, ⟨rfl, rfl⟩⟩
              refine WpL.lst (by simp only [List.cons_append, List.nil_append]; exact rfl) ?_
              refine WpL.step (Stp.rd (Rdo.move rfl) rfl ?_)
              refine WpL.step (Stp.rd (Rdo.extract rfl rfl) rfl ?_)
              refine WpL.step (Stp.rd (Rdo.extract rfl rfl) rfl ?_)
              refine WpL.step (Stp.rd (Rdo.extract rfl rfl) rfl ?_)
              refine WpL.step (Stp.rd (Rdo.assign rfl) rfl ?_)
              refine WpL.step (Stp.rd (Rdo.assign rfl) rfl ?_)
              refine WpL.step (Stp.rd (Rdo.assign rfl) rfl ?_)
              refine WpL.nil ?_
              refine Thn.n ?_
              refine Wp.seq ?_
              refine Wp.region ?_
              refine WpL.step (Stp.rd (Rdo.move rfl) rfl ?_)
              refine WpL.step (Stp.rd (Rdo.not rfl) rfl ?_)
              refine WpL.step (Stp.rd (Rdo.move rfl) rfl ?_)
              refine WpL.want rfl rfl rfl (Stp.rd (Rdo.move rfl) rfl ?_)
              refine WpL.want rfl rfl rfl (Stp.rd (Rdo.move rfl) rfl ?_)
              refine WpL.want rfl rfl rfl (Stp.rd (Rdo.indexSlice rfl rfl (by omega)) rfl ?_)
              refine WpL.want rfl rfl rfl (Stp.rd (Rdo.fieldAddr rfl) rfl ?_)
              refine WpL.want rfl rfl rfl (Stp.rd (Rdo.load rfl (Lds.next (Lds.next (Lds.rowF (by assumption))))) rfl ?_)
              refine WpL.want rfl rfl rfl (Stp.rd (Rdo.move rfl) rfl ?_)
              refine WpL.want rfl rfl rfl (Stp.rd (Rdo.gti rfl rfl) rfl ?_)
              refine WpL.step (Stp.rd (Rdo.pick_f rfl rfl) rfl ?_)
              refine WpL.step (Stp.rd (Rdo.move rfl) rfl ?_)
              refine WpL.gF rfl rfl (by first | rfl | assumption | (simp only [decide_eq_true_eq, decide_eq_false_iff_not, Bool.not_eq_true', Bool.not_eq_false', List.length_cons, List.length_nil]; first | assumption | omega) | (simp <;> done) | (simp <;> omega)) ?_
              refine WpL.want rfl rfl rfl (Stp.rd (Rdo.move rfl) rfl ?_)
              refine WpL.want rfl rfl rfl (Stp.rd (Rdo.move rfl) rfl ?_)
              refine WpL.want rfl rfl rfl (Stp.rd (Rdo.move rfl) rfl ?_)
              refine WpL.want rfl rfl rfl (Stp.rd (Rdo.move rfl) rfl ?_)
              refine WpL.want rfl rfl rfl (Stp.rd (Rdo.indexSlice rfl rfl (by omega)) rfl ?_)
              refine WpL.want rfl rfl rfl (Stp.rd (Rdo.fieldAddr rfl) rfl ?_)
              refine WpL.want rfl rfl rfl (Stp.rd (Rdo.load rfl (Lds.next (Lds.next (Lds.rowF (by assumption))))) rfl ?_)
              refine WpL.want rfl rfl rfl (Stp.rd (Rdo.move rfl) rfl ?_)
              refine WpL.want rfl rfl rfl (Stp.rd (Rdo.eqi rfl rfl) rfl ?_)
              refine WpL.want rfl rfl rfl (Stp.rd (Rdo.pick_t rfl rfl) rfl ?_)
              refine WpL.want rfl rfl rfl (Stp.rd (Rdo.move rfl) rfl ?_)
              refine WpL.gF rfl rfl (by first | rfl | assumption | (simp only [decide_eq_true_eq, decide_eq_false_iff_not, Bool.not_eq_true', Bool.not_eq_false', List.length_cons, List.length_nil]; first | assumption | omega) | (simp <;> done) | (simp <;> omega)) ?_
              refine WpL.pass rfl rfl rfl rfl ?_
              refine WpL.pass rfl rfl rfl rfl ?_
              refine WpL.pass rfl rfl rfl rfl ?_
              refine WpL.pass rfl rfl rfl rfl ?_
              refine WpL.pass rfl rfl rfl rfl ?_
              refine WpL.pass rfl rfl rfl rfl ?_
              refine WpL.pass rfl rfl rfl rfl ?_
              refine WpL.want rfl rfl rfl (Stp.rd (Rdo.pick_f rfl rfl) rfl ?_)
              refine WpL.step (Stp.rd (Rdo.pick_f rfl rfl) rfl ?_)
              refine WpL.nil ?_
              refine Thn.n ?_
              refine Wp.condF rfl ?_
              refine Wp.skip ?_
              refine Blk.n ?_
              refine Thn.n ?_
              refine Wp.region ?_
              refine WpL.step (Stp.rd (Rdo.move rfl) rfl ?_)
              refine WpL.step (Stp.rd (Rdo.succ rfl rfl (by omega)) rfl ?_)
              refine WpL.step (Stp.rd (Rdo.assign rfl) rfl ?_)
              refine WpL.nil ?_
              refine Thn.n ?_
              exact ⟨k2 - 1, _, _, by omega, ⟨p + 1, by omega, rfl, rfl⟩, (by repeat (first | exact trivial | refine ⟨rfl, ?_⟩)), Gh.tk (by repeat (first | exact Tk.nil | apply Tk.cons (by repeat (first | exact Pk.here | apply Pk.next))))⟩
      · have hp' : ¬ (p : Int) < c.marks.length := by omega
        refine Wp.seq ?_
        refine Wp.seq ?_
        refine Wp.region ?_
        refine WpL.step (Stp.rd (Rdo.move rfl) rfl ?_)
        refine WpL.step (Stp.rd (Rdo.move rfl) rfl ?_)
        refine WpL.step (Stp.rd (Rdo.lenSlice rfl) rfl ?_)
        refine WpL.step (Stp.rd (Rdo.lti rfl rfl) rfl ?_)
        refine WpL.nil ?_
        refine Thn.n ?_
        refine Wp.condL rfl (by first | rfl | assumption | (simp only [decide_eq_true_eq, decide_eq_false_iff_not, Bool.not_eq_true', Bool.not_eq_false', List.length_cons, List.length_nil]; first | assumption | omega) | (simp <;> done) | (simp <;> omega)) ?_
        refine Wp.exit ?_
        refine Thn.x ?_
        refine Thn.x ?_
        refine Blk.here ?_
        refine Thn.n ?_
        refine Wp.seq ?_
        refine Wp.region ?_
        refine WpL.step (Stp.call (known_ok) (by kernel_rfl) rfl (by repeat (first | exact Tk.nil | apply Tk.cons (by repeat (first | exact Pk.here | apply Pk.next)))) rfl ?_)
        rintro _ _ ⟨rfl, rfl⟩
        refine WpL.lst (by simp only [List.cons_append, List.nil_append]; exact rfl) ?_
        refine WpL.step (Stp.rd (Rdo.assign rfl) rfl ?_)
        refine WpL.nil ?_
        refine Thn.n ?_
        refine Wp.ret ?_
        refine Ret.now (ResV.tmp rfl ResV.nil) (Gh.tk (by repeat (first | exact Tk.nil | apply Tk.cons (by repeat (first | exact Pk.here | apply Pk.next))))) rfl
theorem once_walk (a : Option Addr) (n c : Nat) (ops : List Go.Proofs.YtccgdnocldmjeaaDoor.Op) (w : World) (h : ROps (fun b => w.heap[b]?) [.slice a n c] ops) :
    Calls Tryd.prog 7 #[.slice a n c] w fun e w' => e = .returned (.bool true) ∧ Go.RowKit.Below w.heap.size w w' := by
  obtain ⟨v, hv, h1, h2⟩ := h
  obtain rfl := (List.cons.inj hv).1
  exact Trip.top (args := [.slice a n c]) (Φ := fun g => RdSl ROp 9 g (.slice a n c) ops) (post := fun r _ => r = vb true) h1 (fun _ _ h => h) (onceLaw_ok _ ops h2)
end Go.Proofs.YtccgdnocldmjeaaDoor
