/- The coordinator: the digest of all marks. -/
import Derived.Test.YtccgdnocldmjeaaDoorOpsA
import Derived.Test.YtccgdnocldmjeaaDoorWir4
import Derived.Test.YtccgdnocldmjeaaDoorDig7
namespace Go.Proofs.YtccgdnocldmjeaaDoor
open Go
set_option maxHeartbeats 4000000
set_option linter.unusedSimpArgs false
set_option linter.unusedVariables false
set_option maxRecDepth 20000

def marksB (ms : List Mark) : List UInt8 := (ms.map markB).flatten
theorem marksB_snoc (ms : List Mark) (m : Mark) : marksB (ms ++ [m]) = marksB ms ++ markB m := by simp [marksB]
theorem marksB_len (ms : List Mark) : (marksB ms).length ≤ 45 * ms.length := by
  induction ms with
  | nil => simp [marksB]
  | cons m ms ih =>
    have := markB_len m
    simp only [marksB, List.map_cons, List.flatten_cons, List.length_append, List.length_cons] at ih ⊢
    omega
abbrev hashV (h : List Int) : Value := .agg (h.map v8).toArray
/-- The digest of a coordinator's marks. -/
def CoS.sum (c : CoS) : List Int := dSum (marksB c.marks)
theorem sum_nil : Trip Tryd.prog 21 [.pointer none] [] (fun r l => r = hashV (List.replicate 32 0) ∧ l = []) := by
  refine Trip.of_body Tryd.func21 rfl Tryd.ntmps21 Tryd.results21 rfl ?_
  refine Wp.seq ?_
  refine Wp.region ?_
  (refine WpL.step (Stp.alloc rfl ?_); intro nb2)
  refine WpL.nil ?_
  refine Thn.n ?_
  refine Wp.seq ?_
  refine Wp.seq ?_
  refine Wp.region ?_
  refine WpL.step (Stp.rd (Rdo.move rfl) rfl ?_)
  refine WpL.step (Stp.rd (Rdo.eqnil rfl rfl) rfl ?_)
  refine WpL.nil ?_
  refine Thn.n ?_
  refine Wp.condT rfl ?_
  refine Wp.seq ?_
  refine Wp.region ?_
  refine WpL.step (Stp.rd (Rdo.bldArr0) rfl ?_)
  refine WpL.step (Stp.storeV rfl rfl (VC.ag _) (by first | rfl | assumption | (simp <;> done)) (by repeat (first | (apply Sts.all; (focus (first | rfl | assumption | (simp <;> done))); (focus (first | exact oneCells1 rfl | assumption | exact oneCells1 (by assumption) | ((repeat (first | assumption | exact oneCells_nil | exact oneCells_bytesC _ | (apply oneCells_cons; (focus (first | rfl | assumption))) | apply oneCells_append)); done) | (simp [oneCells, Value.oneCell'] <;> done)))) | (apply Sts.lp (by repeat (first | exact LPut.nil _ | apply LPut.here | apply LPut.next)); (focus (first | exact oneCells1 rfl | assumption | exact oneCells1 (by assumption) | ((repeat (first | assumption | exact oneCells_nil | exact oneCells_bytesC _ | (apply oneCells_cons; (focus (first | rfl | assumption))) | apply oneCells_append)); done) | (simp [oneCells, Value.oneCell'] <;> done)))) | (refine Sts.row1 (by first | assumption | omega | (simp <;> omega)) (by first | rfl | assumption)) | (refine Sts.rowP (by assumption) (by first | rfl | assumption | (simp <;> done)) (by rfl) (by (first | exact oneCells1 rfl | assumption | exact oneCells1 (by assumption) | ((repeat (first | assumption | exact oneCells_nil | exact oneCells_bytesC _ | (apply oneCells_cons; (focus (first | rfl | assumption))) | apply oneCells_append)); done) | (simp [oneCells, Value.oneCell'] <;> done)))) | apply Sts.next)) ?_)
  refine WpL.nil ?_
  refine Thn.n ?_
  refine Wp.ret ?_
  refine Thn.r ?_
  refine Ret.now (ResV.cell rfl (by repeat (first | exact Lds.one rfl | (apply Lds.all; (first | rfl | assumption | (simp <;> fail))) | exact Lds.ione0 | exact Lds.ione rfl | (apply Lds.iall; (first | rfl | assumption | (simp <;> fail))) | apply Lds.next)) ResV.nil) (Gh.tk (by repeat (first | exact Tk.nil | apply Tk.cons (by repeat (first | exact Pk.here | apply Pk.next))))) ⟨rfl, rfl⟩
theorem rowA_cap {t : TypeId} {sz n c : Nat} {a : Option Addr} {xs : List Value} {r : Res} (h : rowA t sz (.slice a n c) n xs r) : n ≤ c := by
  unfold rowA at h
  rcases h.2 with ⟨h1, h2⟩ | ⟨b, o, cap, cur, h1, _, h3, _⟩
  · omega
  · simp only [Value.slice.injEq, true_and] at h1
    omega
theorem marks_split {ms : List Mark} {i : Nat} {m : Mark} (h : ms[i]? = some m) : (ms.map markC).flatten = ((ms.take i).map markC).flatten ++ (markC m ++ ((ms.drop (i + 1)).map markC).flatten) := by
  obtain ⟨hi, he⟩ := List.getElem?_eq_some_iff.1 h
  conv => lhs; rw [← List.take_append_drop i ms, List.drop_eq_getElem_cons hi, he]
  simp
abbrev smE (b : Nat) (mvv : Value) (n nh : Nat) (a : Option Addr) (bl cp i : Nat) : Env := [(0, vp b 0), (2, vp nh 0), (3, .slice a bl cp), (14, mvv), (15, .int .i64 n), (16, vi i)]
theorem csum_ok (b : Nat) (c : CoS) (hm : c.marks.length ≤ 1000000) : Trip Tryd.prog 21 [vp b 0] [coA b c] (fun r l => r = hashV c.sum ∧ l = [coA b c]) := by
  obtain ⟨Z, hZ⟩ : ∃ Z, Z = dSum (marksB c.marks) := ⟨_, rfl⟩
  have hZ2 : c.sum = Z := by rw [hZ]; rfl
  have hz1 : (Z.map (Value.int .u8)).length = 32 := by rw [List.length_map, hZ]; unfold dSum; exact dOut_len _ _
  have hz2 : oneCells (Z.map (Value.int .u8)) := by
    intro v hv
    obtain ⟨x, _, rfl⟩ := List.mem_map.1 hv
    rfl
  rw [hZ2]
  clear hZ2
  refine Trip.ghE coA_open ?_
  rintro ⟨tb, mb, db, ab, qs, mv⟩ hq
  simp only [coX, List.cons_append, List.nil_append] at hq ⊢
  refine Trip.get (Pk.next (Pk.next (Pk.next (Pk.next Pk.here)))) (fun r => rowA_shape) ?_
  rintro ⟨ma, mc, rfl⟩
  refine Trip.of_body Tryd.func21 rfl Tryd.ntmps21 Tryd.results21 rfl ?_
  refine Wp.seq ?_
  refine Wp.region ?_
  (refine WpL.step (Stp.alloc rfl ?_); intro nb2)
  refine WpL.nil ?_
  refine Thn.n ?_
  refine Wp.seq ?_
  refine Wp.seq ?_
  refine Wp.region ?_
  refine WpL.step (Stp.rd (Rdo.move rfl) rfl ?_)
  refine WpL.step (Stp.rd (Rdo.eqnil rfl rfl) rfl ?_)
  refine WpL.nil ?_
  refine Thn.n ?_
  refine Wp.condF rfl ?_
  refine Wp.skip ?_
  refine Thn.n ?_
  refine Wp.seq ?_
  refine Wp.region ?_
  refine WpL.step (Stp.rd (Rdo.assign rfl) rfl ?_)
  refine WpL.nil ?_
  refine Thn.n ?_
  refine Wp.seq ?_
  refine Wp.seq ?_
  refine Wp.region ?_
  refine WpL.step (Stp.rd (Rdo.move rfl) rfl ?_)
  refine WpL.step (Stp.rd (Rdo.nilCheck rfl) rfl ?_)
  refine WpL.step (Stp.rd (Rdo.fieldAddr0 rfl) rfl ?_)
  refine WpL.step (Stp.rd (Rdo.load rfl (Lds.next (Lds.one rfl))) rfl ?_)
  refine WpL.step (Stp.rd (Rdo.lenSlice rfl) rfl ?_)
  refine WpL.step (Stp.rd (Rdo.move rfl) rfl ?_)
  refine WpL.nil ?_
  refine Thn.n ?_
  refine Wp.block ?_
  refine Wp.loopE (fun k e h => ∃ (i : Nat) (a : Option Addr) (cp : Nat), i + k = c.marks.length ∧ e = smE b (.slice ma c.marks.length mc) c.marks.length nb2 a (marksB (c.marks.take i)).length cp i ∧
      h = rowA 5 1 (.slice a (marksB (c.marks.take i)).length cp) (marksB (c.marks.take i)).length (bytesC (marksB (c.marks.take i))) :: cel nb2 54 (List.replicate 32 (.int .u8 0)) :: coX b c ⟨tb, mb, db, ab, qs, .slice ma c.marks.length mc⟩) c.marks.length
    (e0 := smE b (.slice ma c.marks.length mc) c.marks.length nb2 none 0 0 0) (l0 := rowA 5 1 (.slice none 0 0) 0 [] :: cel nb2 54 (List.replicate 32 (.int .u8 0)) :: coX b c ⟨tb, mb, db, ab, qs, .slice ma c.marks.length mc⟩) (by repeat (first | exact trivial | refine ⟨rfl, ?_⟩)) (by repeat (first | exact trivial | refine ⟨rfl, ?_⟩)) (Gh.trans (Gh.nil 5 1) (Gh.tk (by repeat (first | exact Tk.nil | apply Tk.cons (by repeat (first | exact Pk.here | apply Pk.next)))))) ⟨0, none, 0, by omega, rfl, rfl⟩ ?_
  rintro k e h ⟨i, a, cp, hik, rfl, rfl⟩
  have hbl := marksB_len (c.marks.take i)
  rw [List.length_take] at hbl
  by_cases hi : i < c.marks.length
  · have hi' : (i : Int) < c.marks.length := by omega
    have hM : c.marks[i]? = some c.marks[i] := List.getElem?_eq_getElem hi
    have hsp := marks_split hM
    have hpl : (((c.marks.take i).map markC).flatten).length = i * 4 := by
      have : ∀ l : List Mark, ((l.map markC).flatten).length = l.length * 4 := by
        intro l
        induction l with
        | nil => rfl
        | cons x l ih => simp [ih]; omega
      rw [this, List.length_take, Nat.min_eq_left (by omega)]
    have htk : marksB (c.marks.take (i + 1)) = marksB (c.marks.take i) ++ markB c.marks[i] := by
      rw [List.take_add_one, hM, Option.toList_some, marksB_snoc]
    have s1 := encMark_ok c.marks[i]
    have hml := markB_len c.marks[i]
    generalize c.marks[i] = M at *
    refine Wp.get (Pk.next (Pk.next (Pk.next (Pk.next (Pk.next (Pk.next Pk.here)))))) (fun r => rowA_at i hi) ?_
    rintro ⟨rb, ro, rc, hv⟩
    simp only [Value.slice.injEq, true_and] at hv
    obtain ⟨rfl, rfl⟩ := hv
    simp only [coX]
    clear hZ
    refine Wp.seq ?_
    refine Wp.region ?_
    refine WpL.step (Stp.rd (Rdo.lti rfl rfl) rfl ?_)
    refine WpL.nil ?_
    refine Thn.n ?_
    refine Wp.seq ?_
    refine Wp.condK rfl (by first | rfl | assumption | (simp only [decide_eq_true_eq, decide_eq_false_iff_not, Bool.not_eq_true', Bool.not_eq_false', List.length_cons, List.length_nil]; first | assumption | omega) | (simp <;> done) | (simp <;> omega)) ?_
    refine Wp.skip ?_
    refine Thn.n ?_
    refine Wp.seq ?_
    refine Wp.block ?_
    refine Wp.seq ?_
    refine Wp.region ?_
    refine WpL.step (Stp.rd (Rdo.indexSlice rfl rfl (by omega)) rfl ?_)
    refine WpL.step (Stp.rd (Rdo.load rfl (Lds.next (Lds.next (Lds.next (Lds.next (Lds.next (Lds.next (Lds.row (by assumption) (by first | assumption | omega | (simp <;> omega)) (by first | assumption | rfl))))))))) rfl ?_)
    (refine WpL.step (Stp.alloc rfl ?_); intro nb15)
    refine WpL.step (Stp.storeV rfl rfl (VC.ag _) (by first | rfl | assumption | (simp <;> done)) (by repeat (first | (apply Sts.all; (focus (first | rfl | assumption | (simp <;> done))); (focus (first | exact oneCells1 rfl | assumption | exact oneCells1 (by assumption) | ((repeat (first | assumption | exact oneCells_nil | exact oneCells_bytesC _ | (apply oneCells_cons; (focus (first | rfl | assumption))) | apply oneCells_append)); done) | (simp [oneCells, Value.oneCell'] <;> done)))) | (apply Sts.lp (by repeat (first | exact LPut.nil _ | apply LPut.here | apply LPut.next)); (focus (first | exact oneCells1 rfl | assumption | exact oneCells1 (by assumption) | ((repeat (first | assumption | exact oneCells_nil | exact oneCells_bytesC _ | (apply oneCells_cons; (focus (first | rfl | assumption))) | apply oneCells_append)); done) | (simp [oneCells, Value.oneCell'] <;> done)))) | (refine Sts.row1 (by first | assumption | omega | (simp <;> omega)) (by first | rfl | assumption)) | (refine Sts.rowP (by assumption) (by first | rfl | assumption | (simp <;> done)) (by rfl) (by (first | exact oneCells1 rfl | assumption | exact oneCells1 (by assumption) | ((repeat (first | assumption | exact oneCells_nil | exact oneCells_bytesC _ | (apply oneCells_cons; (focus (first | rfl | assumption))) | apply oneCells_append)); done) | (simp [oneCells, Value.oneCell'] <;> done)))) | apply Sts.next)) ?_)
    refine WpL.nil ?_
    refine Thn.n ?_
    refine Wp.seq ?_
    refine Wp.region ?_
    refine WpL.step (Stp.rd (Rdo.load rfl (by apply Lds.all; (first | rfl | assumption | (simp <;> fail)))) rfl ?_)
    refine WpL.step (Stp.call (s1) (by kernel_rfl) rfl (by repeat (first | exact Tk.nil | apply Tk.cons (by repeat (first | exact Pk.here | apply Pk.next)))) rfl ?_)
    rintro _ _ ⟨v23_0, ⟨v23_1, ⟨rfl, rfl⟩⟩⟩
    refine WpL.lst (by simp only [List.cons_append, List.nil_append]; exact rfl) ?_
    refine WpL.step (Stp.rd (Rdo.move rfl) rfl ?_)
    refine WpL.step (Stp.rd (Rdo.extract rfl rfl) rfl ?_)
    refine WpL.step (Stp.rd (Rdo.extract rfl rfl) rfl ?_)
    refine WpL.step (Stp.rd (Rdo.assign rfl) rfl ?_)
    refine WpL.step (Stp.rd (Rdo.assign rfl) rfl ?_)
    refine WpL.nil ?_
    refine Thn.n ?_
    refine Wp.region ?_
    refine WpL.step (Stp.rd (Rdo.move rfl) rfl ?_)
    refine WpL.step (Stp.rd (Rdo.move rfl) rfl ?_)
    refine WpL.step (Stp.appendP rfl rfl (Pk.next (Pk.next Pk.here)) Src.frozen (by simp [bytesC_length]) (oneCells_bytesC (markB M)) (by omega) (by omega) rfl (by rfl) ?_)
    intro na nc
    have e1 : (marksB (c.marks.take i)).length + (markB M).length = (marksB (c.marks.take (i + 1))).length := by rw [htk, List.length_append]
    have e2 : bytesC (marksB (c.marks.take i)) ++ bytesC (markB M) = bytesC (marksB (c.marks.take (i + 1))) := by rw [htk]; simp [bytesC]
    rw [e1, e2]
    refine WpL.step (Stp.rd (Rdo.assign rfl) rfl ?_)
    refine WpL.nil ?_
    refine Blk.n ?_
    refine Thn.n ?_
    refine Wp.region ?_
    refine WpL.step (Stp.rd (Rdo.succ rfl rfl (by omega)) rfl ?_)
    refine WpL.step (Stp.rd (Rdo.move rfl) rfl ?_)
    refine WpL.nil ?_
    refine Thn.n ?_
    exact ⟨k - 1, _, _, by omega, ⟨i + 1, na, nc, by omega, rfl, rfl⟩, (by repeat (first | exact trivial | refine ⟨rfl, ?_⟩)), Gh.tk (by repeat (first | exact Tk.nil | apply Tk.cons (by repeat (first | exact Pk.here | apply Pk.next))))⟩
  · have hfull : c.marks.take i = c.marks := List.take_of_length_le (by omega)
    rw [hfull] at hbl ⊢
    refine Wp.get Pk.here (fun r => rowA_cap) ?_
    intro hcap
    have s2 := sum_ok a cp (marksB c.marks) (by omega) hcap
    rw [← hZ] at s2
    clear hZ
    refine Wp.gh (Gh.ice Pk.here) ?_
    simp only [coX]
    refine Wp.seq ?_
    refine Wp.region ?_
    refine WpL.step (Stp.rd (Rdo.lti rfl rfl) rfl ?_)
    refine WpL.nil ?_
    refine Thn.n ?_
    refine Wp.seq ?_
    refine Wp.condL rfl (by first | rfl | assumption | (simp only [decide_eq_true_eq, decide_eq_false_iff_not, Bool.not_eq_true', Bool.not_eq_false', List.length_cons, List.length_nil]; first | assumption | omega) | (simp <;> done) | (simp <;> omega)) ?_
    refine Wp.exit ?_
    refine Thn.x ?_
    refine Thn.x ?_
    refine Blk.here ?_
    refine Thn.n ?_
    refine Wp.seq ?_
    refine Wp.region ?_
    refine WpL.step (Stp.rd (Rdo.move rfl) rfl ?_)
    refine WpL.step (Stp.call (s2) (by kernel_rfl) rfl (by repeat (first | exact Tk.nil | apply Tk.cons (by repeat (first | exact Pk.here | apply Pk.next)))) rfl ?_)
    rintro _ _ ⟨rfl, rfl⟩
    refine WpL.lst (by simp only [List.cons_append, List.nil_append]; exact rfl) ?_
    refine WpL.step (Stp.storeV rfl rfl (VC.ag _) (by first | rfl | assumption | (simp <;> done)) (by repeat (first | (apply Sts.all; (focus (first | rfl | assumption | (simp <;> done))); (focus (first | exact oneCells1 rfl | assumption | exact oneCells1 (by assumption) | ((repeat (first | assumption | exact oneCells_nil | exact oneCells_bytesC _ | (apply oneCells_cons; (focus (first | rfl | assumption))) | apply oneCells_append)); done) | (simp [oneCells, Value.oneCell'] <;> done)))) | (apply Sts.lp (by repeat (first | exact LPut.nil _ | apply LPut.here | apply LPut.next)); (focus (first | exact oneCells1 rfl | assumption | exact oneCells1 (by assumption) | ((repeat (first | assumption | exact oneCells_nil | exact oneCells_bytesC _ | (apply oneCells_cons; (focus (first | rfl | assumption))) | apply oneCells_append)); done) | (simp [oneCells, Value.oneCell'] <;> done)))) | (refine Sts.row1 (by first | assumption | omega | (simp <;> omega)) (by first | rfl | assumption)) | (refine Sts.rowP (by assumption) (by first | rfl | assumption | (simp <;> done)) (by rfl) (by (first | exact oneCells1 rfl | assumption | exact oneCells1 (by assumption) | ((repeat (first | assumption | exact oneCells_nil | exact oneCells_bytesC _ | (apply oneCells_cons; (focus (first | rfl | assumption))) | apply oneCells_append)); done) | (simp [oneCells, Value.oneCell'] <;> done)))) | apply Sts.next)) ?_)
    refine WpL.nil ?_
    refine Thn.n ?_
    refine Wp.ret ?_
    exact Ret.now (by repeat (first | exact ResV.nil | apply ResV.tmp rfl | apply ResV.cell rfl (by repeat (first | exact Lds.one rfl | (apply Lds.all; (first | rfl | assumption | (simp <;> fail))) | exact Lds.ione0 | exact Lds.ione rfl | (apply Lds.iall; (first | rfl | assumption | (simp <;> fail))) | apply Lds.next)))) (Gh.trans (Gh.tk (by repeat (first | exact Tk.nil | apply Tk.cons (by repeat (first | exact Pk.here | apply Pk.next))))) (coA_shut (l := []) ⟨tb, mb, db, ab, qs, .slice ma c.marks.length mc⟩ hq)) ⟨rfl, rfl⟩
end Go.Proofs.YtccgdnocldmjeaaDoor
