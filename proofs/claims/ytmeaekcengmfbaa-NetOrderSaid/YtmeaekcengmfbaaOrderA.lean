/- NetOrder, walked. -/
import Derived.Test.YtmeaekcengmfbaaBag5
import Derived.Test.YtmeaekcengmfbaaFrz
namespace Go.Proofs.Ytmeaekcengmfbaa
open Go
set_option maxHeartbeats 4000000
set_option linter.unusedSimpArgs false
set_option linter.unusedVariables false
set_option maxRecDepth 20000

def mS (ws : List Int) : List Msg := ws.map fun s => msgSV s 0
@[simp] theorem mS_len (ws : List Int) : (mS ws).length = ws.length := by simp [mS]
theorem mS_erase : ∀ (ws : List Int) (i : Nat), (mS ws).eraseIdx i = mS (ws.eraseIdx i)
  | [], _ => by simp [mS]
  | w :: ws, 0 => by simp [mS]
  | w :: ws, i + 1 => by
    have := mS_erase ws i
    simpa [mS] using this
theorem mS_at {ws : List Int} {i : Nat} {w : Int} (h : ws[i]? = some w) : (mS ws)[i]? = some (msgSV w 0) := by simp [mS, h]
def iC (ws : List Int) : List Value := ws.map vi
@[simp] theorem iC_len (ws : List Int) : (iC ws).length = ws.length := by simp [iC]
theorem iC_at {ws : List Int} {i : Nat} {w : Int} (h : ws[i]? = some w) : (iC ws)[i]? = some (vi w) := by simp [iC, h]
theorem iC_append (a b : List Int) : iC (a ++ b) = iC a ++ iC b := by simp [iC]
theorem oneCells_iC (ws : List Int) : oneCells (iC ws) := by
  intro v hv
  obtain ⟨n, _, rfl⟩ := List.mem_map.1 hv
  rfl
def upto (n : Nat) : List Int := (List.range n).map fun s : Nat => (s : Int)
theorem upto_succ (n : Nat) : upto (n + 1) = upto n ++ [(n : Int)] := by simp [upto, List.range_succ]
@[simp] theorem upto_len (n : Nat) : (upto n).length = n := by simp [upto]

abbrev ordE1 (n : Nat) (p : Value) (b : Nat) (a : Option Addr) (c j : Nat) : Env := [(0, vi n), (1, p), (4, vb false), (5, vp b 0), (6, .slice a j c), (7, vi j)]
abbrev ordL (b : Nat) (ws : List Int) (a : Option Addr) (c : Nat) (v : Value) (ps : List Int) : List HP := [bagA b (mS ws) 0, rowA 3 1 (.slice a ws.length c) ws.length (iC ws), fz (fun g => RdInts g v ps)]
abbrev ordE2 (p : Value) (b : Nat) (a : Option Addr) (m c i : Nat) : Env := [(1, p), (4, vb false), (5, vp b 0), (6, .slice a m c), (8, vi i)]

theorem order_ok (n : Int) (pv : Value) (ps : List Int) : Trip Try.prog 7 [vi n, pv] [fz (fun g => RdInts g pv ps)] (fun r _ => r = vb true) := by
  refine Trip.get Pk.here shape_row ?_
  rintro ⟨a1, c1, rfl⟩
  by_cases h0 : n < 0
  · refine Trip.of_body Try.func7 rfl Try.ntmps7 Try.results7 rfl ?_
    refine Wp.seq ?_
    refine Wp.region ?_
    refine WpL.step (Stp.rd (Rdo.assign rfl) rfl ?_)
    refine WpL.nil ?_
    refine Thn.n ?_
    refine Wp.seq ?_
    refine Wp.seq ?_
    refine Wp.region ?_
    refine WpL.step (Stp.rd (Rdo.move rfl) rfl ?_)
    refine WpL.step (Stp.rd (Rdo.lti rfl rfl) rfl ?_)
    refine WpL.step (Stp.rd (Rdo.move rfl) rfl ?_)
    refine WpL.gT rfl rfl (by first | rfl | assumption | (simp only [decide_eq_true_eq, decide_eq_false_iff_not, Bool.not_eq_true', Bool.not_eq_false', List.length_cons, List.length_nil]; first | assumption | omega) | (simp <;> done) | (simp <;> omega)) ?_
    refine WpL.pass rfl rfl rfl rfl ?_
    refine WpL.pass rfl rfl rfl rfl ?_
    refine WpL.step (Stp.rd (Rdo.pick_t rfl rfl) rfl ?_)
    refine WpL.step (Stp.rd (Rdo.move rfl) rfl ?_)
    refine WpL.pass rfl rfl rfl rfl ?_
    refine WpL.pass rfl rfl rfl rfl ?_
    refine WpL.pass rfl rfl rfl rfl ?_
    refine WpL.step (Stp.rd (Rdo.pick_t rfl rfl) rfl ?_)
    refine WpL.nil ?_
    refine Thn.n ?_
    refine Wp.condT rfl ?_
    refine Wp.seq ?_
    refine Wp.region ?_
    refine WpL.step (Stp.rd (Rdo.assign rfl) rfl ?_)
    refine WpL.nil ?_
    refine Thn.n ?_
    refine Wp.ret ?_
    refine Thn.r ?_
    refine Ret.now (ResV.tmp rfl ResV.nil) (Gh.tk (by repeat (first | exact Tk.nil | apply Tk.cons (by repeat (first | exact Pk.here | apply Pk.next))))) rfl
  obtain ⟨n, rfl⟩ := Int.eq_ofNat_of_zero_le (Int.not_lt.1 h0)
  by_cases h6 : (60 : Int) < n
  · refine Trip.of_body Try.func7 rfl Try.ntmps7 Try.results7 rfl ?_
    refine Wp.seq ?_
    refine Wp.region ?_
    refine WpL.step (Stp.rd (Rdo.assign rfl) rfl ?_)
    refine WpL.nil ?_
    refine Thn.n ?_
    refine Wp.seq ?_
    refine Wp.seq ?_
    refine Wp.region ?_
    refine WpL.step (Stp.rd (Rdo.move rfl) rfl ?_)
    refine WpL.step (Stp.rd (Rdo.lti rfl rfl) rfl ?_)
    refine WpL.step (Stp.rd (Rdo.move rfl) rfl ?_)
    refine WpL.want rfl rfl rfl (Stp.rd (Rdo.move rfl) rfl ?_)
    refine WpL.want rfl rfl rfl (Stp.rd (Rdo.gti rfl rfl) rfl ?_)
    refine WpL.step (Stp.rd (Rdo.pick_f rfl rfl) rfl ?_)
    refine WpL.step (Stp.rd (Rdo.move rfl) rfl ?_)
    refine WpL.gT rfl rfl (by first | rfl | assumption | (simp only [decide_eq_true_eq, decide_eq_false_iff_not, Bool.not_eq_true', Bool.not_eq_false', List.length_cons, List.length_nil]; first | assumption | omega) | (simp <;> done) | (simp <;> omega)) ?_
    refine WpL.pass rfl rfl rfl rfl ?_
    refine WpL.pass rfl rfl rfl rfl ?_
    refine WpL.pass rfl rfl rfl rfl ?_
    refine WpL.step (Stp.rd (Rdo.pick_t rfl rfl) rfl ?_)
    refine WpL.nil ?_
    refine Thn.n ?_
    refine Wp.condT rfl ?_
    refine Wp.seq ?_
    refine Wp.region ?_
    refine WpL.step (Stp.rd (Rdo.assign rfl) rfl ?_)
    refine WpL.nil ?_
    refine Thn.n ?_
    refine Wp.ret ?_
    refine Thn.r ?_
    refine Ret.now (ResV.tmp rfl ResV.nil) (Gh.tk (by repeat (first | exact Tk.nil | apply Tk.cons (by repeat (first | exact Pk.here | apply Pk.next))))) rfl
  by_cases h8 : (80 : Int) < ps.length
  · refine Trip.of_body Try.func7 rfl Try.ntmps7 Try.results7 rfl ?_
    refine Wp.seq ?_
    refine Wp.region ?_
    refine WpL.step (Stp.rd (Rdo.assign rfl) rfl ?_)
    refine WpL.nil ?_
    refine Thn.n ?_
    refine Wp.seq ?_
    refine Wp.seq ?_
    refine Wp.region ?_
    refine WpL.step (Stp.rd (Rdo.move rfl) rfl ?_)
    refine WpL.step (Stp.rd (Rdo.lti rfl rfl) rfl ?_)
    refine WpL.step (Stp.rd (Rdo.move rfl) rfl ?_)
    refine WpL.want rfl rfl rfl (Stp.rd (Rdo.move rfl) rfl ?_)
    refine WpL.want rfl rfl rfl (Stp.rd (Rdo.gti rfl rfl) rfl ?_)
    refine WpL.step (Stp.rd (Rdo.pick_f rfl rfl) rfl ?_)
    refine WpL.step (Stp.rd (Rdo.move rfl) rfl ?_)
    refine WpL.gF rfl rfl (by first | rfl | assumption | (simp only [decide_eq_true_eq, decide_eq_false_iff_not, Bool.not_eq_true', Bool.not_eq_false', List.length_cons, List.length_nil]; first | assumption | omega) | (simp <;> done) | (simp <;> omega)) ?_
    refine WpL.want rfl rfl rfl (Stp.rd (Rdo.move rfl) rfl ?_)
    refine WpL.want rfl rfl rfl (Stp.rd (Rdo.lenSlice rfl) rfl ?_)
    refine WpL.want rfl rfl rfl (Stp.rd (Rdo.gti rfl rfl) rfl ?_)
    refine WpL.step (Stp.rd (Rdo.pick_f rfl rfl) rfl ?_)
    refine WpL.nil ?_
    refine Thn.n ?_
    refine Wp.condK rfl (by first | rfl | assumption | (simp only [decide_eq_true_eq, decide_eq_false_iff_not, Bool.not_eq_true', Bool.not_eq_false', List.length_cons, List.length_nil]; first | assumption | omega) | (simp <;> done) | (simp <;> omega)) ?_
    refine Wp.seq ?_
    refine Wp.region ?_
    refine WpL.step (Stp.rd (Rdo.assign rfl) rfl ?_)
    refine WpL.nil ?_
    refine Thn.n ?_
    refine Wp.ret ?_
    refine Thn.r ?_
    refine Ret.now (ResV.tmp rfl ResV.nil) (Gh.tk (by repeat (first | exact Tk.nil | apply Tk.cons (by repeat (first | exact Pk.here | apply Pk.next))))) rfl
  refine Trip.of_body Try.func7 rfl Try.ntmps7 Try.results7 rfl ?_
  refine Wp.seq ?_
  refine Wp.region ?_
  refine WpL.step (Stp.rd (Rdo.assign rfl) rfl ?_)
  refine WpL.nil ?_
  refine Thn.n ?_
  refine Wp.seq ?_
  refine Wp.seq ?_
  refine Wp.region ?_
  refine WpL.step (Stp.rd (Rdo.move rfl) rfl ?_)
  refine WpL.step (Stp.rd (Rdo.lti rfl rfl) rfl ?_)
  refine WpL.step (Stp.rd (Rdo.move rfl) rfl ?_)
  refine WpL.want rfl rfl rfl (Stp.rd (Rdo.move rfl) rfl ?_)
  refine WpL.want rfl rfl rfl (Stp.rd (Rdo.gti rfl rfl) rfl ?_)
  refine WpL.step (Stp.rd (Rdo.pick_f rfl rfl) rfl ?_)
  refine WpL.step (Stp.rd (Rdo.move rfl) rfl ?_)
  refine WpL.gF rfl rfl (by first | rfl | assumption | (simp only [decide_eq_true_eq, decide_eq_false_iff_not, Bool.not_eq_true', Bool.not_eq_false', List.length_cons, List.length_nil]; first | assumption | omega) | (simp <;> done) | (simp <;> omega)) ?_
  refine WpL.want rfl rfl rfl (Stp.rd (Rdo.move rfl) rfl ?_)
  refine WpL.want rfl rfl rfl (Stp.rd (Rdo.lenSlice rfl) rfl ?_)
  refine WpL.want rfl rfl rfl (Stp.rd (Rdo.gti rfl rfl) rfl ?_)
  refine WpL.step (Stp.rd (Rdo.pick_f rfl rfl) rfl ?_)
  refine WpL.nil ?_
  refine Thn.n ?_
  refine Wp.condL rfl (by first | rfl | assumption | (simp only [decide_eq_true_eq, decide_eq_false_iff_not, Bool.not_eq_true', Bool.not_eq_false', List.length_cons, List.length_nil]; first | assumption | omega) | (simp <;> done) | (simp <;> omega)) ?_
  refine Wp.skip ?_
  refine Thn.n ?_
  refine Wp.seq ?_
  refine Wp.region ?_
  refine WpL.step (Stp.call (netNew_ok) (by kernel_rfl) rfl (by repeat (first | exact Tk.nil | apply Tk.cons (by repeat (first | exact Pk.here | apply Pk.next)))) rfl ?_)
  rintro _ _ ⟨v28_0, ⟨rfl, rfl⟩⟩
  refine WpL.lst (by simp only [List.cons_append, List.nil_append]; exact rfl) ?_
  refine WpL.step (Stp.rd (Rdo.assign rfl) rfl ?_)
  refine WpL.nil ?_
  refine Thn.n ?_
  refine Wp.seq ?_
  refine Wp.seq ?_
  refine Wp.region ?_
  refine WpL.step (Stp.rd (Rdo.move rfl) rfl ?_)
  refine WpL.step (Stp.rd (Rdo.eqnil rfl rfl) rfl ?_)
  refine WpL.nil ?_
  refine Thn.n ?_
  refine Wp.condF rfl ?_
  refine Wp.skip ?_
  refine Thn.n ?_
  refine Wp.seq ?_
  refine Wp.region ?_
  refine WpL.step (Stp.rd (Rdo.assign rfl) rfl ?_)
  refine WpL.nil ?_
  refine Thn.n ?_
  refine Wp.seq ?_
  refine Wp.seq ?_
  refine Wp.region ?_
  refine WpL.step (Stp.rd (Rdo.assign rfl) rfl ?_)
  refine WpL.nil ?_
  refine Thn.n ?_
  refine Wp.block ?_
  refine Wp.gh (Gh.nil 3 1) ?_
  refine Wp.loopE (fun k e h => ∃ (j : Nat) (a : Option Addr) (c : Nat), j + k = n ∧ e = ordE1 n (.slice a1 ps.length c1) v28_0 a c j ∧ h = ordL v28_0 (upto j) a c (.slice a1 ps.length c1) ps) n
    (e0 := ordE1 n (.slice a1 ps.length c1) v28_0 none 0 0) (l0 := ordL v28_0 [] none 0 (.slice a1 ps.length c1) ps) (by repeat (first | exact trivial | refine ⟨rfl, ?_⟩)) (by repeat (first | exact trivial | refine ⟨rfl, ?_⟩)) (Gh.tk (by repeat (first | exact Tk.nil | apply Tk.cons (by repeat (first | exact Pk.here | apply Pk.next))))) ⟨0, none, 0, by omega, rfl, rfl⟩ ?_
  rintro k e h ⟨j, a, c, hj, rfl, rfl⟩
  by_cases hjn : j < n
  · have hjn' : (j : Int) < n := by omega
    have s1 := fun nb => netPut1_ok v28_0 (mS (upto j)) 0 nb j 0 (by simp; omega) (by omega)
    rw [show ordL v28_0 (upto j) a c (.slice a1 ps.length c1) ps = [bagA v28_0 (mS (upto j)) 0, rowA 3 1 (.slice a j c) j (iC (upto j)), fz (fun g => RdInts g (.slice a1 ps.length c1) ps)] by simp [ordL]]
    refine Wp.seq ?_
    refine Wp.seq ?_
    refine Wp.region ?_
    refine WpL.step (Stp.rd (Rdo.move rfl) rfl ?_)
    refine WpL.step (Stp.rd (Rdo.move rfl) rfl ?_)
    refine WpL.step (Stp.rd (Rdo.lti rfl rfl) rfl ?_)
    refine WpL.nil ?_
    refine Thn.n ?_
    refine Wp.condK rfl (by first | rfl | assumption | (simp only [decide_eq_true_eq, decide_eq_false_iff_not, Bool.not_eq_true', Bool.not_eq_false', List.length_cons, List.length_nil]; first | assumption | omega) | (simp <;> done) | (simp <;> omega)) ?_
    refine Wp.skip ?_
    refine Thn.n ?_
    refine Wp.seq ?_
    refine Wp.block ?_
    refine Wp.seq ?_
    refine Wp.region ?_
    refine WpL.step (Stp.rd (Rdo.move rfl) rfl ?_)
    refine WpL.step (Stp.rd (Rdo.move rfl) rfl ?_)
    refine WpL.step (Stp.rd (Rdo.bld rfl (BldL.cons rfl (VC.i _ _) (by first | rfl | assumption | (simp <;> done)) (by repeat (first | exact LPut.nil _ | apply LPut.here | apply LPut.next)) (BldL.nil _))) rfl ?_)
    (refine WpL.step (Stp.sliceV rfl rfl (VCs.cons (VC.ag _) (by first | rfl | assumption | (simp <;> done)) VCs.nil) (by simp only [List.cons_append, List.nil_append, List.append_nil]; exact rfl) rfl rfl ?_); intro nb18)
    refine WpL.step (Stp.call (s1 _) (by kernel_rfl) rfl (by repeat (first | exact Tk.nil | apply Tk.cons (by repeat (first | exact Pk.here | apply Pk.next)))) rfl ?_)
    rintro _ _ ⟨rfl, rfl⟩
    refine WpL.lst (by simp only [List.cons_append, List.nil_append]; exact rfl) ?_
    refine WpL.nil ?_
    refine Thn.n ?_
    refine Wp.region ?_
    refine WpL.step (Stp.rd (Rdo.move rfl) rfl ?_)
    refine WpL.step (Stp.rd (Rdo.move rfl) rfl ?_)
    (refine WpL.step (Stp.sliceV rfl rfl (VCs.cons (VC.i _ _) (by first | rfl | assumption | (simp <;> done)) VCs.nil) (by simp only [List.cons_append, List.nil_append, List.append_nil]; exact rfl) rfl rfl ?_); intro nb27)
    (refine WpL.step (Stp.appendP rfl rfl (Pk.next (Pk.next Pk.here)) (Src.cel (by first | rfl | (simp <;> done) | (simp <;> omega))) (by first | rfl | (simp <;> done) | (simp <;> omega)) (by first | assumption | exact oneCells1 rfl | exact oneCells1 (by assumption) | exact oneCells_bytesC _ | (simp [oneCells, Value.oneCell'] <;> done)) (by first | omega | (simp <;> omega)) (by first | omega | (simp <;> omega)) rfl (by first | rfl | (simp <;> done)) ?_); intro na28 nc28)
    refine WpL.step (Stp.rd (Rdo.assign rfl) rfl ?_)
    refine WpL.nil ?_
    refine Blk.n ?_
    refine Thn.n ?_
    refine Wp.region ?_
    refine WpL.step (Stp.rd (Rdo.move rfl) rfl ?_)
    refine WpL.step (Stp.rd (Rdo.succ rfl rfl (by omega)) rfl ?_)
    refine WpL.step (Stp.rd (Rdo.assign rfl) rfl ?_)
    refine WpL.nil ?_
    refine Thn.n ?_
    refine ⟨k - 1, _, _, by omega, ⟨j + 1, na28, nc28, by omega, rfl, rfl⟩, (by repeat (first | exact trivial | refine ⟨rfl, ?_⟩)), ?_⟩
    simp only [ordL, upto_len]
    rw [upto_succ, iC_append, show mS (upto j ++ [(j : Int)]) = mS (upto j) ++ [msgSV j 0] by simp [mS]]
    exact Gh.tk (by repeat (first | exact Tk.nil | apply Tk.cons (by repeat (first | exact Pk.here | apply Pk.next))))
  have hjn' : j = n := by omega
  subst hjn'
  refine Wp.seq ?_
  refine Wp.seq ?_
  refine Wp.region ?_
  refine WpL.step (Stp.rd (Rdo.move rfl) rfl ?_)
  refine WpL.step (Stp.rd (Rdo.move rfl) rfl ?_)
  refine WpL.step (Stp.rd (Rdo.lti rfl rfl) rfl ?_)
  refine WpL.nil ?_
  refine Thn.n ?_
  refine Wp.condL rfl (by first | rfl | assumption | (simp only [decide_eq_true_eq, decide_eq_false_iff_not, Bool.not_eq_true', Bool.not_eq_false', List.length_cons, List.length_nil]; first | assumption | omega) | (simp <;> done) | (simp <;> omega)) ?_
  refine Wp.exit ?_
  refine Thn.x ?_
  refine Thn.x ?_
  refine Blk.here ?_
  refine Thn.n ?_
  refine Wp.seq ?_
  refine Wp.seq ?_
  refine Wp.region ?_
  refine WpL.step (Stp.rd (Rdo.assign rfl) rfl ?_)
  refine WpL.nil ?_
  refine Thn.n ?_
  refine Wp.block ?_
  refine Wp.loopE (fun k e h => ∃ (i : Nat) (ws : List Int) (a : Option Addr) (c : Nat), i + k = ps.length ∧ ws.length ≤ 60 ∧ e = ordE2 (.slice a1 ps.length c1) v28_0 a ws.length c i ∧ h = ordL v28_0 ws a c (.slice a1 ps.length c1) ps) ps.length
    (e0 := ordE2 (.slice a1 ps.length c1) v28_0 a j c 0) (l0 := ordL v28_0 (upto j) a c (.slice a1 ps.length c1) ps) (by repeat (first | exact trivial | refine ⟨rfl, ?_⟩)) (by repeat (first | exact trivial | refine ⟨rfl, ?_⟩)) (Gh.tk (by repeat (first | exact Tk.nil | apply Tk.cons (by repeat (first | exact Pk.here | apply Pk.next))))) ⟨0, upto j, a, c, by omega, by simp; omega, by simp, rfl⟩ ?_
  clear hj
  clear k a c
  rintro k e h ⟨i, ws, a, c, hik, hws, rfl, rfl⟩
  by_cases hi : i < ps.length
  · have hi' : (i : Int) < ps.length := by omega
    obtain ⟨x, hx⟩ : ∃ x, ps[i]? = some x := ⟨ps[i], List.getElem?_eq_getElem hi⟩
    refine Wp.get (Pk.next (Pk.next Pk.here)) (row_some (by omega)) ?_
    rintro ⟨pb, po, rfl⟩
    by_cases hneg : x < 0
    · have s1 := netPull_out v28_0 (mS ws) 0 x (.inl hneg)
      refine Wp.seq ?_
      refine Wp.seq ?_
      refine Wp.region ?_
      refine WpL.step (Stp.rd (Rdo.move rfl) rfl ?_)
      refine WpL.step (Stp.rd (Rdo.move rfl) rfl ?_)
      refine WpL.step (Stp.rd (Rdo.lenSlice rfl) rfl ?_)
      refine WpL.step (Stp.rd (Rdo.lti rfl rfl) rfl ?_)
      refine WpL.nil ?_
      refine Thn.n ?_
      refine Wp.condK rfl (by first | rfl | assumption | (simp only [decide_eq_true_eq, decide_eq_false_iff_not, Bool.not_eq_true', Bool.not_eq_false', List.length_cons, List.length_nil]; first | assumption | omega) | (simp <;> done) | (simp <;> omega)) ?_
      refine Wp.skip ?_
      refine Thn.n ?_
      refine Wp.seq ?_
      refine Wp.block ?_
      refine Wp.seq ?_
      refine Wp.region ?_
      refine WpL.step (Stp.rd (Rdo.move rfl) rfl ?_)
      refine WpL.step (Stp.rd (Rdo.move rfl) rfl ?_)
      refine WpL.step (Stp.rd (Rdo.move rfl) rfl ?_)
      refine WpL.step (Stp.rd (Rdo.indexSlice rfl rfl (by omega)) rfl ?_)
      refine WpL.step (Stp.rd (Rdo.load rfl (Lds.next (Lds.next (Lds.fz1 (by first | assumption | exact bytesC_at (by assumption) | exact intsC_at (by assumption) | exact boolsC_at (by assumption)))))) rfl ?_)
      refine WpL.step (Stp.call (s1) (by kernel_rfl) rfl (by repeat (first | exact Tk.nil | apply Tk.cons (by repeat (first | exact Pk.here | apply Pk.next)))) rfl ?_)
      rintro _ _ ⟨rfl, rfl⟩
      refine WpL.lst (by simp only [List.cons_append, List.nil_append]; exact rfl) ?_
      refine WpL.step (Stp.rd (Rdo.move rfl) rfl ?_)
      refine WpL.step (Stp.rd (Rdo.extract rfl rfl) rfl ?_)
      refine WpL.step (Stp.rd (Rdo.extract rfl rfl) rfl ?_)
      (refine WpL.step (Stp.alloc rfl ?_); intro nb27)
      refine WpL.step (Stp.storeV rfl rfl (VC.ag _) (by first | rfl | assumption | (simp <;> done)) (by repeat (first | (apply Sts.all; (focus (first | rfl | assumption | (simp <;> done))); (focus (first | exact oneCells1 rfl | assumption | exact oneCells1 (by assumption) | ((repeat (first | assumption | exact oneCells_nil | exact oneCells_bytesC _ | (apply oneCells_cons; (focus (first | rfl | assumption))) | apply oneCells_append)); done) | (simp [oneCells, Value.oneCell'] <;> done)))) | (apply Sts.lp (by repeat (first | exact LPut.nil _ | apply LPut.here | apply LPut.next)); (focus (first | exact oneCells1 rfl | assumption | exact oneCells1 (by assumption) | ((repeat (first | assumption | exact oneCells_nil | exact oneCells_bytesC _ | (apply oneCells_cons; (focus (first | rfl | assumption))) | apply oneCells_append)); done) | (simp [oneCells, Value.oneCell'] <;> done)))) | (refine Sts.row1 (by first | assumption | omega | (simp <;> omega)) (by first | rfl | assumption)) | apply Sts.next)) ?_)
      refine WpL.step (Stp.rd (Rdo.assign rfl) rfl ?_)
      refine WpL.nil ?_
      refine Thn.n ?_
      refine Wp.seq ?_
      refine Wp.seq ?_
      refine Wp.region ?_
      refine WpL.step (Stp.rd (Rdo.move rfl) rfl ?_)
      refine WpL.step (Stp.rd (Rdo.move rfl) rfl ?_)
      refine WpL.step (Stp.rd (Rdo.move rfl) rfl ?_)
      refine WpL.step (Stp.rd (Rdo.indexSlice rfl rfl (by omega)) rfl ?_)
      refine WpL.step (Stp.rd (Rdo.load rfl (Lds.next (Lds.next (Lds.next (Lds.fz1 (by first | assumption | exact bytesC_at (by assumption) | exact intsC_at (by assumption) | exact boolsC_at (by assumption))))))) rfl ?_)
      refine WpL.step (Stp.rd (Rdo.gei rfl rfl) rfl ?_)
      refine WpL.step (Stp.rd (Rdo.move rfl) rfl ?_)
      refine WpL.gF rfl rfl (by first | rfl | assumption | (simp only [decide_eq_true_eq, decide_eq_false_iff_not, Bool.not_eq_true', Bool.not_eq_false', List.length_cons, List.length_nil]; first | assumption | omega) | (simp <;> done) | (simp <;> omega)) ?_
      refine WpL.pass rfl rfl rfl rfl ?_
      refine WpL.pass rfl rfl rfl rfl ?_
      refine WpL.pass rfl rfl rfl rfl ?_
      refine WpL.pass rfl rfl rfl rfl ?_
      refine WpL.pass rfl rfl rfl rfl ?_
      refine WpL.pass rfl rfl rfl rfl ?_
      refine WpL.pass rfl rfl rfl rfl ?_
      refine WpL.step (Stp.rd (Rdo.pick_f rfl rfl) rfl ?_)
      refine WpL.step (Stp.rd (Rdo.neb rfl rfl) rfl ?_)
      refine WpL.nil ?_
      refine Thn.n ?_
      refine Wp.condF rfl ?_
      refine Wp.skip ?_
      refine Thn.n ?_
      refine Wp.seq ?_
      refine Wp.seq ?_
      refine Wp.region ?_
      refine WpL.step (Stp.rd (Rdo.move rfl) rfl ?_)
      refine WpL.step (Stp.rd (Rdo.not rfl) rfl ?_)
      refine WpL.nil ?_
      refine Thn.n ?_
      refine Wp.condT rfl ?_
      refine Wp.exit ?_
      refine Thn.x ?_
      refine Blk.here ?_
      refine Thn.n ?_
      refine Wp.region ?_
      refine WpL.step (Stp.rd (Rdo.move rfl) rfl ?_)
      refine WpL.step (Stp.rd (Rdo.succ rfl rfl (by omega)) rfl ?_)
      refine WpL.step (Stp.rd (Rdo.assign rfl) rfl ?_)
      refine WpL.nil ?_
      refine Thn.n ?_
      exact ⟨k - 1, _, _, by omega, ⟨i + 1, ws, a, c, by omega, hws, rfl, rfl⟩, (by repeat (first | exact trivial | refine ⟨rfl, ?_⟩)), Gh.tk (by repeat (first | exact Tk.nil | apply Tk.cons (by repeat (first | exact Pk.here | apply Pk.next))))⟩
    by_cases hbig : (ws.length : Int) ≤ x
    · have s1 := netPull_out v28_0 (mS ws) 0 x (.inr (by simpa using hbig))
      refine Wp.seq ?_
      refine Wp.seq ?_
      refine Wp.region ?_
      refine WpL.step (Stp.rd (Rdo.move rfl) rfl ?_)
      refine WpL.step (Stp.rd (Rdo.move rfl) rfl ?_)
      refine WpL.step (Stp.rd (Rdo.lenSlice rfl) rfl ?_)
      refine WpL.step (Stp.rd (Rdo.lti rfl rfl) rfl ?_)
      refine WpL.nil ?_
      refine Thn.n ?_
      refine Wp.condK rfl (by first | rfl | assumption | (simp only [decide_eq_true_eq, decide_eq_false_iff_not, Bool.not_eq_true', Bool.not_eq_false', List.length_cons, List.length_nil]; first | assumption | omega) | (simp <;> done) | (simp <;> omega)) ?_
      refine Wp.skip ?_
      refine Thn.n ?_
      refine Wp.seq ?_
      refine Wp.block ?_
      refine Wp.seq ?_
      refine Wp.region ?_
      refine WpL.step (Stp.rd (Rdo.move rfl) rfl ?_)
      refine WpL.step (Stp.rd (Rdo.move rfl) rfl ?_)
      refine WpL.step (Stp.rd (Rdo.move rfl) rfl ?_)
      refine WpL.step (Stp.rd (Rdo.indexSlice rfl rfl (by omega)) rfl ?_)
      refine WpL.step (Stp.rd (Rdo.load rfl (Lds.next (Lds.next (Lds.fz1 (by first | assumption | exact bytesC_at (by assumption) | exact intsC_at (by assumption) | exact boolsC_at (by assumption)))))) rfl ?_)
      refine WpL.step (Stp.call (s1) (by kernel_rfl) rfl (by repeat (first | exact Tk.nil | apply Tk.cons (by repeat (first | exact Pk.here | apply Pk.next)))) rfl ?_)
      rintro _ _ ⟨rfl, rfl⟩
      refine WpL.lst (by simp only [List.cons_append, List.nil_append]; exact rfl) ?_
      refine WpL.step (Stp.rd (Rdo.move rfl) rfl ?_)
      refine WpL.step (Stp.rd (Rdo.extract rfl rfl) rfl ?_)
      refine WpL.step (Stp.rd (Rdo.extract rfl rfl) rfl ?_)
      (refine WpL.step (Stp.alloc rfl ?_); intro nb27)
      refine WpL.step (Stp.storeV rfl rfl (VC.ag _) (by first | rfl | assumption | (simp <;> done)) (by repeat (first | (apply Sts.all; (focus (first | rfl | assumption | (simp <;> done))); (focus (first | exact oneCells1 rfl | assumption | exact oneCells1 (by assumption) | ((repeat (first | assumption | exact oneCells_nil | exact oneCells_bytesC _ | (apply oneCells_cons; (focus (first | rfl | assumption))) | apply oneCells_append)); done) | (simp [oneCells, Value.oneCell'] <;> done)))) | (apply Sts.lp (by repeat (first | exact LPut.nil _ | apply LPut.here | apply LPut.next)); (focus (first | exact oneCells1 rfl | assumption | exact oneCells1 (by assumption) | ((repeat (first | assumption | exact oneCells_nil | exact oneCells_bytesC _ | (apply oneCells_cons; (focus (first | rfl | assumption))) | apply oneCells_append)); done) | (simp [oneCells, Value.oneCell'] <;> done)))) | (refine Sts.row1 (by first | assumption | omega | (simp <;> omega)) (by first | rfl | assumption)) | apply Sts.next)) ?_)
      refine WpL.step (Stp.rd (Rdo.assign rfl) rfl ?_)
      refine WpL.nil ?_
      refine Thn.n ?_
      refine Wp.seq ?_
      refine Wp.seq ?_
      refine Wp.region ?_
      refine WpL.step (Stp.rd (Rdo.move rfl) rfl ?_)
      refine WpL.step (Stp.rd (Rdo.move rfl) rfl ?_)
      refine WpL.step (Stp.rd (Rdo.move rfl) rfl ?_)
      refine WpL.step (Stp.rd (Rdo.indexSlice rfl rfl (by omega)) rfl ?_)
      refine WpL.step (Stp.rd (Rdo.load rfl (Lds.next (Lds.next (Lds.next (Lds.fz1 (by first | assumption | exact bytesC_at (by assumption) | exact intsC_at (by assumption) | exact boolsC_at (by assumption))))))) rfl ?_)
      refine WpL.step (Stp.rd (Rdo.gei rfl rfl) rfl ?_)
      refine WpL.step (Stp.rd (Rdo.move rfl) rfl ?_)
      refine WpL.gT rfl rfl (by first | rfl | assumption | (simp only [decide_eq_true_eq, decide_eq_false_iff_not, Bool.not_eq_true', Bool.not_eq_false', List.length_cons, List.length_nil]; first | assumption | omega) | (simp <;> done) | (simp <;> omega)) ?_
      refine WpL.want rfl rfl rfl (Stp.rd (Rdo.move rfl) rfl ?_)
      refine WpL.want rfl rfl rfl (Stp.rd (Rdo.move rfl) rfl ?_)
      refine WpL.want rfl rfl rfl (Stp.rd (Rdo.indexSlice rfl rfl (by omega)) rfl ?_)
      refine WpL.want rfl rfl rfl (Stp.rd (Rdo.load rfl (Lds.next (Lds.next (Lds.next (Lds.fz1 (by first | assumption | exact bytesC_at (by assumption) | exact intsC_at (by assumption) | exact boolsC_at (by assumption))))))) rfl ?_)
      refine WpL.want rfl rfl rfl (Stp.rd (Rdo.move rfl) rfl ?_)
      refine WpL.want rfl rfl rfl (Stp.rd (Rdo.lenSlice rfl) rfl ?_)
      refine WpL.want rfl rfl rfl (Stp.rd (Rdo.lti rfl rfl) rfl ?_)
      refine WpL.step (Stp.rd (Rdo.pick_t rfl rfl) rfl ?_)
      refine WpL.step (Stp.rd (Rdo.neb rfl rfl) rfl ?_)
      refine WpL.nil ?_
      refine Thn.n ?_
      refine Wp.condL rfl (by first | rfl | assumption | (simp only [decide_eq_true_eq, decide_eq_false_iff_not, Bool.not_eq_true', Bool.not_eq_false', List.length_cons, List.length_nil]; first | assumption | omega) | (simp <;> done) | (simp <;> omega)) ?_
      refine Wp.skip ?_
      refine Thn.n ?_
      refine Wp.seq ?_
      refine Wp.seq ?_
      refine Wp.region ?_
      refine WpL.step (Stp.rd (Rdo.move rfl) rfl ?_)
      refine WpL.step (Stp.rd (Rdo.not rfl) rfl ?_)
      refine WpL.nil ?_
      refine Thn.n ?_
      refine Wp.condT rfl ?_
      refine Wp.exit ?_
      refine Thn.x ?_
      refine Blk.here ?_
      refine Thn.n ?_
      refine Wp.region ?_
      refine WpL.step (Stp.rd (Rdo.move rfl) rfl ?_)
      refine WpL.step (Stp.rd (Rdo.succ rfl rfl (by omega)) rfl ?_)
      refine WpL.step (Stp.rd (Rdo.assign rfl) rfl ?_)
      refine WpL.nil ?_
      refine Thn.n ?_
      exact ⟨k - 1, _, _, by omega, ⟨i + 1, ws, a, c, by omega, hws, rfl, rfl⟩, (by repeat (first | exact trivial | refine ⟨rfl, ?_⟩)), Gh.tk (by repeat (first | exact Tk.nil | apply Tk.cons (by repeat (first | exact Pk.here | apply Pk.next))))⟩
    obtain ⟨q, rfl⟩ := Int.eq_ofNat_of_zero_le (show 0 ≤ x by omega)
    have hqw : q < ws.length := by omega
    obtain ⟨y, hy⟩ : ∃ y, ws[q]? = some y := ⟨ws[q], List.getElem?_eq_getElem hqw⟩
    have hiy := iC_at hy
    have s1 := netPull_in v28_0 (mS ws) 0 q _ (mS_at hy) (by simp; omega)
    refine Wp.get (Pk.next Pk.here) (fun r => rowA_at q hqw) ?_
    rintro ⟨b0, o0, cap0, hav⟩
    simp only [Value.slice.injEq, true_and] at hav
    obtain ⟨rfl, rfl⟩ := hav
    refine Wp.seq ?_
    refine Wp.seq ?_
    refine Wp.region ?_
    refine WpL.step (Stp.rd (Rdo.move rfl) rfl ?_)
    refine WpL.step (Stp.rd (Rdo.move rfl) rfl ?_)
    refine WpL.step (Stp.rd (Rdo.lenSlice rfl) rfl ?_)
    refine WpL.step (Stp.rd (Rdo.lti rfl rfl) rfl ?_)
    refine WpL.nil ?_
    refine Thn.n ?_
    refine Wp.condK rfl (by first | rfl | assumption | (simp only [decide_eq_true_eq, decide_eq_false_iff_not, Bool.not_eq_true', Bool.not_eq_false', List.length_cons, List.length_nil]; first | assumption | omega) | (simp <;> done) | (simp <;> omega)) ?_
    refine Wp.skip ?_
    refine Thn.n ?_
    refine Wp.seq ?_
    refine Wp.block ?_
    refine Wp.seq ?_
    refine Wp.region ?_
    refine WpL.step (Stp.rd (Rdo.move rfl) rfl ?_)
    refine WpL.step (Stp.rd (Rdo.move rfl) rfl ?_)
    refine WpL.step (Stp.rd (Rdo.move rfl) rfl ?_)
    refine WpL.step (Stp.rd (Rdo.indexSlice rfl rfl (by omega)) rfl ?_)
    refine WpL.step (Stp.rd (Rdo.load rfl (Lds.next (Lds.next (Lds.fz1 (by first | assumption | exact bytesC_at (by assumption) | exact intsC_at (by assumption) | exact boolsC_at (by assumption)))))) rfl ?_)
    refine WpL.step (Stp.call (s1) (by kernel_rfl) rfl (by repeat (first | exact Tk.nil | apply Tk.cons (by repeat (first | exact Pk.here | apply Pk.next)))) rfl ?_)
    rintro _ _ ⟨v22_0, ⟨rfl, rfl⟩⟩
    refine WpL.lst (by simp only [List.cons_append, List.nil_append]; exact rfl) ?_
    refine WpL.step (Stp.rd (Rdo.move rfl) rfl ?_)
    refine WpL.step (Stp.rd (Rdo.extract rfl rfl) rfl ?_)
    refine WpL.step (Stp.rd (Rdo.extract rfl rfl) rfl ?_)
    (refine WpL.step (Stp.alloc rfl ?_); intro nb27)
    refine WpL.step (Stp.storeV rfl rfl (VC.ag _) (by first | rfl | assumption | (simp <;> done)) (by repeat (first | (apply Sts.all; (focus (first | rfl | assumption | (simp <;> done))); (focus (first | exact oneCells1 rfl | assumption | exact oneCells1 (by assumption) | ((repeat (first | assumption | exact oneCells_nil | exact oneCells_bytesC _ | (apply oneCells_cons; (focus (first | rfl | assumption))) | apply oneCells_append)); done) | (simp [oneCells, Value.oneCell'] <;> done)))) | (apply Sts.lp (by repeat (first | exact LPut.nil _ | apply LPut.here | apply LPut.next)); (focus (first | exact oneCells1 rfl | assumption | exact oneCells1 (by assumption) | ((repeat (first | assumption | exact oneCells_nil | exact oneCells_bytesC _ | (apply oneCells_cons; (focus (first | rfl | assumption))) | apply oneCells_append)); done) | (simp [oneCells, Value.oneCell'] <;> done)))) | (refine Sts.row1 (by first | assumption | omega | (simp <;> omega)) (by first | rfl | assumption)) | apply Sts.next)) ?_)
    refine WpL.step (Stp.rd (Rdo.assign rfl) rfl ?_)
    refine WpL.nil ?_
    refine Thn.n ?_
    refine Wp.seq ?_
    refine Wp.seq ?_
    refine Wp.region ?_
    refine WpL.step (Stp.rd (Rdo.move rfl) rfl ?_)
    refine WpL.step (Stp.rd (Rdo.move rfl) rfl ?_)
    refine WpL.step (Stp.rd (Rdo.move rfl) rfl ?_)
    refine WpL.step (Stp.rd (Rdo.indexSlice rfl rfl (by omega)) rfl ?_)
    refine WpL.step (Stp.rd (Rdo.load rfl (Lds.next (Lds.next (Lds.next (Lds.next (Lds.fz1 (by first | assumption | exact bytesC_at (by assumption) | exact intsC_at (by assumption) | exact boolsC_at (by assumption)))))))) rfl ?_)
    refine WpL.step (Stp.rd (Rdo.gei rfl rfl) rfl ?_)
    refine WpL.step (Stp.rd (Rdo.move rfl) rfl ?_)
    refine WpL.want rfl rfl rfl (Stp.rd (Rdo.move rfl) rfl ?_)
    refine WpL.want rfl rfl rfl (Stp.rd (Rdo.move rfl) rfl ?_)
    refine WpL.want rfl rfl rfl (Stp.rd (Rdo.indexSlice rfl rfl (by omega)) rfl ?_)
    refine WpL.want rfl rfl rfl (Stp.rd (Rdo.load rfl (Lds.next (Lds.next (Lds.next (Lds.next (Lds.fz1 (by first | assumption | exact bytesC_at (by assumption) | exact intsC_at (by assumption) | exact boolsC_at (by assumption)))))))) rfl ?_)
    refine WpL.want rfl rfl rfl (Stp.rd (Rdo.move rfl) rfl ?_)
    refine WpL.want rfl rfl rfl (Stp.rd (Rdo.lenSlice rfl) rfl ?_)
    refine WpL.want rfl rfl rfl (Stp.rd (Rdo.lti rfl rfl) rfl ?_)
    refine WpL.step (Stp.rd (Rdo.pick_t rfl rfl) rfl ?_)
    refine WpL.step (Stp.rd (Rdo.neb rfl rfl) rfl ?_)
    refine WpL.nil ?_
    refine Thn.n ?_
    refine Wp.condL rfl (by first | rfl | assumption | (simp only [decide_eq_true_eq, decide_eq_false_iff_not, Bool.not_eq_true', Bool.not_eq_false', List.length_cons, List.length_nil]; first | assumption | omega) | (simp <;> done) | (simp <;> omega)) ?_
    refine Wp.skip ?_
    refine Thn.n ?_
    refine Wp.seq ?_
    refine Wp.seq ?_
    refine Wp.region ?_
    refine WpL.step (Stp.rd (Rdo.move rfl) rfl ?_)
    refine WpL.step (Stp.rd (Rdo.not rfl) rfl ?_)
    refine WpL.nil ?_
    refine Thn.n ?_
    refine Wp.condF rfl ?_
    refine Wp.skip ?_
    refine Thn.n ?_
    refine Wp.seq ?_
    refine Wp.seq ?_
    refine Wp.draw (by kernel_rfl) ?_
    refine WpR.take (i := 0) rfl (by kernel_rfl) (by kernel_rfl) (by kernel_rfl) (Rdo.fieldAddr0 rfl) rfl ?_
    refine WpR.take (i := 2) rfl (by kernel_rfl) (by kernel_rfl) (by kernel_rfl) (Rdo.move rfl) rfl ?_
    refine WpR.take (i := 3) rfl (by kernel_rfl) (by kernel_rfl) (by kernel_rfl) (Rdo.move rfl) rfl ?_
    refine WpR.take (i := 4) rfl (by kernel_rfl) (by kernel_rfl) (by kernel_rfl) (Rdo.move rfl) rfl ?_
    refine WpR.take (i := 5) rfl (by kernel_rfl) (by kernel_rfl) (by kernel_rfl) (Rdo.indexSlice rfl rfl (by omega)) rfl ?_
    refine WpR.load (i := 6) [1] rfl (by kernel_rfl) (by kernel_rfl) (by kernel_rfl) (by kernel_rfl) (by kernel_rfl) rfl Tk.rfl_ (Harm.rd rfl (Rdo.load rfl (Lds.one rfl)) Harm.nil) (Rdo.load rfl (Lds.next (Lds.next (Lds.next (Lds.next (Lds.fz1 (by first | assumption | exact bytesC_at (by assumption) | exact intsC_at (by assumption) | exact boolsC_at (by assumption)))))))) rfl ?_
    refine WpR.take (i := 7) rfl (by kernel_rfl) (by kernel_rfl) (by kernel_rfl) (Rdo.indexSlice rfl rfl (by omega)) rfl ?_
    refine WpR.phaseL (m := 1) #[true, true, true, true, true, true, true, true, true, false] 2 _ rfl (by kernel_rfl) Tk.rfl_ ?_
    refine WpA.take (i := 1) rfl rfl (by kernel_rfl) (by kernel_rfl) (by kernel_rfl) (Rdo.load rfl (Lds.one rfl)) rfl ?_
    refine WpA.take (i := 8) rfl rfl (by kernel_rfl) (by kernel_rfl) (by kernel_rfl) (Rdo.load rfl (Lds.next (Lds.next (Lds.next (Lds.row1 (by assumption)))))) rfl ?_
    refine WpA.stop (by kernel_rfl) ?_
    refine WpR.lst (by simp only [List.cons_append, List.nil_append, List.append_nil]; exact rfl) ?_
    refine WpR.take (i := 9) rfl (by kernel_rfl) (by kernel_rfl) (by kernel_rfl) (Rdo.nei rfl rfl) rfl ?_
    refine WpR.done (by kernel_rfl) ?_
    refine Thn.n ?_
    refine Wp.condL rfl (by first | rfl | assumption | (simp only [decide_eq_true_eq, decide_eq_false_iff_not, Bool.not_eq_true', Bool.not_eq_false', List.length_cons, List.length_nil]; first | assumption | omega) | (simp <;> done) | (simp <;> omega)) ?_
    refine Wp.skip ?_
    refine Thn.n ?_
    refine Wp.draw (by kernel_rfl) ?_
    refine WpR.take (i := 1) rfl (by kernel_rfl) (by kernel_rfl) (by kernel_rfl) (Rdo.move rfl) rfl ?_
    refine WpR.take (i := 2) rfl (by kernel_rfl) (by kernel_rfl) (by kernel_rfl) (Rdo.move rfl) rfl ?_
    refine WpR.take (i := 3) rfl (by kernel_rfl) (by kernel_rfl) (by kernel_rfl) (Rdo.move rfl) rfl ?_
    refine WpR.take (i := 4) rfl (by kernel_rfl) (by kernel_rfl) (by kernel_rfl) (Rdo.indexSlice rfl rfl (by omega)) rfl ?_
    refine WpR.take (i := 8) rfl (by kernel_rfl) (by kernel_rfl) (by kernel_rfl) (Rdo.move rfl) rfl ?_
    refine WpR.take (i := 9) rfl (by kernel_rfl) (by kernel_rfl) (by kernel_rfl) (Rdo.move rfl) rfl ?_
    refine WpR.take (i := 10) rfl (by kernel_rfl) (by kernel_rfl) (by kernel_rfl) (Rdo.move rfl) rfl ?_
    refine WpR.take (i := 11) rfl (by kernel_rfl) (by kernel_rfl) (by kernel_rfl) (Rdo.indexSlice rfl rfl (by omega)) rfl ?_
    refine WpR.ghE (GhE.rowOpen (by repeat (first | exact Pk.here | apply Pk.next))) ?_
    rintro ⟨A, B⟩ ⟨hxl, hA, hnc, hcap⟩
    simp only at hA hcap ⊢
    have hsrc1 : ∀ l, Src Try.prog (cel b0 3 (A ++ (iC ws ++ B)) :: l) 1 (.slice (some ⟨b0, o0, none⟩) q c) q (iC (ws.take q)) := fun l => by
      rw [show A ++ (iC ws ++ B) = A ++ (iC (ws.take q) ++ (iC (ws.drop q) ++ B)) by rw [← List.append_assoc (iC (ws.take q)), ← iC_append, List.take_append_drop]]
      exact Src.piece (by simp; omega) hA
    have hsrc2 : ∀ l, Src Try.prog (cel b0 3 (A ++ (iC ws ++ B)) :: l) 1 (.slice (some (slA b0 o0 (q + 1) c 1)) (ws.length - (q + 1)) (c - (q + 1))) (ws.length - (q + 1)) (iC (ws.drop (q + 1))) := fun l => by
      by_cases h0 : ws.length = q + 1
      · rw [show ws.drop (q + 1) = [] from List.drop_eq_nil_of_le (by omega), show ws.length - (q + 1) = 0 by omega]
        exact Src.none_
      · rw [slA_ne (by omega), show A ++ (iC ws ++ B) = (A ++ iC (ws.take (q + 1))) ++ (iC (ws.drop (q + 1)) ++ B) by rw [List.append_assoc, ← List.append_assoc (iC (ws.take (q + 1))), ← iC_append, List.take_append_drop]]
        exact Src.piece (by simp) (by simp; omega)
    refine WpR.phaseL (m := 1) #[true, true, true, true, true, true, true, true, true, true, true, true, true, true, true, true, false] 8 [fz (fun g => RdInts g (.slice (some ⟨pb, po, none⟩) ps.length c1) ps)] rfl (by kernel_rfl) (by repeat (first | exact Tk.nil | apply Tk.cons (by repeat (first | exact Pk.here | apply Pk.next)))) ?_
    refine WpA.take (i := 5) rfl rfl (by kernel_rfl) (by kernel_rfl) (by kernel_rfl) (Rdo.load rfl (Lds.fz1 (intsC_at hx))) rfl ?_
    refine WpA.take (i := 6) rfl rfl (by kernel_rfl) (by kernel_rfl) (by kernel_rfl) (Rdo.sl_h q rfl rfl rfl (by omega)) rfl ?_
    refine WpA.take (i := 12) rfl rfl (by kernel_rfl) (by kernel_rfl) (by kernel_rfl) (Rdo.load rfl (Lds.fz1 (intsC_at hx))) rfl ?_
    refine WpA.take (i := 13) rfl rfl (by kernel_rfl) (by kernel_rfl) (by kernel_rfl) (Rdo.succ rfl rfl (by omega)) rfl ?_
    refine WpA.take (i := 14) rfl rfl (by kernel_rfl) (by kernel_rfl) (by kernel_rfl) (Rdo.sl_l (q + 1) rfl rfl (by omega) (by omega)) rfl ?_
    refine WpA.one (i := 0) rfl (by kernel_rfl) (Stp.slice (vs := []) (cs := []) rfl rfl (by simp) (by simp) (by omega) rfl ?_)
    intro nr
    refine WpA.gh (Gh.row (n := 0) (sz := 1) Pk.here rfl) ?_
    refine WpA.one (i := 7) rfl (by kernel_rfl) (Stp.tk (pre := [rowA 3 1 (.slice (some ⟨nr, 0, none⟩) 0 0) 0 [], cel b0 3 (A ++ (iC ws ++ B))]) (by repeat (first | exact Tk.nil | apply Tk.cons (by repeat (first | exact Pk.here | apply Pk.next)))) (Stp.append0 (m := q) (news := iC (ws.take q)) rfl rfl (hsrc1 _) (by simp; omega) (oneCells_iC _) (by omega) (by omega) rfl (by rfl) ?_))
    intro a2 c2
    refine WpA.one (i := 15) rfl (by kernel_rfl) (Stp.tk (pre := [rowA 3 1 (.slice a2 q c2) q (iC (ws.take q)), cel b0 3 (A ++ (iC ws ++ B))]) (by repeat (first | exact Tk.nil | apply Tk.cons (by repeat (first | exact Pk.here | apply Pk.next)))) (Stp.append (m := ws.length - (q + 1)) (news := iC (ws.drop (q + 1))) rfl rfl (hsrc2 _) (by simp) (oneCells_iC _) (by omega) (by omega) rfl (by rfl) ?_))
    intro a3 c3
    refine WpA.stop (by kernel_rfl) ?_
    refine WpR.take (i := 16) rfl (by kernel_rfl) (by kernel_rfl) (by kernel_rfl) (Rdo.assign rfl) rfl ?_
    refine WpR.done (by kernel_rfl) ?_
    refine Blk.n ?_
    refine Thn.n ?_
    refine Wp.region ?_
    refine WpL.step (Stp.rd (Rdo.move rfl) rfl ?_)
    refine WpL.step (Stp.rd (Rdo.succ rfl rfl (by omega)) rfl ?_)
    refine WpL.step (Stp.rd (Rdo.assign rfl) rfl ?_)
    refine WpL.nil ?_
    refine Thn.n ?_
    have hlw : (ws.eraseIdx q).length = q + (ws.length - (q + 1)) := by rw [List.length_eraseIdx, if_pos hqw]; omega
    refine ⟨k - 1, _, _, by omega, ⟨i + 1, ws.eraseIdx q, a3, c3, by omega, by omega, rfl, rfl⟩, ?_, ?_⟩
    · rw [hlw]
      exact (by repeat (first | exact trivial | refine ⟨rfl, ?_⟩))
    · simp only [ordL]
      rw [← mS_erase, hlw, List.eraseIdx_eq_take_drop_succ ws q, iC_append]
      exact Gh.tk (by repeat (first | exact Tk.nil | apply Tk.cons (by repeat (first | exact Pk.here | apply Pk.next))))
  · have hi' : i = ps.length := by omega
    subst hi'
    have g1 : ((mS ws).length : Int) = (ws.length : Int) := by simp
    refine Wp.seq ?_
    refine Wp.seq ?_
    refine Wp.region ?_
    refine WpL.step (Stp.rd (Rdo.move rfl) rfl ?_)
    refine WpL.step (Stp.rd (Rdo.move rfl) rfl ?_)
    refine WpL.step (Stp.rd (Rdo.lenSlice rfl) rfl ?_)
    refine WpL.step (Stp.rd (Rdo.lti rfl rfl) rfl ?_)
    refine WpL.nil ?_
    refine Thn.n ?_
    refine Wp.condL rfl (by first | rfl | assumption | (simp only [decide_eq_true_eq, decide_eq_false_iff_not, Bool.not_eq_true', Bool.not_eq_false', List.length_cons, List.length_nil]; first | assumption | omega) | (simp <;> done) | (simp <;> omega)) ?_
    refine Wp.exit ?_
    refine Thn.x ?_
    refine Thn.x ?_
    refine Blk.here ?_
    refine Thn.n ?_
    refine Wp.seq ?_
    refine Wp.region ?_
    refine WpL.step (Stp.rd (Rdo.move rfl) rfl ?_)
    refine WpL.step (Stp.call (netLen_ok _ _ _) (by kernel_rfl) rfl (by repeat (first | exact Tk.nil | apply Tk.cons (by repeat (first | exact Pk.here | apply Pk.next)))) rfl ?_)
    rintro _ _ ⟨rfl, rfl⟩
    refine WpL.lst (by simp only [List.cons_append, List.nil_append]; exact rfl) ?_
    refine WpL.step (Stp.rd (Rdo.move rfl) rfl ?_)
    refine WpL.step (Stp.rd (Rdo.lenSlice rfl) rfl ?_)
    refine WpL.step (Stp.rd (Rdo.eqi rfl rfl) rfl ?_)
    refine WpL.step (Stp.rd (Rdo.move rfl) rfl ?_)
    refine WpL.gT rfl rfl (by first | rfl | assumption | (simp only [decide_eq_true_eq, decide_eq_false_iff_not, Bool.not_eq_true', Bool.not_eq_false', List.length_cons, List.length_nil]; first | assumption | omega) | (simp <;> done) | (simp <;> omega)) ?_
    refine WpL.want rfl rfl rfl (Stp.rd (Rdo.move rfl) rfl ?_)
    refine WpL.want rfl rfl rfl (Stp.call (netLost_ok _ _ _) (by kernel_rfl) rfl (by repeat (first | exact Tk.nil | apply Tk.cons (by repeat (first | exact Pk.here | apply Pk.next)))) rfl ?_)
    rintro _ _ ⟨rfl, rfl⟩
    refine WpL.lst (by simp only [List.cons_append, List.nil_append]; exact rfl) ?_
    refine WpL.want rfl rfl rfl (Stp.rd (Rdo.eqi rfl rfl) rfl ?_)
    refine WpL.step (Stp.rd (Rdo.pick_t rfl rfl) rfl ?_)
    refine WpL.step (Stp.rd (Rdo.move rfl) rfl ?_)
    refine WpL.want rfl rfl rfl (Stp.call (known_ok) (by kernel_rfl) rfl (by repeat (first | exact Tk.nil | apply Tk.cons (by repeat (first | exact Pk.here | apply Pk.next)))) rfl ?_)
    rintro _ _ rfl
    refine WpL.step (Stp.rd (Rdo.pick_t rfl rfl) rfl ?_)
    refine WpL.step (Stp.rd (Rdo.assign rfl) rfl ?_)
    refine WpL.nil ?_
    refine Thn.n ?_
    refine Wp.ret ?_
    refine Ret.now (ResV.tmp rfl ResV.nil) (Gh.tk (by repeat (first | exact Tk.nil | apply Tk.cons (by repeat (first | exact Pk.here | apply Pk.next))))) rfl

theorem order_opn : Opn Try.prog 50 1 RInts := Opn.ints (e := 3) (by kernel_rfl) (by kernel_rfl) (by kernel_rfl)
theorem order_walk (a0 : Int) (a : Option Addr) (n c : Nat) (ps : List Int) (w : World) (_ : (Lit.int .i64 a0).wf = true) (h : RInts (fun b => w.heap[b]?) [.slice a n c] ps) :
    Calls Try.prog 7 #[.int .i64 a0, .slice a n c] w fun e w' => e = .returned (.bool true) ∧ Go.RowKit.Below w.heap.size w w' := by
  obtain ⟨v, hv, h1, _⟩ := h
  obtain rfl := (List.cons.inj hv).1
  exact Trip.top (args := [vi a0, .slice a n c]) (Φ := fun g => RdInts g (.slice a n c) ps) (post := fun r _ => r = vb true) h1 (fun _ _ h => h) (order_ok a0 _ ps)
end Go.Proofs.Ytmeaekcengmfbaa
