/- The document's bag: what it holds; Put, Pull, Twice. -/
import Derived.Test.YtmeaekcengmfbaaBag5
import Derived.Test.YtmeaekcengmfbaaSame
namespace Go.Proofs.Ytmeaekcengmfbaa
open Go
set_option maxHeartbeats 4000000
set_option linter.unusedSimpArgs false
set_option linter.unusedVariables false
set_option maxRecDepth 20000

/-- The document's bag at b: its messages, how many were lost. -/
def rbX (b : Nat) (ms : List Msg) (lost : Int) (x : Value × List (List Value)) : List HP :=
  [cel b 42 [x.1, vi lost], rowA 30 39 x.1 ms.length x.2.flatten, fz (fun g => RdRows g x.2 ms)]
def rbA (b : Nat) (ms : List Msg) (lost : Int) : HP := exH fun x => starH (rbX b ms lost x)
theorem rbA_open {l rest : List HP} {b : Nat} {ms : List Msg} {lost : Int} (hp : Pk l (rbA b ms lost) rest) : GhE l (fun _ : Value × List (List Value) => True) (fun x => rbX b ms lost x ++ rest) := GhE.open_ (f := rbX b ms lost) hp
theorem rbA_shut {l : List HP} {b : Nat} {ms : List Msg} {lost : Int} (v : Value) (css : List (List Value)) : Gh (cel b 42 [v, vi lost] :: rowA 30 39 v ms.length css.flatten :: fz (fun g => RdRows g css ms) :: l) (rbA b ms lost :: l) :=
  Gh.shut (f := rbX b ms lost) (v, css) (Tk.cons Pk.here (Tk.cons Pk.here (Tk.cons Pk.here (Tk.mk fun F w h => h))))

abbrev rputE (b : Nat) (v : Value) (k i : Nat) : Env := [(0, vp b 0), (1, v), (5, vi k), (6, vi i)]
theorem rput_ok (b : Nat) (ms : List Msg) (lost : Int) (lv : Value) (l : List Msg) (hms : ms.length ≤ 512) (hl : l.length ≤ 1099511627776) (hlo : 0 ≤ lost ∧ lost ≤ 1099511627776) :
    Trip Try.prog 22 [vp b 0, lv] [rbA b ms lost, fz (fun g => RdMsgs g lv l)]
      (fun r h => r = vi (min l.length (512 - ms.length) : Nat) ∧ h = [rbA b (ms ++ l.take (512 - ms.length)) (lost + (l.length - min l.length (512 - ms.length) : Nat)), fz (fun g => RdMsgs g lv l)]) := by
  refine Trip.get (Pk.next Pk.here) shape_msgs ?_
  rintro ⟨a0, c0, rfl⟩
  refine Trip.of_body Try.func22 rfl Try.ntmps22 Try.results22 rfl ?_
  refine Wp.seq ?_
  refine Wp.region ?_
  refine WpL.step (Stp.rd (Rdo.assign rfl) rfl ?_)
  refine WpL.nil ?_
  refine Thn.n ?_
  refine Wp.seq ?_
  refine Wp.region ?_
  refine WpL.step (Stp.rd (Rdo.assign rfl) rfl ?_)
  refine WpL.nil ?_
  refine Thn.n ?_
  refine Wp.seq ?_
  refine Wp.seq ?_
  refine Wp.region ?_
  refine WpL.step (Stp.rd (Rdo.assign rfl) rfl ?_)
  refine WpL.nil ?_
  refine Thn.n ?_
  refine Wp.block ?_
  refine Wp.loopE (fun k e h => ∃ i : Nat, i + k = l.length ∧ e = rputE b (.slice a0 l.length c0) (min i (512 - ms.length) : Nat) i ∧
      h = [rbA b (ms ++ l.take (min i (512 - ms.length))) (lost + (i - min i (512 - ms.length) : Nat)), fz (fun g => RdMsgs g (.slice a0 l.length c0) l)]) l.length
    (e0 := rputE b (.slice a0 l.length c0) 0 0) (l0 := [rbA b ms lost, fz (fun g => RdMsgs g (.slice a0 l.length c0) l)]) (by repeat (first | exact trivial | refine ⟨rfl, ?_⟩)) (by repeat (first | exact trivial | refine ⟨rfl, ?_⟩)) (Gh.tk (by repeat (first | exact Tk.nil | apply Tk.cons (by repeat (first | exact Pk.here | apply Pk.next))))) ⟨0, by omega, by simp, by simp⟩ ?_
  rintro k e h ⟨i, hik, rfl, rfl⟩
  by_cases hi : i < l.length
  · have hi0 : (i : Int) < l.length := by omega
    refine Wp.ghE (GhE.elem (R := RdMsg) (by repeat (first | exact Pk.here | apply Pk.next)) i hi) ?_
    rintro ⟨bb, o, cap, cs⟩ ⟨hv, hcs⟩
    simp only [Value.slice.injEq, true_and] at hv
    obtain ⟨rfl, rfl⟩ := hv
    refine Wp.get (by repeat (first | exact Pk.here | apply Pk.next)) len_msg ?_
    rintro ⟨hlen, hone⟩
    refine Wp.ghE (rbA_open (by repeat (first | exact Pk.here | apply Pk.next))) ?_
    rintro ⟨v, css⟩ -
    simp only [rbX, List.cons_append, List.nil_append]
    refine Wp.get (Pk.next Pk.here) (fun r => rowA_shape) ?_
    rintro ⟨a, c, rfl⟩
    have hn : (ms ++ l.take (min i (512 - ms.length))).length = ms.length + min i (512 - ms.length) := by simp; omega
    rw [hn]
    by_cases hR : i < 512 - ms.length
    · have e1 : min i (512 - ms.length) = i := by omega
      have e2 : min (i + 1) (512 - ms.length) = i + 1 := by omega
      rw [e1]
      have g1 : ((ms.length + i : Nat) : Int) < 512 := by omega
      refine Wp.seq ?_
      refine Wp.seq ?_
      refine Wp.region ?_
      refine WpL.step (Stp.rd (Rdo.move rfl) rfl ?_)
      refine WpL.step (Stp.rd (Rdo.move rfl) rfl ?_)
      refine WpL.step (Stp.rd (Rdo.lenSlice rfl) rfl ?_)
      refine WpL.step (Stp.rd (Rdo.lti rfl rfl) rfl ?_)
      refine WpL.nil ?_
      refine Thn.n ?_
      refine Wp.condK rfl (by first | rfl | assumption | (simp only [decide_eq_true_eq, decide_eq_false_iff_not, Bool.not_eq_true', Bool.not_eq_false', List.length_cons, List.length_nil]; first | assumption | omega) | (simp <;> done) | (simp <;> omega)) ?_
      refine Wp.skip ?_
      refine Thn.n ?_
      refine Wp.seq ?_
      refine Wp.block ?_
      refine Wp.seq ?_
      refine Wp.region ?_
      refine WpL.step (Stp.rd (Rdo.move rfl) rfl ?_)
      refine WpL.step (Stp.rd (Rdo.nilCheck rfl) rfl ?_)
      refine WpL.step (Stp.rd (Rdo.fieldAddr0 rfl) rfl ?_)
      refine WpL.step (Stp.rd (Rdo.load rfl (Lds.one rfl)) rfl ?_)
      refine WpL.step (Stp.rd (Rdo.lenSlice rfl) rfl ?_)
      refine WpL.step (Stp.rd (Rdo.lti rfl rfl) rfl ?_)
      refine WpL.nil ?_
      refine Thn.n ?_
      refine Wp.condK rfl (by first | rfl | assumption | (simp only [decide_eq_true_eq, decide_eq_false_iff_not, Bool.not_eq_true', Bool.not_eq_false', List.length_cons, List.length_nil]; first | assumption | omega) | (simp <;> done) | (simp <;> omega)) ?_
      refine Wp.seq ?_
      refine Wp.draw (by kernel_rfl) ?_
      refine WpR.take (i := 0) rfl (by kernel_rfl) (by kernel_rfl) (by kernel_rfl) (Rdo.move rfl) rfl ?_
      refine WpR.take (i := 1) rfl (by kernel_rfl) (by kernel_rfl) (by kernel_rfl) (Rdo.move rfl) rfl ?_
      refine WpR.take (i := 2) rfl (by kernel_rfl) (by kernel_rfl) (by kernel_rfl) (Rdo.nilCheck rfl) rfl ?_
      refine WpR.take (i := 3) rfl (by kernel_rfl) (by kernel_rfl) (by kernel_rfl) (Rdo.fieldAddr0 rfl) rfl ?_
      refine WpR.take (i := 5) rfl (by kernel_rfl) (by kernel_rfl) (by kernel_rfl) (Rdo.move rfl) rfl ?_
      refine WpR.take (i := 6) rfl (by kernel_rfl) (by kernel_rfl) (by kernel_rfl) (Rdo.move rfl) rfl ?_
      refine WpR.take (i := 7) rfl (by kernel_rfl) (by kernel_rfl) (by kernel_rfl) (Rdo.indexSlice rfl rfl (by omega)) rfl ?_
      refine WpR.load (i := 8) [4] rfl (by kernel_rfl) (by kernel_rfl) (by kernel_rfl) (by kernel_rfl) (by kernel_rfl) rfl Tk.rfl_ (Harm.rd rfl (Rdo.load rfl (Lds.one rfl)) Harm.nil) (Rdo.load rfl (Lds.next (Lds.next (Lds.next (by apply Lds.iall; (first | rfl | assumption | (simp <;> fail))))))) rfl ?_
      refine WpR.phaseL (m := 3) #[true, true, true, true, true, true, true, true, true, true, true, false, false, false] 3 _ rfl (by kernel_rfl) (Tk.cons Pk.here Tk.nil) ?_
      refine WpA.take (i := 4) rfl rfl (by kernel_rfl) (by kernel_rfl) (by kernel_rfl) (Rdo.load rfl (Lds.one rfl)) rfl ?_
      (refine WpA.one (i := 9) rfl (by kernel_rfl) (Stp.sliceV rfl rfl (VCs.cons (VC.ag _) (by first | rfl | assumption | (simp <;> done)) VCs.nil) (by simp only [List.cons_append, List.nil_append, List.append_nil]; exact rfl) rfl rfl ?_); intro nb37)
      (refine WpA.one (i := 10) rfl (by kernel_rfl) (Stp.appendP rfl rfl (Pk.next Pk.here) (Src.cel (by first | rfl | (simp <;> done) | (simp <;> omega))) (by first | rfl | (simp <;> done) | (simp <;> omega)) (by first | assumption | exact oneCells1 rfl | exact oneCells1 (by assumption) | exact oneCells_bytesC _ | exact oneCells_votesC _ | (simp [oneCells, Value.oneCell'] <;> done)) (by first | omega | (simp <;> omega)) (by first | omega | (simp <;> omega)) rfl (by first | rfl | (simp <;> done)) ?_); intro na38 nc38)
      refine WpA.stop (by kernel_rfl) ?_
      refine WpR.lst (by simp only [List.cons_append, List.nil_append]; exact rfl) ?_
      refine WpR.take (i := 11) rfl (by kernel_rfl) (by kernel_rfl) (by kernel_rfl) (Rdo.nilCheck rfl) rfl ?_
      refine WpR.take (i := 12) rfl (by kernel_rfl) (by kernel_rfl) (by kernel_rfl) (Rdo.fieldAddr0 rfl) rfl ?_
      refine WpR.one (i := 13) rfl (by kernel_rfl) (Stp.storeV rfl rfl (VC.sl _ _ _) rfl (Sts.lp (by repeat (first | exact LPut.nil _ | apply LPut.here | apply LPut.next)) (oneCells1 rfl)) ?_)
      refine WpR.done (by kernel_rfl) ?_
      refine Thn.n ?_
      refine Wp.region ?_
      refine WpL.step (Stp.rd (Rdo.move rfl) rfl ?_)
      refine WpL.step (Stp.rd (Rdo.succ rfl rfl (by omega)) rfl ?_)
      refine WpL.step (Stp.rd (Rdo.assign rfl) rfl ?_)
      refine WpL.nil ?_
      refine Blk.n ?_
      refine Thn.n ?_
      refine Wp.region ?_
      refine WpL.step (Stp.rd (Rdo.move rfl) rfl ?_)
      refine WpL.step (Stp.rd (Rdo.succ rfl rfl (by omega)) rfl ?_)
      refine WpL.step (Stp.rd (Rdo.assign rfl) rfl ?_)
      refine WpL.nil ?_
      refine Thn.n ?_
      refine ⟨k - 1, _, _, by omega, ⟨i + 1, by omega, rfl, rfl⟩, ?_, ?_⟩
      · simp only [e2]
        exact (by repeat (first | exact trivial | refine ⟨rfl, ?_⟩))
      · rw [e2, ← List.take_append_getElem hi, ← List.append_assoc, Nat.sub_self, Nat.sub_self]
        refine Gh.trans (Gh.fzAnd (RdRows.mono _ _) (RdMsg.mono _ _) (by repeat (first | exact Pk.here | apply Pk.next)) (by repeat (first | exact Pk.here | apply Pk.next))) ?_
        refine Gh.trans (Gh.fzImp (Ψ := fun g => RdRows g (css ++ [cs]) (ms ++ l.take i ++ [l[i]])) Pk.here fun g h => h.1.snoc hlen h.2) ?_
        have hn2 : (ms ++ l.take i ++ [l[i]]).length = ms.length + i + 1 := by simp; omega
        rw [← hn2, show css.flatten ++ cs = (css ++ [cs]).flatten by simp]
        exact Gh.trans (Gh.shut (f := rbX b (ms ++ l.take i ++ [l[i]]) (lost + ((0 : Nat) : Int))) (_, css ++ [cs]) (Tk.cons (Pk.next Pk.here) (Tk.cons (Pk.next Pk.here) (Tk.cons Pk.here Tk.nil)))) (Gh.tk (by repeat (first | exact Tk.nil | apply Tk.cons (by repeat (first | exact Pk.here | apply Pk.next)))))
    · have e1 : min i (512 - ms.length) = 512 - ms.length := by omega
      have e2 : min (i + 1) (512 - ms.length) = 512 - ms.length := by omega
      have hn1 : (ms ++ l.take (512 - ms.length)).length = 512 := by rw [e1] at hn; omega
      rw [e1, show ms.length + (512 - ms.length) = 512 by omega]
      refine Wp.seq ?_
      refine Wp.seq ?_
      refine Wp.region ?_
      refine WpL.step (Stp.rd (Rdo.move rfl) rfl ?_)
      refine WpL.step (Stp.rd (Rdo.move rfl) rfl ?_)
      refine WpL.step (Stp.rd (Rdo.lenSlice rfl) rfl ?_)
      refine WpL.step (Stp.rd (Rdo.lti rfl rfl) rfl ?_)
      refine WpL.nil ?_
      refine Thn.n ?_
      refine Wp.condK rfl (by first | rfl | assumption | (simp only [decide_eq_true_eq, decide_eq_false_iff_not, Bool.not_eq_true', Bool.not_eq_false', List.length_cons, List.length_nil]; first | assumption | omega) | (simp <;> done) | (simp <;> omega)) ?_
      refine Wp.skip ?_
      refine Thn.n ?_
      refine Wp.seq ?_
      refine Wp.block ?_
      refine Wp.seq ?_
      refine Wp.region ?_
      refine WpL.step (Stp.rd (Rdo.move rfl) rfl ?_)
      refine WpL.step (Stp.rd (Rdo.nilCheck rfl) rfl ?_)
      refine WpL.step (Stp.rd (Rdo.fieldAddr0 rfl) rfl ?_)
      refine WpL.step (Stp.rd (Rdo.load rfl (Lds.one rfl)) rfl ?_)
      refine WpL.step (Stp.rd (Rdo.lenSlice rfl) rfl ?_)
      refine WpL.step (Stp.rd (Rdo.lti rfl rfl) rfl ?_)
      refine WpL.nil ?_
      refine Thn.n ?_
      refine Wp.condF rfl ?_
      refine Wp.region ?_
      refine WpL.step (Stp.rd (Rdo.move rfl) rfl ?_)
      refine WpL.step (Stp.rd (Rdo.nilCheck rfl) rfl ?_)
      refine WpL.step (Stp.rd (Rdo.fieldAddr0 rfl) rfl ?_)
      refine WpL.step (Stp.rd (Rdo.load rfl (Lds.one rfl)) rfl ?_)
      refine WpL.step (Stp.rd (Rdo.add64 rfl rfl (by first | omega | (dsimp only; omega))) rfl ?_)
      refine WpL.step (Stp.rd (Rdo.nilCheck rfl) rfl ?_)
      refine WpL.step (Stp.rd (Rdo.fieldAddr0 rfl) rfl ?_)
      refine WpL.step (Stp.storeV rfl rfl (VC.i _ _) rfl (Sts.lp (by repeat (first | exact LPut.nil _ | apply LPut.here | apply LPut.next)) (oneCells1 rfl)) ?_)
      refine WpL.nil ?_
      refine Blk.n ?_
      refine Thn.n ?_
      refine Wp.region ?_
      refine WpL.step (Stp.rd (Rdo.move rfl) rfl ?_)
      refine WpL.step (Stp.rd (Rdo.succ rfl rfl (by omega)) rfl ?_)
      refine WpL.step (Stp.rd (Rdo.assign rfl) rfl ?_)
      refine WpL.nil ?_
      refine Thn.n ?_
      refine ⟨k - 1, _, _, by omega, ⟨i + 1, by omega, rfl, rfl⟩, ?_, ?_⟩
      · simp only [e2]
        exact (by repeat (first | exact trivial | refine ⟨rfl, ?_⟩))
      · rw [e2]
        rw [show lost + ((i + 1 - (512 - ms.length) : Nat) : Int) = lost + ((i - (512 - ms.length) : Nat) : Int) + 1 by omega]
        have g := rbA_shut (b := b) (ms := ms ++ l.take (512 - ms.length)) (lost := lost + ((i - (512 - ms.length) : Nat) : Int) + 1) (l := [fz (fun g => RdMsgs g (.slice (some ⟨bb, o, none⟩) l.length c0) l)]) (.slice a 512 c) css
        rw [hn1] at g
        exact Gh.trans (Gh.tk (by repeat (first | exact Tk.nil | apply Tk.cons (by repeat (first | exact Pk.here | apply Pk.next))))) g
  · have hi' : i = l.length := by omega
    subst hi'
    refine Wp.seq ?_
    refine Wp.seq ?_
    refine Wp.region ?_
    refine WpL.step (Stp.rd (Rdo.move rfl) rfl ?_)
    refine WpL.step (Stp.rd (Rdo.move rfl) rfl ?_)
    refine WpL.step (Stp.rd (Rdo.lenSlice rfl) rfl ?_)
    refine WpL.step (Stp.rd (Rdo.lti rfl rfl) rfl ?_)
    refine WpL.nil ?_
    refine Thn.n ?_
    refine Wp.condL rfl (by first | rfl | assumption | (simp only [decide_eq_true_eq, decide_eq_false_iff_not, Bool.not_eq_true', Bool.not_eq_false', List.length_cons, List.length_nil]; first | assumption | omega) | (simp <;> done) | (simp <;> omega)) ?_
    refine Wp.exit ?_
    refine Thn.x ?_
    refine Thn.x ?_
    refine Blk.here ?_
    refine Thn.n ?_
    refine Wp.seq ?_
    refine Wp.region ?_
    refine WpL.step (Stp.rd (Rdo.move rfl) rfl ?_)
    refine WpL.step (Stp.rd (Rdo.assign rfl) rfl ?_)
    refine WpL.nil ?_
    refine Thn.n ?_
    refine Wp.ret ?_
    rw [show l.take (512 - ms.length) = l.take (min l.length (512 - ms.length)) from ?_]
    · refine Ret.now (ResV.tmp rfl ResV.nil) ?_ ⟨rfl, rfl⟩
      exact Gh.tk (by repeat (first | exact Tk.nil | apply Tk.cons (by repeat (first | exact Pk.here | apply Pk.next))))
    · by_cases hL : l.length ≤ 512 - ms.length
      · rw [List.take_of_length_le hL, List.take_of_length_le (by omega)]
      · rw [Nat.min_eq_right (by omega)]

theorem rpull_out (b : Nat) (ms : List Msg) (lost : Int) (i : Int) (hi : i < 0 ∨ (ms.length : Int) ≤ i) : Trip Try.prog 23 [vp b 0, vi i] [rbA b ms lost] (fun r l => r = .tuple #[.agg msg0C.toArray, vb false] ∧ l = [rbA b ms lost]) := by
  refine Trip.ghE (rbA_open Pk.here) ?_
  rintro ⟨v, css⟩ -
  simp only [rbX, List.cons_append, List.nil_append]
  refine Trip.get (Pk.next Pk.here) (fun r => rowA_shape) ?_
  rintro ⟨a, c, rfl⟩
  by_cases h0 : i < 0
  · refine Trip.of_body Try.func23 rfl Try.ntmps23 Try.results23 rfl ?_
    refine Wp.seq ?_
    refine Wp.region ?_
    (refine WpL.step (Stp.alloc rfl ?_); intro nb2)
    refine WpL.step (Stp.rd (Rdo.assign rfl) rfl ?_)
    refine WpL.nil ?_
    refine Thn.n ?_
    refine Wp.seq ?_
    refine Wp.seq ?_
    refine Wp.region ?_
    refine WpL.step (Stp.rd (Rdo.move rfl) rfl ?_)
    refine WpL.step (Stp.rd (Rdo.lti rfl rfl) rfl ?_)
    refine WpL.step (Stp.rd (Rdo.move rfl) rfl ?_)
    refine WpL.gT rfl rfl (by first | rfl | assumption | (simp only [decide_eq_true_eq, decide_eq_false_iff_not, Bool.not_eq_true', Bool.not_eq_false', List.length_cons, List.length_nil]; first | assumption | omega) | (simp <;> done) | (simp <;> omega)) ?_
    refine WpL.pass rfl rfl rfl rfl ?_
    refine WpL.pass rfl rfl rfl rfl ?_
    refine WpL.pass rfl rfl rfl rfl ?_
    refine WpL.pass rfl rfl rfl rfl ?_
    refine WpL.pass rfl rfl rfl rfl ?_
    refine WpL.pass rfl rfl rfl rfl ?_
    refine WpL.pass rfl rfl rfl rfl ?_
    refine WpL.step (Stp.rd (Rdo.pick_t rfl rfl) rfl ?_)
    refine WpL.nil ?_
    refine Thn.n ?_
    refine Wp.condT rfl ?_
    refine Wp.seq ?_
    refine Wp.region ?_
    refine WpL.step (Stp.rd (Rdo.bld rfl (BldL.nil _)) rfl ?_)
    refine WpL.step (Stp.storeV rfl rfl (VC.ag _) (by first | rfl | assumption | (simp <;> done)) (by repeat (first | (apply Sts.all; (focus (first | rfl | assumption | (simp <;> done))); (focus (first | exact oneCells1 rfl | assumption | exact oneCells1 (by assumption) | ((repeat (first | assumption | exact oneCells_nil | exact oneCells_bytesC _ | (apply oneCells_cons; (focus (first | rfl | assumption))) | apply oneCells_append)); done) | (simp [oneCells, Value.oneCell'] <;> done)))) | (apply Sts.lp (by repeat (first | exact LPut.nil _ | apply LPut.here | apply LPut.next)); (focus (first | exact oneCells1 rfl | assumption | exact oneCells1 (by assumption) | ((repeat (first | assumption | exact oneCells_nil | exact oneCells_bytesC _ | (apply oneCells_cons; (focus (first | rfl | assumption))) | apply oneCells_append)); done) | (simp [oneCells, Value.oneCell'] <;> done)))) | (refine Sts.row1 (by first | assumption | omega | (simp <;> omega)) (by first | rfl | assumption)) | (refine Sts.rowP (by assumption) (by first | rfl | assumption | (simp <;> done)) (by rfl) (by (first | exact oneCells1 rfl | assumption | exact oneCells1 (by assumption) | ((repeat (first | assumption | exact oneCells_nil | exact oneCells_bytesC _ | (apply oneCells_cons; (focus (first | rfl | assumption))) | apply oneCells_append)); done) | (simp [oneCells, Value.oneCell'] <;> done)))) | apply Sts.next)) ?_)
    refine WpL.step (Stp.rd (Rdo.assign rfl) rfl ?_)
    refine WpL.nil ?_
    refine Thn.n ?_
    refine Wp.ret ?_
    refine Thn.r ?_
    refine Ret.now (ResV.cell rfl (by repeat (first | exact Lds.one rfl | (apply Lds.all; (first | rfl | assumption | (simp <;> fail))) | exact Lds.ione0 | exact Lds.ione rfl | (apply Lds.iall; (first | rfl | assumption | (simp <;> fail))) | apply Lds.next)) (ResV.tmp rfl ResV.nil)) ?_ ⟨rfl, rfl⟩
    exact Gh.trans (Gh.tk (by repeat (first | exact Tk.nil | apply Tk.cons (by repeat (first | exact Pk.here | apply Pk.next))))) (rbA_shut (l := []) _ css)
  · have h1 : (ms.length : Int) ≤ i := by omega
    refine Trip.of_body Try.func23 rfl Try.ntmps23 Try.results23 rfl ?_
    refine Wp.seq ?_
    refine Wp.region ?_
    (refine WpL.step (Stp.alloc rfl ?_); intro nb2)
    refine WpL.step (Stp.rd (Rdo.assign rfl) rfl ?_)
    refine WpL.nil ?_
    refine Thn.n ?_
    refine Wp.seq ?_
    refine Wp.seq ?_
    refine Wp.region ?_
    refine WpL.step (Stp.rd (Rdo.move rfl) rfl ?_)
    refine WpL.step (Stp.rd (Rdo.lti rfl rfl) rfl ?_)
    refine WpL.step (Stp.rd (Rdo.move rfl) rfl ?_)
    refine WpL.gF rfl rfl (by first | rfl | assumption | (simp only [decide_eq_true_eq, decide_eq_false_iff_not, Bool.not_eq_true', Bool.not_eq_false', List.length_cons, List.length_nil]; first | assumption | omega) | (simp <;> done) | (simp <;> omega)) ?_
    refine WpL.want rfl rfl rfl (Stp.rd (Rdo.move rfl) rfl ?_)
    refine WpL.want rfl rfl rfl (Stp.rd (Rdo.move rfl) rfl ?_)
    refine WpL.want rfl rfl rfl (Stp.rd (Rdo.nilCheck rfl) rfl ?_)
    refine WpL.want rfl rfl rfl (Stp.rd (Rdo.fieldAddr0 rfl) rfl ?_)
    refine WpL.want rfl rfl rfl (Stp.rd (Rdo.load rfl (Lds.next (Lds.one rfl))) rfl ?_)
    refine WpL.want rfl rfl rfl (Stp.rd (Rdo.lenSlice rfl) rfl ?_)
    refine WpL.want rfl rfl rfl (Stp.rd (Rdo.gei rfl rfl) rfl ?_)
    refine WpL.step (Stp.rd (Rdo.pick_f rfl rfl) rfl ?_)
    refine WpL.nil ?_
    refine Thn.n ?_
    refine Wp.condK rfl (by first | rfl | assumption | (simp only [decide_eq_true_eq, decide_eq_false_iff_not, Bool.not_eq_true', Bool.not_eq_false', List.length_cons, List.length_nil]; first | assumption | omega) | (simp <;> done) | (simp <;> omega)) ?_
    refine Wp.seq ?_
    refine Wp.region ?_
    refine WpL.step (Stp.rd (Rdo.bld rfl (BldL.nil _)) rfl ?_)
    refine WpL.step (Stp.storeV rfl rfl (VC.ag _) (by first | rfl | assumption | (simp <;> done)) (by repeat (first | (apply Sts.all; (focus (first | rfl | assumption | (simp <;> done))); (focus (first | exact oneCells1 rfl | assumption | exact oneCells1 (by assumption) | ((repeat (first | assumption | exact oneCells_nil | exact oneCells_bytesC _ | (apply oneCells_cons; (focus (first | rfl | assumption))) | apply oneCells_append)); done) | (simp [oneCells, Value.oneCell'] <;> done)))) | (apply Sts.lp (by repeat (first | exact LPut.nil _ | apply LPut.here | apply LPut.next)); (focus (first | exact oneCells1 rfl | assumption | exact oneCells1 (by assumption) | ((repeat (first | assumption | exact oneCells_nil | exact oneCells_bytesC _ | (apply oneCells_cons; (focus (first | rfl | assumption))) | apply oneCells_append)); done) | (simp [oneCells, Value.oneCell'] <;> done)))) | (refine Sts.row1 (by first | assumption | omega | (simp <;> omega)) (by first | rfl | assumption)) | (refine Sts.rowP (by assumption) (by first | rfl | assumption | (simp <;> done)) (by rfl) (by (first | exact oneCells1 rfl | assumption | exact oneCells1 (by assumption) | ((repeat (first | assumption | exact oneCells_nil | exact oneCells_bytesC _ | (apply oneCells_cons; (focus (first | rfl | assumption))) | apply oneCells_append)); done) | (simp [oneCells, Value.oneCell'] <;> done)))) | apply Sts.next)) ?_)
    refine WpL.step (Stp.rd (Rdo.assign rfl) rfl ?_)
    refine WpL.nil ?_
    refine Thn.n ?_
    refine Wp.ret ?_
    refine Thn.r ?_
    refine Ret.now (ResV.cell rfl (by repeat (first | exact Lds.one rfl | (apply Lds.all; (first | rfl | assumption | (simp <;> fail))) | exact Lds.ione0 | exact Lds.ione rfl | (apply Lds.iall; (first | rfl | assumption | (simp <;> fail))) | apply Lds.next)) (ResV.tmp rfl ResV.nil)) ?_ ⟨rfl, rfl⟩
    exact Gh.trans (Gh.tk (by repeat (first | exact Tk.nil | apply Tk.cons (by repeat (first | exact Pk.here | apply Pk.next))))) (rbA_shut (l := []) _ css)

theorem rtwice_out (b : Nat) (ms : List Msg) (lost : Int) (i : Int) (hi : i < 0 ∨ (ms.length : Int) ≤ i ∨ (512 : Int) ≤ ms.length) : Trip Try.prog 24 [vp b 0, vi i] [rbA b ms lost] (fun r l => r = vb false ∧ l = [rbA b ms lost]) := by
  refine Trip.ghE (rbA_open Pk.here) ?_
  rintro ⟨v, css⟩ -
  simp only [rbX, List.cons_append, List.nil_append]
  refine Trip.get (Pk.next Pk.here) (fun r => rowA_shape) ?_
  rintro ⟨a, c, rfl⟩
  by_cases h0 : i < 0
  · refine Trip.of_body Try.func24 rfl Try.ntmps24 Try.results24 rfl ?_
    refine Wp.seq ?_
    refine Wp.region ?_
    refine WpL.step (Stp.rd (Rdo.assign rfl) rfl ?_)
    refine WpL.nil ?_
    refine Thn.n ?_
    refine Wp.seq ?_
    refine Wp.seq ?_
    refine Wp.region ?_
    refine WpL.step (Stp.rd (Rdo.move rfl) rfl ?_)
    refine WpL.step (Stp.rd (Rdo.lti rfl rfl) rfl ?_)
    refine WpL.step (Stp.rd (Rdo.move rfl) rfl ?_)
    refine WpL.gT rfl rfl (by first | rfl | assumption | (simp only [decide_eq_true_eq, decide_eq_false_iff_not, Bool.not_eq_true', Bool.not_eq_false', List.length_cons, List.length_nil]; first | assumption | omega) | (simp <;> done) | (simp <;> omega)) ?_
    refine WpL.pass rfl rfl rfl rfl ?_
    refine WpL.pass rfl rfl rfl rfl ?_
    refine WpL.pass rfl rfl rfl rfl ?_
    refine WpL.pass rfl rfl rfl rfl ?_
    refine WpL.pass rfl rfl rfl rfl ?_
    refine WpL.pass rfl rfl rfl rfl ?_
    refine WpL.pass rfl rfl rfl rfl ?_
    refine WpL.step (Stp.rd (Rdo.pick_t rfl rfl) rfl ?_)
    refine WpL.step (Stp.rd (Rdo.move rfl) rfl ?_)
    refine WpL.pass rfl rfl rfl rfl ?_
    refine WpL.pass rfl rfl rfl rfl ?_
    refine WpL.pass rfl rfl rfl rfl ?_
    refine WpL.pass rfl rfl rfl rfl ?_
    refine WpL.pass rfl rfl rfl rfl ?_
    refine WpL.pass rfl rfl rfl rfl ?_
    refine WpL.step (Stp.rd (Rdo.pick_t rfl rfl) rfl ?_)
    refine WpL.nil ?_
    refine Thn.n ?_
    refine Wp.condT rfl ?_
    refine Wp.seq ?_
    refine Wp.region ?_
    refine WpL.step (Stp.rd (Rdo.assign rfl) rfl ?_)
    refine WpL.nil ?_
    refine Thn.n ?_
    refine Wp.ret ?_
    refine Thn.r ?_
    refine Ret.now (ResV.tmp rfl ResV.nil) ?_ ⟨rfl, rfl⟩
    exact Gh.trans (Gh.tk (by repeat (first | exact Tk.nil | apply Tk.cons (by repeat (first | exact Pk.here | apply Pk.next))))) (rbA_shut (l := []) _ css)
  by_cases h1 : (ms.length : Int) ≤ i
  · refine Trip.of_body Try.func24 rfl Try.ntmps24 Try.results24 rfl ?_
    refine Wp.seq ?_
    refine Wp.region ?_
    refine WpL.step (Stp.rd (Rdo.assign rfl) rfl ?_)
    refine WpL.nil ?_
    refine Thn.n ?_
    refine Wp.seq ?_
    refine Wp.seq ?_
    refine Wp.region ?_
    refine WpL.step (Stp.rd (Rdo.move rfl) rfl ?_)
    refine WpL.step (Stp.rd (Rdo.lti rfl rfl) rfl ?_)
    refine WpL.step (Stp.rd (Rdo.move rfl) rfl ?_)
    refine WpL.gF rfl rfl (by first | rfl | assumption | (simp only [decide_eq_true_eq, decide_eq_false_iff_not, Bool.not_eq_true', Bool.not_eq_false', List.length_cons, List.length_nil]; first | assumption | omega) | (simp <;> done) | (simp <;> omega)) ?_
    refine WpL.want rfl rfl rfl (Stp.rd (Rdo.move rfl) rfl ?_)
    refine WpL.want rfl rfl rfl (Stp.rd (Rdo.move rfl) rfl ?_)
    refine WpL.want rfl rfl rfl (Stp.rd (Rdo.nilCheck rfl) rfl ?_)
    refine WpL.want rfl rfl rfl (Stp.rd (Rdo.fieldAddr0 rfl) rfl ?_)
    refine WpL.want rfl rfl rfl (Stp.rd (Rdo.load rfl (Lds.one rfl)) rfl ?_)
    refine WpL.want rfl rfl rfl (Stp.rd (Rdo.lenSlice rfl) rfl ?_)
    refine WpL.want rfl rfl rfl (Stp.rd (Rdo.gei rfl rfl) rfl ?_)
    refine WpL.step (Stp.rd (Rdo.pick_f rfl rfl) rfl ?_)
    refine WpL.step (Stp.rd (Rdo.move rfl) rfl ?_)
    refine WpL.gT rfl rfl (by first | rfl | assumption | (simp only [decide_eq_true_eq, decide_eq_false_iff_not, Bool.not_eq_true', Bool.not_eq_false', List.length_cons, List.length_nil]; first | assumption | omega) | (simp <;> done) | (simp <;> omega)) ?_
    refine WpL.pass rfl rfl rfl rfl ?_
    refine WpL.pass rfl rfl rfl rfl ?_
    refine WpL.pass rfl rfl rfl rfl ?_
    refine WpL.pass rfl rfl rfl rfl ?_
    refine WpL.pass rfl rfl rfl rfl ?_
    refine WpL.pass rfl rfl rfl rfl ?_
    refine WpL.step (Stp.rd (Rdo.pick_t rfl rfl) rfl ?_)
    refine WpL.nil ?_
    refine Thn.n ?_
    refine Wp.condT rfl ?_
    refine Wp.seq ?_
    refine Wp.region ?_
    refine WpL.step (Stp.rd (Rdo.assign rfl) rfl ?_)
    refine WpL.nil ?_
    refine Thn.n ?_
    refine Wp.ret ?_
    refine Thn.r ?_
    refine Ret.now (ResV.tmp rfl ResV.nil) ?_ ⟨rfl, rfl⟩
    exact Gh.trans (Gh.tk (by repeat (first | exact Tk.nil | apply Tk.cons (by repeat (first | exact Pk.here | apply Pk.next))))) (rbA_shut (l := []) _ css)
  · have h2 : (512 : Int) ≤ ms.length := by omega
    refine Trip.of_body Try.func24 rfl Try.ntmps24 Try.results24 rfl ?_
    refine Wp.seq ?_
    refine Wp.region ?_
    refine WpL.step (Stp.rd (Rdo.assign rfl) rfl ?_)
    refine WpL.nil ?_
    refine Thn.n ?_
    refine Wp.seq ?_
    refine Wp.seq ?_
    refine Wp.region ?_
    refine WpL.step (Stp.rd (Rdo.move rfl) rfl ?_)
    refine WpL.step (Stp.rd (Rdo.lti rfl rfl) rfl ?_)
    refine WpL.step (Stp.rd (Rdo.move rfl) rfl ?_)
    refine WpL.gF rfl rfl (by first | rfl | assumption | (simp only [decide_eq_true_eq, decide_eq_false_iff_not, Bool.not_eq_true', Bool.not_eq_false', List.length_cons, List.length_nil]; first | assumption | omega) | (simp <;> done) | (simp <;> omega)) ?_
    refine WpL.want rfl rfl rfl (Stp.rd (Rdo.move rfl) rfl ?_)
    refine WpL.want rfl rfl rfl (Stp.rd (Rdo.move rfl) rfl ?_)
    refine WpL.want rfl rfl rfl (Stp.rd (Rdo.nilCheck rfl) rfl ?_)
    refine WpL.want rfl rfl rfl (Stp.rd (Rdo.fieldAddr0 rfl) rfl ?_)
    refine WpL.want rfl rfl rfl (Stp.rd (Rdo.load rfl (Lds.one rfl)) rfl ?_)
    refine WpL.want rfl rfl rfl (Stp.rd (Rdo.lenSlice rfl) rfl ?_)
    refine WpL.want rfl rfl rfl (Stp.rd (Rdo.gei rfl rfl) rfl ?_)
    refine WpL.step (Stp.rd (Rdo.pick_f rfl rfl) rfl ?_)
    refine WpL.step (Stp.rd (Rdo.move rfl) rfl ?_)
    refine WpL.gF rfl rfl (by first | rfl | assumption | (simp only [decide_eq_true_eq, decide_eq_false_iff_not, Bool.not_eq_true', Bool.not_eq_false', List.length_cons, List.length_nil]; first | assumption | omega) | (simp <;> done) | (simp <;> omega)) ?_
    refine WpL.want rfl rfl rfl (Stp.rd (Rdo.move rfl) rfl ?_)
    refine WpL.want rfl rfl rfl (Stp.rd (Rdo.nilCheck rfl) rfl ?_)
    refine WpL.want rfl rfl rfl (Stp.rd (Rdo.fieldAddr0 rfl) rfl ?_)
    refine WpL.want rfl rfl rfl (Stp.rd (Rdo.load rfl (Lds.one rfl)) rfl ?_)
    refine WpL.want rfl rfl rfl (Stp.rd (Rdo.lenSlice rfl) rfl ?_)
    refine WpL.want rfl rfl rfl (Stp.rd (Rdo.gei rfl rfl) rfl ?_)
    refine WpL.step (Stp.rd (Rdo.pick_f rfl rfl) rfl ?_)
    refine WpL.nil ?_
    refine Thn.n ?_
    refine Wp.condK rfl (by first | rfl | assumption | (simp only [decide_eq_true_eq, decide_eq_false_iff_not, Bool.not_eq_true', Bool.not_eq_false', List.length_cons, List.length_nil]; first | assumption | omega) | (simp <;> done) | (simp <;> omega)) ?_
    refine Wp.seq ?_
    refine Wp.region ?_
    refine WpL.step (Stp.rd (Rdo.assign rfl) rfl ?_)
    refine WpL.nil ?_
    refine Thn.n ?_
    refine Wp.ret ?_
    refine Thn.r ?_
    refine Ret.now (ResV.tmp rfl ResV.nil) ?_ ⟨rfl, rfl⟩
    exact Gh.trans (Gh.tk (by repeat (first | exact Tk.nil | apply Tk.cons (by repeat (first | exact Pk.here | apply Pk.next))))) (rbA_shut (l := []) _ css)
theorem rtwice_in (b : Nat) (ms : List Msg) (lost : Int) (i : Nat) (m : Msg) (hm : ms[i]? = some m) (hms : ms.length < 512) : Trip Try.prog 24 [vp b 0, vi i] [rbA b ms lost] (fun r l => r = vb true ∧ l = [rbA b (ms ++ [m]) lost]) := by
  obtain ⟨hi, hmi⟩ := List.getElem?_eq_some_iff.1 hm
  refine Trip.ghE (rbA_open Pk.here) ?_
  rintro ⟨v, css⟩ -
  simp only [rbX, List.cons_append, List.nil_append]
  refine Trip.ghE (GhE.rowsElem (Pk.next (Pk.next Pk.here)) i hi) ?_
  rintro ⟨X, c, Y⟩ ⟨rfl, hX, hXl, hc⟩
  rw [hmi]
  simp only at hX hXl hc ⊢
  refine Trip.get Pk.here len_msg ?_
  rintro ⟨_, hone⟩
  rw [List.flatten_append, List.flatten_cons]
  have hXf : X.flatten.length = i * 39 := by rw [flat_len hXl, hX]
  refine Trip.get (Pk.next (Pk.next (Pk.next Pk.here))) (fun r => rowA_at i hi) ?_
  rintro ⟨bb, o, cap, rfl⟩
  have hn1 : ¬ (ms.length : Int) ≤ (i : Int) := by omega
  have hn2 : ¬ (512 : Int) ≤ ms.length := by omega
  have hx : X.flatten ++ (c ++ Y.flatten) = X.flatten ++ (c ++ Y.flatten) := rfl
  refine Trip.gh (l' := [cel b 42 [.slice (some ⟨bb, o, none⟩) ms.length cap, vi lost], rowA 30 39 (.slice (some ⟨bb, o, none⟩) ms.length cap) ms.length (X.flatten ++ (c ++ Y.flatten)), fz (fun g => RdMsg g c m), fz (fun g => RdRows g (X ++ c :: Y) ms)]) (Gh.tk (by repeat (first | exact Tk.nil | apply Tk.cons (by repeat (first | exact Pk.here | apply Pk.next))))) ?_
  refine Trip.of_body Try.func24 rfl Try.ntmps24 Try.results24 rfl ?_
  refine Wp.seq ?_
  refine Wp.region ?_
  refine WpL.step (Stp.rd (Rdo.assign rfl) rfl ?_)
  refine WpL.nil ?_
  refine Thn.n ?_
  refine Wp.seq ?_
  refine Wp.seq ?_
  refine Wp.region ?_
  refine WpL.step (Stp.rd (Rdo.move rfl) rfl ?_)
  refine WpL.step (Stp.rd (Rdo.lti rfl rfl) rfl ?_)
  refine WpL.step (Stp.rd (Rdo.move rfl) rfl ?_)
  refine WpL.want rfl rfl rfl (Stp.rd (Rdo.move rfl) rfl ?_)
  refine WpL.want rfl rfl rfl (Stp.rd (Rdo.move rfl) rfl ?_)
  refine WpL.want rfl rfl rfl (Stp.rd (Rdo.nilCheck rfl) rfl ?_)
  refine WpL.want rfl rfl rfl (Stp.rd (Rdo.fieldAddr0 rfl) rfl ?_)
  refine WpL.want rfl rfl rfl (Stp.rd (Rdo.load rfl (Lds.one rfl)) rfl ?_)
  refine WpL.want rfl rfl rfl (Stp.rd (Rdo.lenSlice rfl) rfl ?_)
  refine WpL.want rfl rfl rfl (Stp.rd (Rdo.gei rfl rfl) rfl ?_)
  refine WpL.step (Stp.rd (Rdo.pick_f rfl rfl) rfl ?_)
  refine WpL.step (Stp.rd (Rdo.move rfl) rfl ?_)
  refine WpL.gF rfl rfl (by first | rfl | assumption | (simp only [decide_eq_true_eq, decide_eq_false_iff_not, Bool.not_eq_true', Bool.not_eq_false', List.length_cons, List.length_nil]; first | assumption | omega) | (simp <;> done) | (simp <;> omega)) ?_
  refine WpL.want rfl rfl rfl (Stp.rd (Rdo.move rfl) rfl ?_)
  refine WpL.want rfl rfl rfl (Stp.rd (Rdo.nilCheck rfl) rfl ?_)
  refine WpL.want rfl rfl rfl (Stp.rd (Rdo.fieldAddr0 rfl) rfl ?_)
  refine WpL.want rfl rfl rfl (Stp.rd (Rdo.load rfl (Lds.one rfl)) rfl ?_)
  refine WpL.want rfl rfl rfl (Stp.rd (Rdo.lenSlice rfl) rfl ?_)
  refine WpL.want rfl rfl rfl (Stp.rd (Rdo.gei rfl rfl) rfl ?_)
  refine WpL.step (Stp.rd (Rdo.pick_f rfl rfl) rfl ?_)
  refine WpL.nil ?_
  refine Thn.n ?_
  refine Wp.condL rfl (by first | rfl | assumption | (simp only [decide_eq_true_eq, decide_eq_false_iff_not, Bool.not_eq_true', Bool.not_eq_false', List.length_cons, List.length_nil]; first | assumption | omega) | (simp <;> done) | (simp <;> omega)) ?_
  refine Wp.skip ?_
  refine Thn.n ?_
  refine Wp.seq ?_
  refine Wp.draw (by kernel_rfl) ?_
  refine WpR.take (i := 0) rfl (by kernel_rfl) (by kernel_rfl) (by kernel_rfl) (Rdo.move rfl) rfl ?_
  refine WpR.take (i := 1) rfl (by kernel_rfl) (by kernel_rfl) (by kernel_rfl) (Rdo.move rfl) rfl ?_
  refine WpR.take (i := 2) rfl (by kernel_rfl) (by kernel_rfl) (by kernel_rfl) (Rdo.nilCheck rfl) rfl ?_
  refine WpR.take (i := 3) rfl (by kernel_rfl) (by kernel_rfl) (by kernel_rfl) (Rdo.fieldAddr0 rfl) rfl ?_
  refine WpR.take (i := 5) rfl (by kernel_rfl) (by kernel_rfl) (by kernel_rfl) (Rdo.move rfl) rfl ?_
  refine WpR.take (i := 6) rfl (by kernel_rfl) (by kernel_rfl) (by kernel_rfl) (Rdo.nilCheck rfl) rfl ?_
  refine WpR.take (i := 7) rfl (by kernel_rfl) (by kernel_rfl) (by kernel_rfl) (Rdo.fieldAddr0 rfl) rfl ?_
  refine WpR.take (i := 9) rfl (by kernel_rfl) (by kernel_rfl) (by kernel_rfl) (Rdo.move rfl) rfl ?_
  refine WpR.load (i := 8) [4] rfl (by kernel_rfl) (by kernel_rfl) (by kernel_rfl) (by kernel_rfl) (by kernel_rfl) rfl Tk.rfl_ (Harm.rd rfl (Rdo.load rfl (Lds.one rfl)) Harm.nil) (Rdo.load rfl (Lds.one rfl)) rfl ?_
  refine WpR.take (i := 10) rfl (by kernel_rfl) (by kernel_rfl) (by kernel_rfl) (Rdo.indexSlice rfl rfl (by omega)) rfl ?_
  refine WpR.load (i := 11) [4] rfl (by kernel_rfl) (by kernel_rfl) (by kernel_rfl) (by kernel_rfl) (by kernel_rfl) rfl Tk.rfl_ (Harm.rd rfl (Rdo.load rfl (Lds.one rfl)) Harm.nil) (Rdo.load rfl (Lds.next (Lds.row (by assumption) (by first | assumption | omega | (simp <;> omega)) (by first | assumption | rfl)))) rfl ?_
  refine WpR.phaseL (m := 3) #[true, true, true, true, true, true, true, true, true, true, true, true, true, true, false, false, false] 3 _ rfl (by kernel_rfl) (Tk.cons Pk.here Tk.nil) ?_
  refine WpA.take (i := 4) rfl rfl (by kernel_rfl) (by kernel_rfl) (by kernel_rfl) (Rdo.load rfl (Lds.one rfl)) rfl ?_
  (refine WpA.one (i := 12) rfl (by kernel_rfl) (Stp.sliceV rfl rfl (VCs.cons (VC.ag _) (by first | rfl | assumption | (simp <;> done)) VCs.nil) (by simp only [List.cons_append, List.nil_append, List.append_nil]; exact rfl) rfl rfl ?_); intro nb48)
  (refine WpA.one (i := 13) rfl (by kernel_rfl) (Stp.appendP rfl rfl (Pk.next Pk.here) (Src.cel (by first | rfl | (simp <;> done) | (simp <;> omega))) (by first | rfl | (simp <;> done) | (simp <;> omega)) (by first | assumption | exact oneCells1 rfl | exact oneCells1 (by assumption) | exact oneCells_bytesC _ | exact oneCells_votesC _ | (simp [oneCells, Value.oneCell'] <;> done)) (by first | omega | (simp <;> omega)) (by first | omega | (simp <;> omega)) rfl (by first | rfl | (simp <;> done)) ?_); intro na49 nc49)
  refine WpA.stop (by kernel_rfl) ?_
  refine WpR.lst (by simp only [List.cons_append, List.nil_append]; exact rfl) ?_
  refine WpR.take (i := 14) rfl (by kernel_rfl) (by kernel_rfl) (by kernel_rfl) (Rdo.nilCheck rfl) rfl ?_
  refine WpR.take (i := 15) rfl (by kernel_rfl) (by kernel_rfl) (by kernel_rfl) (Rdo.fieldAddr0 rfl) rfl ?_
  refine WpR.one (i := 16) rfl (by kernel_rfl) (Stp.storeV rfl rfl (VC.sl _ _ _) rfl (Sts.lp (by repeat (first | exact LPut.nil _ | apply LPut.here | apply LPut.next)) (oneCells1 rfl)) ?_)
  refine WpR.done (by kernel_rfl) ?_
  refine Thn.n ?_
  refine Wp.seq ?_
  refine Wp.region ?_
  refine WpL.step (Stp.rd (Rdo.assign rfl) rfl ?_)
  refine WpL.nil ?_
  refine Thn.n ?_
  refine Wp.ret ?_
  refine Ret.now (ResV.tmp rfl ResV.nil) ?_ ⟨rfl, rfl⟩
  rw [← List.flatten_cons, ← List.flatten_append]
  refine Gh.trans (Gh.fzAnd (RdRows.mono _ _) (RdMsg.mono _ _) (by repeat (first | exact Pk.here | apply Pk.next)) (by repeat (first | exact Pk.here | apply Pk.next))) ?_
  refine Gh.trans (Gh.fzImp (Ψ := fun g => RdRows g ((X ++ c :: Y) ++ [c]) (ms ++ [m])) Pk.here fun g h => h.1.snoc hc h.2) ?_
  have hf : ((X ++ c :: Y) ++ [c]).flatten = (X ++ c :: Y).flatten ++ c := by simp
  have hn2' : (ms ++ [m]).length = ms.length + 1 := by simp
  rw [← hn2', ← hf]
  exact Gh.trans (Gh.shut (f := rbX b (ms ++ [m]) lost) (_, (X ++ c :: Y) ++ [c]) (Tk.cons (Pk.next Pk.here) (Tk.cons (Pk.next Pk.here) (Tk.cons Pk.here Tk.nil)))) (Gh.tk (by repeat (first | exact Tk.nil | apply Tk.cons (by repeat (first | exact Pk.here | apply Pk.next)))))
end Go.Proofs.Ytmeaekcengmfbaa
