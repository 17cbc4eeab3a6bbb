/- NetPlays, walked. -/
import Derived.Test.YtmeaekcengmfbaaPl3
namespace Go.Proofs.Ytmeaekcengmfbaa
open Go
set_option maxHeartbeats 4000000
set_option linter.unusedSimpArgs false
set_option linter.unusedVariables false
set_option maxRecDepth 20000

theorem GhE.get {p : HP} {l rest : List HP} {φ : Prop} (hp : Pk l p rest) (hφ : ∀ r, p r → φ) : GhE l (fun _ : Unit => φ) (fun _ => l) := GhE.mk fun F w hl => ⟨(), Holds.fact hφ ((Gh.front hp).use hl), hl⟩
abbrev ppE2 (b x j : Nat) : Env := [(2, vb false), (3, vp b 0), (4, vp x 0), (6, vi j)]
abbrev ppL2 (b x : Nat) (ms : List Msg) (lost : Int) (p : Option Addr) (c : Nat) (css : List (List Value)) (j : Nat) : List HP :=
  [bagA b (ms.drop j) lost, cel x 42 [.slice p ms.length c, vi lost], rowA 30 39 (.slice p ms.length c) ms.length css.flatten, fz (fun g => RdRows g css ms)]
abbrev ppE (v : Value) (b x i : Nat) : Env := [(0, v), (2, vb false), (3, vp b 0), (4, vp x 0), (5, vi i)]
theorem playsLaw_ok (v : Value) (acts : List Act) (hl : acts.length * 144 ≤ reachBytes) : Trip Try.prog 4 [v] [actsF v acts] (fun r l => r = vb true) := by
  have hR : reachBytes = 140737488351232 := by decide
  refine Trip.get Pk.here shape_rdsl ?_
  rintro ⟨a1, c1, rfl⟩
  have s0 : Trip Try.prog 14 [.slice a1 acts.length c1] [actsF (.slice a1 acts.length c1) acts] (fun r l => ∃ b : {b : Bool // b = false → OkTo acts 150}, r = vb b.1 ∧ l = [actsF (.slice a1 acts.length c1) acts]) := by
    refine Trip.mono (long_ok _ acts (by omega)) ?_
    rintro r l ⟨b, ⟨h1, h2⟩, h3⟩
    exact ⟨⟨b, h2⟩, h1, h3⟩
  refine Trip.of_body Try.func4 rfl Try.ntmps4 Try.results4 rfl ?_
  refine Wp.seq ?_
  refine Wp.region ?_
  refine WpL.step (Stp.rd (Rdo.assign rfl) rfl ?_)
  refine WpL.nil ?_
  refine Thn.n ?_
  refine Wp.seq ?_
  refine Wp.seq ?_
  refine Wp.region ?_
  refine WpL.step (Stp.rd (Rdo.move rfl) rfl ?_)
  refine WpL.step (Stp.call (s0) (by kernel_rfl) rfl (by repeat (first | exact Tk.nil | apply Tk.cons (by repeat (first | exact Pk.here | apply Pk.next)))) rfl ?_)
  rintro _ _ ⟨v10_0, ⟨rfl, rfl⟩⟩
  refine WpL.lst (by simp only [List.cons_append, List.nil_append]; exact rfl) ?_
  refine WpL.nil ?_
  refine Thn.n ?_
  refine Wp.cond rfl (fun c14 => ?_) (fun c14 => ?_)
  refine Wp.seq ?_
  refine Wp.region ?_
  refine WpL.step (Stp.rd (Rdo.assign rfl) rfl ?_)
  refine WpL.nil ?_
  refine Thn.n ?_
  refine Wp.ret ?_
  refine Thn.r ?_
  refine Ret.now (ResV.tmp rfl ResV.nil) (Gh.tk (by repeat (first | exact Tk.nil | apply Tk.cons (by repeat (first | exact Pk.here | apply Pk.next))))) rfl
  refine Wp.skip ?_
  refine Thn.n ?_
  refine Wp.seq ?_
  refine Wp.region ?_
  refine WpL.step (Stp.call (netNew_ok) (by kernel_rfl) rfl (by repeat (first | exact Tk.nil | apply Tk.cons (by repeat (first | exact Pk.here | apply Pk.next)))) rfl ?_)
  rintro _ _ ⟨v28_0, ⟨rfl, rfl⟩⟩
  refine WpL.lst (by simp only [List.cons_append, List.nil_append]; exact rfl) ?_
  refine WpL.step (Stp.rd (Rdo.bld rfl (BldL.nil _)) rfl ?_)
  (refine WpL.step (Stp.boxV rfl (VC.ag _) rfl ?_); intro nb31)
  refine WpL.step (Stp.rd (Rdo.assign rfl) rfl ?_)
  refine WpL.step (Stp.rd (Rdo.assign rfl) rfl ?_)
  refine WpL.nil ?_
  refine Thn.n ?_
  refine Wp.seq ?_
  refine Wp.seq ?_
  refine Wp.region ?_
  refine WpL.step (Stp.rd (Rdo.move rfl) rfl ?_)
  refine WpL.step (Stp.rd (Rdo.eqnil rfl rfl) rfl ?_)
  refine WpL.nil ?_
  refine Thn.n ?_
  refine Wp.condF rfl ?_
  refine Wp.skip ?_
  refine Thn.n ?_
  refine Wp.seq ?_
  refine Wp.seq ?_
  refine Wp.region ?_
  refine WpL.step (Stp.rd (Rdo.assign rfl) rfl ?_)
  refine WpL.nil ?_
  refine Thn.n ?_
  refine Wp.block ?_
  obtain ⟨bN, hbN⟩ : ∃ n, n = v28_0 := ⟨_, rfl⟩
  subst hbN
  have hto : OkTo acts 150 := v10_0.2 c14
  have hrb : Gh [cel nb31 42 [.slice none 0 0, vi 0], bagA bN [] 0, actsF (.slice a1 acts.length c1) acts] [bagA bN [] 0, rbA nb31 [] 0, actsF (.slice a1 acts.length c1) acts] := by
    refine Gh.trans (Gh.nil 30 39) ?_
    refine Gh.trans (Gh.fzTrue (Φ := fun g => RdRows g [] []) fun g => ⟨by simp, .nil⟩) ?_
    have g := rbA_shut (b := nb31) (ms := []) (lost := 0) (l := [bagA bN [] 0, actsF (.slice a1 acts.length c1) acts]) (.slice none 0 0) []
    exact Gh.trans (Gh.tk (by repeat (first | exact Tk.nil | apply Tk.cons (by repeat (first | exact Pk.here | apply Pk.next))))) (Gh.trans g (Gh.tk (by repeat (first | exact Tk.nil | apply Tk.cons (by repeat (first | exact Pk.here | apply Pk.next))))))
  refine Wp.gh hrb ?_
  refine Wp.loopE (fun k e h => ∃ (i : Nat) (z : List Msg × Int), i + k = acts.length ∧ i ≤ 150 ∧ BagOk z.1 z.2 (256 * i) ∧ e = ppE (.slice a1 acts.length c1) bN nb31 i ∧ h = [bagA bN z.1 z.2, rbA nb31 z.1 z.2, actsF (.slice a1 acts.length c1) acts]) acts.length
    (e0 := ppE (.slice a1 acts.length c1) bN nb31 0) (l0 := [bagA bN [] 0, rbA nb31 [] 0, actsF (.slice a1 acts.length c1) acts]) (by repeat (first | exact trivial | refine ⟨rfl, ?_⟩)) (by repeat (first | exact trivial | refine ⟨rfl, ?_⟩)) (Gh.tk (by repeat (first | exact Tk.nil | apply Tk.cons (by repeat (first | exact Pk.here | apply Pk.next))))) ⟨0, ([], 0), by simp, by omega, ⟨by simp, by simp, by simp, by simp⟩, rfl, rfl⟩ ?_
  rintro k e h ⟨i, ⟨ms, lost⟩, hik, h150, hB, rfl, rfl⟩
  simp only at hB ⊢
  have hstop : i < acts.length ∧ i < 150 ∨ ¬ (i < acts.length ∧ i < 150) := Classical.em _
  rcases hstop with ⟨hi, h80⟩ | hstop
  · have hi' : (i : Int) < acts.length := by omega
    have h80' : (i : Int) < 150 := by omega
    refine Wp.ghE (GhE.elem (R := RAct) (Pk.next (Pk.next Pk.here)) i hi) ?_
    rintro ⟨bb, o, cap, cs⟩ ⟨hv, hcs⟩
    simp only [Value.slice.injEq, true_and] at hv
    obtain ⟨rfl, rfl⟩ := hv
    simp only
    refine Wp.gh (Gh.front (Pk.next Pk.here)) (Wp.ghE GhE.act ?_)
    rintro y rfl
    have hok : okMsg acts[i].m := hto i acts[i] h80 (List.getElem?_eq_getElem hi)
    generalize acts[i] = a at hok
    have hlenA : (actC a y).length = 42 := actC_len a y
    have s3 : Trip Try.prog 15 [vp bN 0, vp nb31 0, .agg (actC a y).toArray] [bagA bN ms lost, rbA nb31 ms lost, fz (fun g => RdMsg g (msgCs a.m y) a.m)] (fun r l => ∃ z : {z : List Msg × Int // BagOk z.1 z.2 (256 * (i + 1 : Nat))}, r = vb true ∧ l = [bagA bN z.1.1 z.1.2, rbA nb31 z.1.1 z.1.2]) := by
      refine Trip.mono (act_ok bN nb31 ms lost (256 * i) a y hB (by omega) hok) ?_
      rintro r l ⟨z, ⟨h1, h2⟩, h3⟩
      exact ⟨⟨z, by rw [show (256 * (i + 1 : Nat) : Int) = 256 * i + 256 by omega]; exact h2⟩, h1, h3⟩
    refine Wp.seq ?_
    refine Wp.seq ?_
    refine Wp.region ?_
    refine WpL.step (Stp.rd (Rdo.move rfl) rfl ?_)
    refine WpL.step (Stp.rd (Rdo.move rfl) rfl ?_)
    refine WpL.step (Stp.rd (Rdo.lenSlice rfl) rfl ?_)
    refine WpL.step (Stp.rd (Rdo.lti rfl rfl) rfl ?_)
    refine WpL.step (Stp.rd (Rdo.move rfl) rfl ?_)
    refine WpL.gT rfl rfl (by first | rfl | assumption | (simp only [decide_eq_true_eq, decide_eq_false_iff_not, Bool.not_eq_true', Bool.not_eq_false', List.length_cons, List.length_nil]; first | assumption | omega) | (simp <;> done) | (simp <;> omega)) ?_
    refine WpL.want rfl rfl rfl (Stp.rd (Rdo.move rfl) rfl ?_)
    refine WpL.want rfl rfl rfl (Stp.rd (Rdo.lti rfl rfl) rfl ?_)
    refine WpL.step (Stp.rd (Rdo.pick_t rfl rfl) rfl ?_)
    refine WpL.nil ?_
    refine Thn.n ?_
    refine Wp.condK rfl (by first | rfl | assumption | (simp only [decide_eq_true_eq, decide_eq_false_iff_not, Bool.not_eq_true', Bool.not_eq_false', List.length_cons, List.length_nil]; first | assumption | omega) | (simp <;> done) | (simp <;> omega)) ?_
    refine Wp.skip ?_
    refine Thn.n ?_
    refine Wp.seq ?_
    refine Wp.block ?_
    refine Wp.seq ?_
    refine Wp.draw (by kernel_rfl) ?_
    refine WpR.take (i := 0) rfl (by kernel_rfl) (by kernel_rfl) (by kernel_rfl) (Rdo.move rfl) rfl ?_
    refine WpR.take (i := 1) rfl (by kernel_rfl) (by kernel_rfl) (by kernel_rfl) (Rdo.move rfl) rfl ?_
    refine WpR.take (i := 2) rfl (by kernel_rfl) (by kernel_rfl) (by kernel_rfl) (Rdo.move rfl) rfl ?_
    refine WpR.take (i := 3) rfl (by kernel_rfl) (by kernel_rfl) (by kernel_rfl) (Rdo.move rfl) rfl ?_
    refine WpR.take (i := 4) rfl (by kernel_rfl) (by kernel_rfl) (by kernel_rfl) (Rdo.indexSlice rfl rfl (by omega)) rfl ?_
    refine WpR.one (i := 5) rfl (by kernel_rfl) (Stp.rd (Rdo.load rfl (Lds.next (by apply Lds.iall; (first | rfl | assumption | (simp <;> fail))))) rfl ?_)
    refine WpR.one (i := 6) rfl (by kernel_rfl) (Stp.call (s3) (by kernel_rfl) rfl (by repeat (first | exact Tk.nil | apply Tk.cons (by repeat (first | exact Pk.here | apply Pk.next)))) rfl ?_)
    rintro _ _ ⟨v28_0, ⟨rfl, rfl⟩⟩
    refine WpR.lst (by simp only [List.cons_append, List.nil_append]; exact rfl) ?_
    refine WpR.take (i := 7) rfl (by kernel_rfl) (by kernel_rfl) (by kernel_rfl) (Rdo.not rfl) rfl ?_
    refine WpR.take (i := 8) rfl (by kernel_rfl) (by kernel_rfl) (by kernel_rfl) (Rdo.move rfl) rfl ?_
    refine WpR.want (i := 9) rfl rfl rfl rfl (by kernel_rfl) (by kernel_rfl) (by kernel_rfl) (Rdo.move rfl) rfl ?_
    refine WpR.want (i := 11) rfl rfl rfl rfl (by kernel_rfl) (by kernel_rfl) (by kernel_rfl) (Rdo.move rfl) rfl ?_
    refine WpR.want (i := 12) rfl rfl rfl rfl (by kernel_rfl) (by kernel_rfl) (by kernel_rfl) (Rdo.nilCheck rfl) rfl ?_
    refine WpR.want (i := 13) rfl rfl rfl rfl (by kernel_rfl) (by kernel_rfl) (by kernel_rfl) (Rdo.fieldAddr0 rfl) rfl ?_
    refine WpR.ghE (rbA_open (by repeat (first | exact Pk.here | apply Pk.next))) ?_
    rintro ⟨v, css⟩ -
    simp only [rbX, List.cons_append, List.nil_append]
    refine WpR.ghE (GhE.get (Pk.next Pk.here) (fun r => rowA_shape)) ?_
    rintro - ⟨p, c, rfl⟩
    refine WpR.phaseL (m := 0) #[true, true, true, true, true, true, true, true, true, true, true, true, true, true, true, true, true, true, true, true, true, true, true, true, true, true, true] 14 _ rfl (by kernel_rfl) (Tk.cons Pk.here Tk.nil) ?_
    refine WpA.want (i := 14) rfl rfl rfl rfl rfl (by kernel_rfl) (by kernel_rfl) (by kernel_rfl) (Rdo.load rfl (Lds.one rfl)) rfl ?_
    refine WpA.want (i := 15) rfl rfl rfl rfl rfl (by kernel_rfl) (by kernel_rfl) (by kernel_rfl) (Rdo.lenSlice rfl) rfl ?_
    refine WpA.oneG (i := 10) rfl rfl rfl rfl (by kernel_rfl) (Stp.call (netLen_ok _ _ _) (by kernel_rfl) rfl (by repeat (first | exact Tk.nil | apply Tk.cons (by repeat (first | exact Pk.here | apply Pk.next)))) rfl ?_)
    rintro _ _ ⟨rfl, rfl⟩
    refine WpA.lst (by simp only [List.cons_append, List.nil_append]; exact rfl) ?_
    refine WpA.want (i := 16) rfl rfl rfl rfl rfl (by kernel_rfl) (by kernel_rfl) (by kernel_rfl) (Rdo.nei rfl rfl) rfl ?_
    refine WpA.take (i := 17) rfl rfl (by kernel_rfl) (by kernel_rfl) (by kernel_rfl) (Rdo.pick_f rfl rfl) rfl ?_
    refine WpA.take (i := 18) rfl rfl (by kernel_rfl) (by kernel_rfl) (by kernel_rfl) (Rdo.move rfl) rfl ?_
    refine WpA.tF 44 rfl (by first | rfl | assumption | (simp only [decide_eq_true_eq, decide_eq_false_iff_not, Bool.not_eq_true', Bool.not_eq_false', List.length_cons, List.length_nil]; first | assumption | omega) | (simp <;> done) | (simp <;> omega)) ?_
    refine WpA.want (i := 19) rfl rfl rfl rfl rfl (by kernel_rfl) (by kernel_rfl) (by kernel_rfl) (Rdo.move rfl) rfl ?_
    refine WpA.want (i := 21) rfl rfl rfl rfl rfl (by kernel_rfl) (by kernel_rfl) (by kernel_rfl) (Rdo.move rfl) rfl ?_
    refine WpA.want (i := 22) rfl rfl rfl rfl rfl (by kernel_rfl) (by kernel_rfl) (by kernel_rfl) (Rdo.nilCheck rfl) rfl ?_
    refine WpA.want (i := 23) rfl rfl rfl rfl rfl (by kernel_rfl) (by kernel_rfl) (by kernel_rfl) (Rdo.fieldAddr0 rfl) rfl ?_
    refine WpA.want (i := 24) rfl rfl rfl rfl rfl (by kernel_rfl) (by kernel_rfl) (by kernel_rfl) (Rdo.load rfl (Lds.one rfl)) rfl ?_
    refine WpA.oneG (i := 20) rfl rfl rfl rfl (by kernel_rfl) (Stp.call (netLost_ok _ _ _) (by kernel_rfl) rfl (by repeat (first | exact Tk.nil | apply Tk.cons (by repeat (first | exact Pk.here | apply Pk.next)))) rfl ?_)
    rintro _ _ ⟨rfl, rfl⟩
    refine WpA.lst (by simp only [List.cons_append, List.nil_append]; exact rfl) ?_
    refine WpA.want (i := 25) rfl rfl rfl rfl rfl (by kernel_rfl) (by kernel_rfl) (by kernel_rfl) (Rdo.nei rfl rfl) rfl ?_
    refine WpA.take (i := 26) rfl rfl (by kernel_rfl) (by kernel_rfl) (by kernel_rfl) (Rdo.pick_f rfl rfl) rfl ?_
    refine WpA.stop (by kernel_rfl) ?_
    refine WpR.lst (by simp only [List.cons_append, List.nil_append]; exact rfl) ?_
    refine WpR.done (by kernel_rfl) ?_
    refine Thn.n ?_
    refine Wp.condL rfl (by first | rfl | assumption | (simp only [decide_eq_true_eq, decide_eq_false_iff_not, Bool.not_eq_true', Bool.not_eq_false', List.length_cons, List.length_nil]; first | assumption | omega) | (simp <;> done) | (simp <;> omega)) ?_
    refine Wp.skip ?_
    refine Blk.n ?_
    refine Thn.n ?_
    refine Wp.region ?_
    refine WpL.step (Stp.rd (Rdo.move rfl) rfl ?_)
    refine WpL.step (Stp.rd (Rdo.succ rfl rfl (by omega)) rfl ?_)
    refine WpL.step (Stp.rd (Rdo.assign rfl) rfl ?_)
    refine WpL.nil ?_
    refine Thn.n ?_
    refine ⟨k - 1, _, _, by omega, ⟨i + 1, v28_0.1, by omega, by omega, v28_0.2, rfl, rfl⟩, (by repeat (first | exact trivial | refine ⟨rfl, ?_⟩)), ?_⟩
    have g := rbA_shut (b := nb31) (ms := v28_0.1.1) (lost := v28_0.1.2) (l := [bagA bN v28_0.1.1 v28_0.1.2, actsF (.slice (some ⟨bb, o, none⟩) acts.length c1) acts]) (.slice p v28_0.1.1.length c) css
    exact Gh.trans (Gh.tk (by repeat (first | exact Tk.nil | apply Tk.cons (by repeat (first | exact Pk.here | apply Pk.next))))) (Gh.trans g (Gh.tk (by repeat (first | exact Tk.nil | apply Tk.cons (by repeat (first | exact Pk.here | apply Pk.next))))))
  · have hx : ¬ (i : Int) < acts.length ∨ (i : Int) < acts.length ∧ ¬ (i : Int) < 150 := by omega
    rcases hx with hx | ⟨hx, hx2⟩
    · refine Wp.ghE (rbA_open (by repeat (first | exact Pk.here | apply Pk.next))) ?_
      rintro ⟨v, css⟩ -
      simp only [rbX, List.cons_append, List.nil_append]
      refine Wp.get (Pk.next Pk.here) (fun r => rowA_shape) ?_
      rintro ⟨p, c, rfl⟩
      refine Wp.seq ?_
      refine Wp.seq ?_
      refine Wp.region ?_
      refine WpL.step (Stp.rd (Rdo.move rfl) rfl ?_)
      refine WpL.step (Stp.rd (Rdo.move rfl) rfl ?_)
      refine WpL.step (Stp.rd (Rdo.lenSlice rfl) rfl ?_)
      refine WpL.step (Stp.rd (Rdo.lti rfl rfl) rfl ?_)
      refine WpL.step (Stp.rd (Rdo.move rfl) rfl ?_)
      refine WpL.gF rfl rfl (by first | rfl | assumption | (simp only [decide_eq_true_eq, decide_eq_false_iff_not, Bool.not_eq_true', Bool.not_eq_false', List.length_cons, List.length_nil]; first | assumption | omega) | (simp <;> done) | (simp <;> omega)) ?_
      refine WpL.pass rfl rfl rfl rfl ?_
      refine WpL.pass rfl rfl rfl rfl ?_
      refine WpL.step (Stp.rd (Rdo.pick_f rfl rfl) rfl ?_)
      refine WpL.nil ?_
      refine Thn.n ?_
      refine Wp.condF rfl ?_
      refine Wp.exit ?_
      refine Thn.x ?_
      refine Thn.x ?_
      refine Blk.here ?_
      refine Thn.n ?_
      refine Wp.seq ?_
      refine Wp.seq ?_
      refine Wp.region ?_
      refine WpL.step (Stp.rd (Rdo.assign rfl) rfl ?_)
      refine WpL.nil ?_
      refine Thn.n ?_
      refine Wp.block ?_
      refine Wp.loopE (fun k e h => ∃ j : Nat, j + k = ms.length ∧ e = ppE2 bN nb31 j ∧ h = ppL2 bN nb31 ms lost p c css j) ms.length
        (e0 := ppE2 bN nb31 0) (l0 := ppL2 bN nb31 ms lost p c css 0) (by repeat (first | exact trivial | refine ⟨rfl, ?_⟩)) (by repeat (first | exact trivial | refine ⟨rfl, ?_⟩)) (Gh.tk (by repeat (first | exact Tk.nil | apply Tk.cons (by repeat (first | exact Pk.here | apply Pk.next))))) ⟨0, by omega, rfl, rfl⟩ ?_
      rintro k e h ⟨j, hjk, rfl, rfl⟩
      by_cases hj : j < ms.length
      · have hj' : (j : Int) < ms.length := by omega
        have h512 : ms.length ≤ 512 := hB.1
        have hmj : ms[j]? = some ms[j] := List.getElem?_eq_getElem hj
        have hokm : okMsg ms[j] := hB.2.1 _ (List.getElem_mem hj)
        have s1 : Trip Try.prog 17 [vp bN 0, vi 0] [bagA bN (ms.drop j) lost] (fun r l => ∃ x, r = .tuple #[.agg (msgCs ms[j] x).toArray, vb true] ∧ l = [bagA bN (ms.drop (j + 1)) lost, fz (fun g => RdMsg g (msgCs ms[j] x) ms[j])]) := by
          have h := netPull_in bN (ms.drop j) lost 0 ms[j] (by simp [hmj]) (by have := hB.1; simp; omega)
          rwa [show (ms.drop j).eraseIdx 0 = ms.drop (j + 1) by rw [List.drop_eq_getElem_cons hj]; rfl] at h
        have s3 := fun x y => same1_ok ms[j] x y hokm
        refine Wp.ghE (GhE.rowsElem (Pk.next (Pk.next (Pk.next Pk.here))) j hj) ?_
        rintro ⟨X, cc, Y⟩ ⟨hcss, hX, hXl, hc⟩
        simp only at hX hXl hc hcss ⊢
        refine Wp.get Pk.here len_msg ?_
        rintro ⟨_, hone⟩
        have hXf : X.flatten.length = j * 39 := by rw [flat_len hXl, hX]
        have hx : css.flatten = X.flatten ++ (cc ++ Y.flatten) := by rw [hcss]; simp
        refine Wp.gh (Gh.fzAlso (Ψ := fun g => RdMsg g cc ms[j]) Pk.here fun g h => h) ?_
        refine Wp.ghE (GhE.msg Pk.here) ?_
        rintro ⟨⟨a0, c0⟩, ⟨a', c'⟩⟩ rfl
        refine Wp.get (by repeat (first | exact Pk.here | apply Pk.next)) (fun r => rowA_at j hj) ?_
        rintro ⟨bb, o, cap, hpv⟩
        simp only [Value.slice.injEq, true_and] at hpv
        obtain ⟨rfl, rfl⟩ := hpv
        refine Wp.seq ?_
        refine Wp.seq ?_
        refine Wp.region ?_
        refine WpL.step (Stp.rd (Rdo.move rfl) rfl ?_)
        refine WpL.step (Stp.rd (Rdo.move rfl) rfl ?_)
        refine WpL.step (Stp.rd (Rdo.nilCheck rfl) rfl ?_)
        refine WpL.step (Stp.rd (Rdo.fieldAddr0 rfl) rfl ?_)
        refine WpL.step (Stp.rd (Rdo.load rfl (Lds.next (Lds.next (Lds.next (Lds.next (Lds.next (Lds.one rfl))))))) rfl ?_)
        refine WpL.step (Stp.rd (Rdo.lenSlice rfl) rfl ?_)
        refine WpL.step (Stp.rd (Rdo.lti rfl rfl) rfl ?_)
        refine WpL.nil ?_
        refine Thn.n ?_
        refine Wp.condK rfl (by first | rfl | assumption | (simp only [decide_eq_true_eq, decide_eq_false_iff_not, Bool.not_eq_true', Bool.not_eq_false', List.length_cons, List.length_nil]; first | assumption | omega) | (simp <;> done) | (simp <;> omega)) ?_
        refine Wp.skip ?_
        refine Thn.n ?_
        refine Wp.seq ?_
        refine Wp.block ?_
        refine Wp.seq ?_
        refine Wp.region ?_
        refine WpL.step (Stp.rd (Rdo.move rfl) rfl ?_)
        refine WpL.step (Stp.call (s1) (by kernel_rfl) rfl (by repeat (first | exact Tk.nil | apply Tk.cons (by repeat (first | exact Pk.here | apply Pk.next)))) rfl ?_)
        rintro _ _ ⟨v21_0, ⟨rfl, rfl⟩⟩
        refine WpL.lst (by simp only [List.cons_append, List.nil_append]; exact rfl) ?_
        refine WpL.step (Stp.rd (Rdo.move rfl) rfl ?_)
        refine WpL.step (Stp.rd (Rdo.extract rfl rfl) rfl ?_)
        refine WpL.step (Stp.rd (Rdo.extract rfl rfl) rfl ?_)
        (refine WpL.step (Stp.alloc rfl ?_); intro nb26)
        refine WpL.step (Stp.storeV rfl rfl (VC.ag _) (by first | rfl | assumption | (simp <;> done)) (by repeat (first | (apply Sts.all; (focus (first | rfl | assumption | (simp <;> done))); (focus (first | exact oneCells1 rfl | assumption | exact oneCells1 (by assumption) | ((repeat (first | assumption | exact oneCells_nil | exact oneCells_bytesC _ | (apply oneCells_cons; (focus (first | rfl | assumption))) | apply oneCells_append)); done) | (simp [oneCells, Value.oneCell'] <;> done)))) | (apply Sts.lp (by repeat (first | exact LPut.nil _ | apply LPut.here | apply LPut.next)); (focus (first | exact oneCells1 rfl | assumption | exact oneCells1 (by assumption) | ((repeat (first | assumption | exact oneCells_nil | exact oneCells_bytesC _ | (apply oneCells_cons; (focus (first | rfl | assumption))) | apply oneCells_append)); done) | (simp [oneCells, Value.oneCell'] <;> done)))) | (refine Sts.row1 (by first | assumption | omega | (simp <;> omega)) (by first | rfl | assumption)) | (refine Sts.rowP (by assumption) (by first | rfl | assumption | (simp <;> done)) (by rfl) (by (first | exact oneCells1 rfl | assumption | exact oneCells1 (by assumption) | ((repeat (first | assumption | exact oneCells_nil | exact oneCells_bytesC _ | (apply oneCells_cons; (focus (first | rfl | assumption))) | apply oneCells_append)); done) | (simp [oneCells, Value.oneCell'] <;> done)))) | apply Sts.next)) ?_)
        refine WpL.step (Stp.rd (Rdo.assign rfl) rfl ?_)
        refine WpL.nil ?_
        refine Thn.n ?_
        refine Wp.seq ?_
        refine Wp.draw (by kernel_rfl) ?_
        refine WpR.take (i := 0) rfl (by kernel_rfl) (by kernel_rfl) (by kernel_rfl) (Rdo.move rfl) rfl ?_
        refine WpR.take (i := 1) rfl (by kernel_rfl) (by kernel_rfl) (by kernel_rfl) (Rdo.not rfl) rfl ?_
        refine WpR.take (i := 2) rfl (by kernel_rfl) (by kernel_rfl) (by kernel_rfl) (Rdo.move rfl) rfl ?_
        refine WpR.want (i := 4) rfl rfl rfl rfl (by kernel_rfl) (by kernel_rfl) (by kernel_rfl) (Rdo.move rfl) rfl ?_
        refine WpR.want (i := 5) rfl rfl rfl rfl (by kernel_rfl) (by kernel_rfl) (by kernel_rfl) (Rdo.nilCheck rfl) rfl ?_
        refine WpR.want (i := 6) rfl rfl rfl rfl (by kernel_rfl) (by kernel_rfl) (by kernel_rfl) (Rdo.fieldAddr0 rfl) rfl ?_
        refine WpR.want (i := 8) rfl rfl rfl rfl (by kernel_rfl) (by kernel_rfl) (by kernel_rfl) (Rdo.move rfl) rfl ?_
        refine WpR.phaseL (m := 0) #[true, true, true, true, true, true, true, true, true, true, true, true, true, true] 7 _ rfl (by kernel_rfl) (Tk.cons Pk.here (Tk.cons (Pk.next (Pk.next (Pk.next (Pk.next (Pk.next (Pk.next Pk.here)))))) (Tk.cons (Pk.next (Pk.next (Pk.next (Pk.next (Pk.next (Pk.next Pk.here)))))) Tk.nil))) ?_
        refine WpA.want (i := 3) rfl rfl rfl rfl rfl (by kernel_rfl) (by kernel_rfl) (by kernel_rfl) (Rdo.load rfl (by apply Lds.all; (first | rfl | assumption | (simp <;> fail)))) rfl ?_
        refine WpA.want (i := 7) rfl rfl rfl rfl rfl (by kernel_rfl) (by kernel_rfl) (by kernel_rfl) (Rdo.load rfl (Lds.next (Lds.one rfl))) rfl ?_
        refine WpA.want (i := 9) rfl rfl rfl rfl rfl (by kernel_rfl) (by kernel_rfl) (by kernel_rfl) (Rdo.indexSlice rfl rfl (by omega)) rfl ?_
        refine WpA.want (i := 10) rfl rfl rfl rfl rfl (by kernel_rfl) (by kernel_rfl) (by kernel_rfl) (Rdo.load rfl (Lds.next (Lds.next (Lds.row (by assumption) (by first | assumption | omega | (simp <;> omega)) (by first | assumption | rfl))))) rfl ?_
        refine WpA.oneG (i := 11) rfl rfl rfl rfl (by kernel_rfl) (Stp.call (s3 _ _) (by kernel_rfl) rfl (by repeat (first | exact Tk.nil | apply Tk.cons (by repeat (first | exact Pk.here | apply Pk.next)))) rfl ?_)
        rintro _ _ ⟨rfl, rfl⟩
        refine WpA.lst (by simp only [List.cons_append, List.nil_append]; exact rfl) ?_
        refine WpA.want (i := 12) rfl rfl rfl rfl rfl (by kernel_rfl) (by kernel_rfl) (by kernel_rfl) (Rdo.not rfl) rfl ?_
        refine WpA.take (i := 13) rfl rfl (by kernel_rfl) (by kernel_rfl) (by kernel_rfl) (Rdo.pick_f rfl rfl) rfl ?_
        refine WpA.stop (by kernel_rfl) ?_
        refine WpR.lst (by simp only [List.cons_append, List.nil_append]; exact rfl) ?_
        refine WpR.done (by kernel_rfl) ?_
        refine Thn.n ?_
        refine Wp.condF rfl ?_
        refine Wp.skip ?_
        refine Blk.n ?_
        refine Thn.n ?_
        refine Wp.region ?_
        refine WpL.step (Stp.rd (Rdo.move rfl) rfl ?_)
        refine WpL.step (Stp.rd (Rdo.succ rfl rfl (by omega)) rfl ?_)
        refine WpL.step (Stp.rd (Rdo.assign rfl) rfl ?_)
        refine WpL.nil ?_
        refine Thn.n ?_
        exact ⟨k - 1, _, _, by omega, ⟨j + 1, by omega, rfl, rfl⟩, (by repeat (first | exact trivial | refine ⟨rfl, ?_⟩)), Gh.tk (by repeat (first | exact Tk.nil | apply Tk.cons (by repeat (first | exact Pk.here | apply Pk.next))))⟩
      · have hj' : j = ms.length := by omega
        subst hj'
        have hnil : ms.drop ms.length = [] := by simp
        have s9 := known_ok
        rw [show ppL2 bN nb31 ms lost p c css ms.length = [bagA bN [] lost, cel nb31 42 [.slice p ms.length c, vi lost], rowA 30 39 (.slice p ms.length c) ms.length css.flatten, fz (fun g => RdRows g css ms)] by simp [ppL2]]
        refine Wp.seq ?_
        refine Wp.seq ?_
        refine Wp.region ?_
        refine WpL.step (Stp.rd (Rdo.move rfl) rfl ?_)
        refine WpL.step (Stp.rd (Rdo.move rfl) rfl ?_)
        refine WpL.step (Stp.rd (Rdo.nilCheck rfl) rfl ?_)
        refine WpL.step (Stp.rd (Rdo.fieldAddr0 rfl) rfl ?_)
        refine WpL.step (Stp.rd (Rdo.load rfl (Lds.next (Lds.one rfl))) rfl ?_)
        refine WpL.step (Stp.rd (Rdo.lenSlice rfl) rfl ?_)
        refine WpL.step (Stp.rd (Rdo.lti rfl rfl) rfl ?_)
        refine WpL.nil ?_
        refine Thn.n ?_
        refine Wp.condL rfl (by first | rfl | assumption | (simp only [decide_eq_true_eq, decide_eq_false_iff_not, Bool.not_eq_true', Bool.not_eq_false', List.length_cons, List.length_nil]; first | assumption | omega) | (simp <;> done) | (simp <;> omega)) ?_
        refine Wp.exit ?_
        refine Thn.x ?_
        refine Thn.x ?_
        refine Blk.here ?_
        refine Thn.n ?_
        refine Wp.seq ?_
        refine Wp.region ?_
        refine WpL.step (Stp.rd (Rdo.move rfl) rfl ?_)
        refine WpL.step (Stp.call (netLen_ok _ _ _) (by kernel_rfl) rfl (by repeat (first | exact Tk.nil | apply Tk.cons (by repeat (first | exact Pk.here | apply Pk.next)))) rfl ?_)
        rintro _ _ ⟨rfl, rfl⟩
        refine WpL.lst (by simp only [List.cons_append, List.nil_append]; exact rfl) ?_
        refine WpL.step (Stp.rd (Rdo.eqi rfl rfl) rfl ?_)
        refine WpL.step (Stp.rd (Rdo.move rfl) rfl ?_)
        refine WpL.want rfl rfl rfl (Stp.call (s9) (by kernel_rfl) rfl (by repeat (first | exact Tk.nil | apply Tk.cons (by repeat (first | exact Pk.here | apply Pk.next)))) rfl ?_)
        rintro _ _ rfl
        refine WpL.step (Stp.rd (Rdo.pick_t rfl rfl) rfl ?_)
        refine WpL.step (Stp.rd (Rdo.assign rfl) rfl ?_)
        refine WpL.nil ?_
        refine Thn.n ?_
        refine Wp.ret ?_
        refine Ret.now (ResV.tmp rfl ResV.nil) (Gh.tk (by repeat (first | exact Tk.nil | apply Tk.cons (by repeat (first | exact Pk.here | apply Pk.next))))) rfl
    · refine Wp.ghE (rbA_open (by repeat (first | exact Pk.here | apply Pk.next))) ?_
      rintro ⟨v, css⟩ -
      simp only [rbX, List.cons_append, List.nil_append]
      refine Wp.get (Pk.next Pk.here) (fun r => rowA_shape) ?_
      rintro ⟨p, c, rfl⟩
      refine Wp.seq ?_
      refine Wp.seq ?_
      refine Wp.region ?_
      refine WpL.step (Stp.rd (Rdo.move rfl) rfl ?_)
      refine WpL.step (Stp.rd (Rdo.move rfl) rfl ?_)
      refine WpL.step (Stp.rd (Rdo.lenSlice rfl) rfl ?_)
      refine WpL.step (Stp.rd (Rdo.lti rfl rfl) rfl ?_)
      refine WpL.step (Stp.rd (Rdo.move rfl) rfl ?_)
      refine WpL.gT rfl rfl (by first | rfl | assumption | (simp only [decide_eq_true_eq, decide_eq_false_iff_not, Bool.not_eq_true', Bool.not_eq_false', List.length_cons, List.length_nil]; first | assumption | omega) | (simp <;> done) | (simp <;> omega)) ?_
      refine WpL.want rfl rfl rfl (Stp.rd (Rdo.move rfl) rfl ?_)
      refine WpL.want rfl rfl rfl (Stp.rd (Rdo.lti rfl rfl) rfl ?_)
      refine WpL.step (Stp.rd (Rdo.pick_t rfl rfl) rfl ?_)
      refine WpL.nil ?_
      refine Thn.n ?_
      refine Wp.condL rfl (by first | rfl | assumption | (simp only [decide_eq_true_eq, decide_eq_false_iff_not, Bool.not_eq_true', Bool.not_eq_false', List.length_cons, List.length_nil]; first | assumption | omega) | (simp <;> done) | (simp <;> omega)) ?_
      refine Wp.exit ?_
      refine Thn.x ?_
      refine Thn.x ?_
      refine Blk.here ?_
      refine Thn.n ?_
      refine Wp.seq ?_
      refine Wp.seq ?_
      refine Wp.region ?_
      refine WpL.step (Stp.rd (Rdo.assign rfl) rfl ?_)
      refine WpL.nil ?_
      refine Thn.n ?_
      refine Wp.block ?_
      refine Wp.loopE (fun k e h => ∃ j : Nat, j + k = ms.length ∧ e = ppE2 bN nb31 j ∧ h = ppL2 bN nb31 ms lost p c css j) ms.length
        (e0 := ppE2 bN nb31 0) (l0 := ppL2 bN nb31 ms lost p c css 0) (by repeat (first | exact trivial | refine ⟨rfl, ?_⟩)) (by repeat (first | exact trivial | refine ⟨rfl, ?_⟩)) (Gh.tk (by repeat (first | exact Tk.nil | apply Tk.cons (by repeat (first | exact Pk.here | apply Pk.next))))) ⟨0, by omega, rfl, rfl⟩ ?_
      rintro k e h ⟨j, hjk, rfl, rfl⟩
      by_cases hj : j < ms.length
      · have hj' : (j : Int) < ms.length := by omega
        have h512 : ms.length ≤ 512 := hB.1
        have hmj : ms[j]? = some ms[j] := List.getElem?_eq_getElem hj
        have hokm : okMsg ms[j] := hB.2.1 _ (List.getElem_mem hj)
        have s1 : Trip Try.prog 17 [vp bN 0, vi 0] [bagA bN (ms.drop j) lost] (fun r l => ∃ x, r = .tuple #[.agg (msgCs ms[j] x).toArray, vb true] ∧ l = [bagA bN (ms.drop (j + 1)) lost, fz (fun g => RdMsg g (msgCs ms[j] x) ms[j])]) := by
          have h := netPull_in bN (ms.drop j) lost 0 ms[j] (by simp [hmj]) (by have := hB.1; simp; omega)
          rwa [show (ms.drop j).eraseIdx 0 = ms.drop (j + 1) by rw [List.drop_eq_getElem_cons hj]; rfl] at h
        have s3 := fun x y => same1_ok ms[j] x y hokm
        refine Wp.ghE (GhE.rowsElem (Pk.next (Pk.next (Pk.next Pk.here))) j hj) ?_
        rintro ⟨X, cc, Y⟩ ⟨hcss, hX, hXl, hc⟩
        simp only at hX hXl hc hcss ⊢
        refine Wp.get Pk.here len_msg ?_
        rintro ⟨_, hone⟩
        have hXf : X.flatten.length = j * 39 := by rw [flat_len hXl, hX]
        have hx : css.flatten = X.flatten ++ (cc ++ Y.flatten) := by rw [hcss]; simp
        refine Wp.gh (Gh.fzAlso (Ψ := fun g => RdMsg g cc ms[j]) Pk.here fun g h => h) ?_
        refine Wp.ghE (GhE.msg Pk.here) ?_
        rintro ⟨⟨a0, c0⟩, ⟨a', c'⟩⟩ rfl
        refine Wp.get (by repeat (first | exact Pk.here | apply Pk.next)) (fun r => rowA_at j hj) ?_
        rintro ⟨bb, o, cap, hpv⟩
        simp only [Value.slice.injEq, true_and] at hpv
        obtain ⟨rfl, rfl⟩ := hpv
        refine Wp.seq ?_
        refine Wp.seq ?_
        refine Wp.region ?_
        refine WpL.step (Stp.rd (Rdo.move rfl) rfl ?_)
        refine WpL.step (Stp.rd (Rdo.move rfl) rfl ?_)
        refine WpL.step (Stp.rd (Rdo.nilCheck rfl) rfl ?_)
        refine WpL.step (Stp.rd (Rdo.fieldAddr0 rfl) rfl ?_)
        refine WpL.step (Stp.rd (Rdo.load rfl (Lds.next (Lds.next (Lds.next (Lds.next (Lds.next (Lds.one rfl))))))) rfl ?_)
        refine WpL.step (Stp.rd (Rdo.lenSlice rfl) rfl ?_)
        refine WpL.step (Stp.rd (Rdo.lti rfl rfl) rfl ?_)
        refine WpL.nil ?_
        refine Thn.n ?_
        refine Wp.condK rfl (by first | rfl | assumption | (simp only [decide_eq_true_eq, decide_eq_false_iff_not, Bool.not_eq_true', Bool.not_eq_false', List.length_cons, List.length_nil]; first | assumption | omega) | (simp <;> done) | (simp <;> omega)) ?_
        refine Wp.skip ?_
        refine Thn.n ?_
        refine Wp.seq ?_
        refine Wp.block ?_
        refine Wp.seq ?_
        refine Wp.region ?_
        refine WpL.step (Stp.rd (Rdo.move rfl) rfl ?_)
        refine WpL.step (Stp.call (s1) (by kernel_rfl) rfl (by repeat (first | exact Tk.nil | apply Tk.cons (by repeat (first | exact Pk.here | apply Pk.next)))) rfl ?_)
        rintro _ _ ⟨v21_0, ⟨rfl, rfl⟩⟩
        refine WpL.lst (by simp only [List.cons_append, List.nil_append]; exact rfl) ?_
        refine WpL.step (Stp.rd (Rdo.move rfl) rfl ?_)
        refine WpL.step (Stp.rd (Rdo.extract rfl rfl) rfl ?_)
        refine WpL.step (Stp.rd (Rdo.extract rfl rfl) rfl ?_)
        (refine WpL.step (Stp.alloc rfl ?_); intro nb26)
        refine WpL.step (Stp.storeV rfl rfl (VC.ag _) (by first | rfl | assumption | (simp <;> done)) (by repeat (first | (apply Sts.all; (focus (first | rfl | assumption | (simp <;> done))); (focus (first | exact oneCells1 rfl | assumption | exact oneCells1 (by assumption) | ((repeat (first | assumption | exact oneCells_nil | exact oneCells_bytesC _ | (apply oneCells_cons; (focus (first | rfl | assumption))) | apply oneCells_append)); done) | (simp [oneCells, Value.oneCell'] <;> done)))) | (apply Sts.lp (by repeat (first | exact LPut.nil _ | apply LPut.here | apply LPut.next)); (focus (first | exact oneCells1 rfl | assumption | exact oneCells1 (by assumption) | ((repeat (first | assumption | exact oneCells_nil | exact oneCells_bytesC _ | (apply oneCells_cons; (focus (first | rfl | assumption))) | apply oneCells_append)); done) | (simp [oneCells, Value.oneCell'] <;> done)))) | (refine Sts.row1 (by first | assumption | omega | (simp <;> omega)) (by first | rfl | assumption)) | (refine Sts.rowP (by assumption) (by first | rfl | assumption | (simp <;> done)) (by rfl) (by (first | exact oneCells1 rfl | assumption | exact oneCells1 (by assumption) | ((repeat (first | assumption | exact oneCells_nil | exact oneCells_bytesC _ | (apply oneCells_cons; (focus (first | rfl | assumption))) | apply oneCells_append)); done) | (simp [oneCells, Value.oneCell'] <;> done)))) | apply Sts.next)) ?_)
        refine WpL.step (Stp.rd (Rdo.assign rfl) rfl ?_)
        refine WpL.nil ?_
        refine Thn.n ?_
        refine Wp.seq ?_
        refine Wp.draw (by kernel_rfl) ?_
        refine WpR.take (i := 0) rfl (by kernel_rfl) (by kernel_rfl) (by kernel_rfl) (Rdo.move rfl) rfl ?_
        refine WpR.take (i := 1) rfl (by kernel_rfl) (by kernel_rfl) (by kernel_rfl) (Rdo.not rfl) rfl ?_
        refine WpR.take (i := 2) rfl (by kernel_rfl) (by kernel_rfl) (by kernel_rfl) (Rdo.move rfl) rfl ?_
        refine WpR.want (i := 4) rfl rfl rfl rfl (by kernel_rfl) (by kernel_rfl) (by kernel_rfl) (Rdo.move rfl) rfl ?_
        refine WpR.want (i := 5) rfl rfl rfl rfl (by kernel_rfl) (by kernel_rfl) (by kernel_rfl) (Rdo.nilCheck rfl) rfl ?_
        refine WpR.want (i := 6) rfl rfl rfl rfl (by kernel_rfl) (by kernel_rfl) (by kernel_rfl) (Rdo.fieldAddr0 rfl) rfl ?_
        refine WpR.want (i := 8) rfl rfl rfl rfl (by kernel_rfl) (by kernel_rfl) (by kernel_rfl) (Rdo.move rfl) rfl ?_
        refine WpR.phaseL (m := 0) #[true, true, true, true, true, true, true, true, true, true, true, true, true, true] 7 _ rfl (by kernel_rfl) (Tk.cons Pk.here (Tk.cons (Pk.next (Pk.next (Pk.next (Pk.next (Pk.next (Pk.next Pk.here)))))) (Tk.cons (Pk.next (Pk.next (Pk.next (Pk.next (Pk.next (Pk.next Pk.here)))))) Tk.nil))) ?_
        refine WpA.want (i := 3) rfl rfl rfl rfl rfl (by kernel_rfl) (by kernel_rfl) (by kernel_rfl) (Rdo.load rfl (by apply Lds.all; (first | rfl | assumption | (simp <;> fail)))) rfl ?_
        refine WpA.want (i := 7) rfl rfl rfl rfl rfl (by kernel_rfl) (by kernel_rfl) (by kernel_rfl) (Rdo.load rfl (Lds.next (Lds.one rfl))) rfl ?_
        refine WpA.want (i := 9) rfl rfl rfl rfl rfl (by kernel_rfl) (by kernel_rfl) (by kernel_rfl) (Rdo.indexSlice rfl rfl (by omega)) rfl ?_
        refine WpA.want (i := 10) rfl rfl rfl rfl rfl (by kernel_rfl) (by kernel_rfl) (by kernel_rfl) (Rdo.load rfl (Lds.next (Lds.next (Lds.row (by assumption) (by first | assumption | omega | (simp <;> omega)) (by first | assumption | rfl))))) rfl ?_
        refine WpA.oneG (i := 11) rfl rfl rfl rfl (by kernel_rfl) (Stp.call (s3 _ _) (by kernel_rfl) rfl (by repeat (first | exact Tk.nil | apply Tk.cons (by repeat (first | exact Pk.here | apply Pk.next)))) rfl ?_)
        rintro _ _ ⟨rfl, rfl⟩
        refine WpA.lst (by simp only [List.cons_append, List.nil_append]; exact rfl) ?_
        refine WpA.want (i := 12) rfl rfl rfl rfl rfl (by kernel_rfl) (by kernel_rfl) (by kernel_rfl) (Rdo.not rfl) rfl ?_
        refine WpA.take (i := 13) rfl rfl (by kernel_rfl) (by kernel_rfl) (by kernel_rfl) (Rdo.pick_f rfl rfl) rfl ?_
        refine WpA.stop (by kernel_rfl) ?_
        refine WpR.lst (by simp only [List.cons_append, List.nil_append]; exact rfl) ?_
        refine WpR.done (by kernel_rfl) ?_
        refine Thn.n ?_
        refine Wp.condF rfl ?_
        refine Wp.skip ?_
        refine Blk.n ?_
        refine Thn.n ?_
        refine Wp.region ?_
        refine WpL.step (Stp.rd (Rdo.move rfl) rfl ?_)
        refine WpL.step (Stp.rd (Rdo.succ rfl rfl (by omega)) rfl ?_)
        refine WpL.step (Stp.rd (Rdo.assign rfl) rfl ?_)
        refine WpL.nil ?_
        refine Thn.n ?_
        exact ⟨k - 1, _, _, by omega, ⟨j + 1, by omega, rfl, rfl⟩, (by repeat (first | exact trivial | refine ⟨rfl, ?_⟩)), Gh.tk (by repeat (first | exact Tk.nil | apply Tk.cons (by repeat (first | exact Pk.here | apply Pk.next))))⟩
      · have hj' : j = ms.length := by omega
        subst hj'
        have hnil : ms.drop ms.length = [] := by simp
        have s9 := known_ok
        rw [show ppL2 bN nb31 ms lost p c css ms.length = [bagA bN [] lost, cel nb31 42 [.slice p ms.length c, vi lost], rowA 30 39 (.slice p ms.length c) ms.length css.flatten, fz (fun g => RdRows g css ms)] by simp [ppL2]]
        refine Wp.seq ?_
        refine Wp.seq ?_
        refine Wp.region ?_
        refine WpL.step (Stp.rd (Rdo.move rfl) rfl ?_)
        refine WpL.step (Stp.rd (Rdo.move rfl) rfl ?_)
        refine WpL.step (Stp.rd (Rdo.nilCheck rfl) rfl ?_)
        refine WpL.step (Stp.rd (Rdo.fieldAddr0 rfl) rfl ?_)
        refine WpL.step (Stp.rd (Rdo.load rfl (Lds.next (Lds.one rfl))) rfl ?_)
        refine WpL.step (Stp.rd (Rdo.lenSlice rfl) rfl ?_)
        refine WpL.step (Stp.rd (Rdo.lti rfl rfl) rfl ?_)
        refine WpL.nil ?_
        refine Thn.n ?_
        refine Wp.condL rfl (by first | rfl | assumption | (simp only [decide_eq_true_eq, decide_eq_false_iff_not, Bool.not_eq_true', Bool.not_eq_false', List.length_cons, List.length_nil]; first | assumption | omega) | (simp <;> done) | (simp <;> omega)) ?_
        refine Wp.exit ?_
        refine Thn.x ?_
        refine Thn.x ?_
        refine Blk.here ?_
        refine Thn.n ?_
        refine Wp.seq ?_
        refine Wp.region ?_
        refine WpL.step (Stp.rd (Rdo.move rfl) rfl ?_)
        refine WpL.step (Stp.call (netLen_ok _ _ _) (by kernel_rfl) rfl (by repeat (first | exact Tk.nil | apply Tk.cons (by repeat (first | exact Pk.here | apply Pk.next)))) rfl ?_)
        rintro _ _ ⟨rfl, rfl⟩
        refine WpL.lst (by simp only [List.cons_append, List.nil_append]; exact rfl) ?_
        refine WpL.step (Stp.rd (Rdo.eqi rfl rfl) rfl ?_)
        refine WpL.step (Stp.rd (Rdo.move rfl) rfl ?_)
        refine WpL.want rfl rfl rfl (Stp.call (s9) (by kernel_rfl) rfl (by repeat (first | exact Tk.nil | apply Tk.cons (by repeat (first | exact Pk.here | apply Pk.next)))) rfl ?_)
        rintro _ _ rfl
        refine WpL.step (Stp.rd (Rdo.pick_t rfl rfl) rfl ?_)
        refine WpL.step (Stp.rd (Rdo.assign rfl) rfl ?_)
        refine WpL.nil ?_
        refine Thn.n ?_
        refine Wp.ret ?_
        refine Ret.now (ResV.tmp rfl ResV.nil) (Gh.tk (by repeat (first | exact Tk.nil | apply Tk.cons (by repeat (first | exact Pk.here | apply Pk.next))))) rfl
theorem plays_walk (a : Option Addr) (n c : Nat) (acts : List Act) (w : World) (h : RActs (fun b => w.heap[b]?) [.slice a n c] acts) :
    Calls Try.prog 4 #[.slice a n c] w fun e w' => e = .returned (.bool true) ∧ Go.RowKit.Below w.heap.size w w' := by
  obtain ⟨v, hv, h1, h2⟩ := h
  obtain rfl := (List.cons.inj hv).1
  exact Trip.top (args := [.slice a n c]) (Φ := fun g => RdSl RAct 42 g (.slice a n c) acts) (post := fun r _ => r = vb true) h1 (fun _ _ h => h) (playsLaw_ok _ acts h2)
end Go.Proofs.Ytmeaekcengmfbaa
