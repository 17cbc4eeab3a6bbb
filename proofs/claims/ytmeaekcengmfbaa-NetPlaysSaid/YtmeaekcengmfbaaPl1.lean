/- NetPlays: acts that came in; how long they are. -/
import Derived.Test.YtmeaekcengmfbaaRb2
import Derived.Test.YtmeaekcengmfbaaOpnM
namespace Go.Proofs.Ytmeaekcengmfbaa
open Go
set_option maxHeartbeats 4000000
set_option linter.unusedSimpArgs false
set_option linter.unusedVariables false
set_option maxRecDepth 20000

structure Act where
  kind : Int
  m : Msg
  n : Int
  times : Int
abbrev PX : Type := (Option Addr × Nat) × (Option Addr × Nat)
def actC (a : Act) (x : PX) : List Value := vi a.kind :: (msgCs a.m x ++ [vi a.n, vi a.times])
theorem actC_len (a : Act) (x : PX) : (actC a x).length = 42 := by simp [actC]
theorem Lds.ione2 {P : Program} {l : List HP} {b off o1 o2 : Nat} {t : TypeId} {cs : List Value} {v : Value} [ha : AG P t false] (hv : cs[o1 + o2]? = some v) : Lds P (icel b off cs :: l) ⟨b, off + o1 + o2, none⟩ t v := by
  rw [Nat.add_assoc]
  exact Lds.ione hv
abbrev RAct (g : FH) (cs : List Value) (a : Act) : Prop := ∃ x, cs = actC a x ∧ RdMsg g (msgCs a.m x) a.m ∧ (a.m.value.length ≤ reachBytes ∧ a.m.votes.length * 96 ≤ reachBytes) ∧ In64 a.n ∧ In64 a.times
theorem opnAct : Opn Try.prog 45 42 RAct := by
  refine Opn.map (fun x => ⟨x.1, x.2.1, x.2.2.1, x.2.2.2.1⟩) (Opn.struct (by kernel_rfl) (OpnF.cons (k := 0) opnInt (OpnF.cons (k := 1) opnMsg (OpnF.cons (k := 2) opnInt (OpnF.cons (k := 3) opnInt (OpnF.nil (k := 4) (by kernel_rfl))))))) ?_
  rintro g cs ⟨a1, a2, a3, a4, _⟩ ⟨c1, d1, rfl, _, ⟨rfl, h1⟩, c2, d2, rfl, _, ⟨x, rfl, h2, l1, l2, _⟩, c3, d3, rfl, _, ⟨rfl, h3⟩, c4, d4, rfl, _, ⟨rfl, h4⟩, rfl⟩
  exact ⟨x, by simp [actC], h2, ⟨l1, l2⟩, h3, h4⟩
abbrev RActs (g : FH) (cs : List Value) (acts : List Act) : Prop := ∃ v, cs = [v] ∧ RdSl RAct 42 g v acts ∧ acts.length * 144 ≤ reachBytes
theorem opnActs : Opn Try.prog 37 1 RActs := Opn.slice (e := 45) (by_ := 144) (by kernel_rfl) (by kernel_rfl) (by omega) (by kernel_rfl) opnAct
theorem act_ok_ {cs : List Value} {a : Act} (r : Res) (h : fz (fun g => RAct g cs a) r) : (a.m.value.length ≤ reachBytes ∧ a.m.votes.length * 96 ≤ reachBytes) ∧ In64 a.n ∧ In64 a.times := by unfold fz at h; exact h.choose_spec.2.2
theorem GhE.act {l : List HP} {cs : List Value} {a : Act} : GhE (fz (fun g => RAct g cs a) :: l) (fun x : PX => cs = actC a x) (fun x => fz (fun g => RdMsg g (msgCs a.m x) a.m) :: l) :=
  GhE.part Pk.here fun g ⟨x, h1, h2, _⟩ => ⟨x, h1, h2⟩

abbrev actsF (v : Value) (acts : List Act) : HP := fz (fun g => RdSl RAct 42 g v acts)
def OkTo (acts : List Act) (i : Nat) : Prop := ∀ j a, j < i → acts[j]? = some a → okMsg a.m
theorem OkTo.succ {acts : List Act} {i : Nat} {a : Act} (h : OkTo acts i) (ha : acts[i]? = some a) (hok : okMsg a.m) : OkTo acts (i + 1) := fun j b hj hb => by
  by_cases hji : j = i
  · subst hji
    rw [ha] at hb
    cases hb
    exact hok
  · exact h j b (by omega) hb
theorem OkTo.all {acts : List Act} (h : OkTo acts acts.length) (i : Nat) : OkTo acts i := fun j b _ hb => h j b (List.getElem?_eq_some_iff.1 hb).1 hb
theorem long_ok (v : Value) (acts : List Act) (hl : acts.length ≤ reachBytes) : Trip Try.prog 14 [v] [actsF v acts] (fun r l => ∃ b, (r = vb b ∧ (b = false → OkTo acts 150)) ∧ l = [actsF v acts]) := by
  have hR : reachBytes = 140737488351232 := by decide
  refine Trip.get Pk.here shape_rdsl ?_
  rintro ⟨a1, c1, rfl⟩
  refine Trip.of_body Try.func14 rfl Try.ntmps14 Try.results14 rfl ?_
  refine Wp.seq ?_
  refine Wp.region ?_
  refine WpL.step (Stp.rd (Rdo.assign rfl) rfl ?_)
  refine WpL.nil ?_
  refine Thn.n ?_
  refine Wp.seq ?_
  refine Wp.region ?_
  refine WpL.step (Stp.rd (Rdo.assign rfl) rfl ?_)
  refine WpL.nil ?_
  refine Thn.n ?_
  refine Wp.seq ?_
  refine Wp.seq ?_
  refine Wp.region ?_
  refine WpL.step (Stp.rd (Rdo.assign rfl) rfl ?_)
  refine WpL.nil ?_
  refine Thn.n ?_
  refine Wp.block ?_
  refine Wp.loopE (fun k e h => ∃ (i : Nat) (n : Int), i + k = acts.length ∧ (0 ≤ n ∧ n ≤ 4000) ∧ OkTo acts i ∧ e = [(0, .slice a1 acts.length c1), (2, vb false), (3, vi n), (4, vi i)] ∧ h = [actsF (.slice a1 acts.length c1) acts]) acts.length
    (e0 := [(0, .slice a1 acts.length c1), (2, vb false), (3, vi 0), (4, vi (0 : Nat))]) (l0 := [actsF (.slice a1 acts.length c1) acts]) (by repeat (first | exact trivial | refine ⟨rfl, ?_⟩)) (by repeat (first | exact trivial | refine ⟨rfl, ?_⟩)) (Gh.tk (by repeat (first | exact Tk.nil | apply Tk.cons (by repeat (first | exact Pk.here | apply Pk.next))))) ⟨0, 0, by simp, by omega, fun j a hj => by omega, rfl, rfl⟩ ?_
  rintro k e h ⟨i, n, hik, hn, hto, rfl, rfl⟩
  by_cases hi : i < acts.length
  · have hi' : (i : Int) < acts.length := by omega
    by_cases h80 : (i : Int) < 150
    · refine Wp.ghE (GhE.elem (R := RAct) Pk.here i hi) ?_
      rintro ⟨bb, o, cap, cs⟩ ⟨hv, hcs⟩
      simp only [Value.slice.injEq, true_and] at hv
      obtain ⟨rfl, rfl⟩ := hv
      simp only
      refine Wp.get (Pk.next Pk.here) act_ok_ ?_
      rintro ⟨hok, -⟩
      refine Wp.gh (Gh.front (Pk.next Pk.here)) (Wp.ghE GhE.act ?_)
      rintro ⟨⟨x1, x2⟩, ⟨x3, x4⟩⟩ rfl
      have hat : acts[i]? = some acts[i] := List.getElem?_eq_getElem hi
      generalize acts[i] = a at hok hat
      obtain ⟨ho1, ho2⟩ := hok
      by_cases hbig : 4000 < n + 1 + (a.m.value.length : Int) + 10 * (a.m.votes.length : Int)
      · refine Wp.seq ?_
        refine Wp.seq ?_
        refine Wp.region ?_
        refine WpL.step (Stp.rd (Rdo.move rfl) rfl ?_)
        refine WpL.step (Stp.rd (Rdo.move rfl) rfl ?_)
        refine WpL.step (Stp.rd (Rdo.lenSlice rfl) rfl ?_)
        refine WpL.step (Stp.rd (Rdo.lti rfl rfl) rfl ?_)
        refine WpL.step (Stp.rd (Rdo.move rfl) rfl ?_)
        refine WpL.gT rfl rfl (by first | rfl | assumption | (simp only [decide_eq_true_eq, decide_eq_false_iff_not, Bool.not_eq_true', Bool.not_eq_false', List.length_cons, List.length_nil]; first | assumption | omega) | (simp <;> done) | (simp <;> omega)) ?_
        refine WpL.want rfl rfl rfl (Stp.rd (Rdo.move rfl) rfl ?_)
        refine WpL.want rfl rfl rfl (Stp.rd (Rdo.lti rfl rfl) rfl ?_)
        refine WpL.step (Stp.rd (Rdo.pick_t rfl rfl) rfl ?_)
        refine WpL.nil ?_
        refine Thn.n ?_
        refine Wp.condK rfl (by first | rfl | assumption | (simp only [decide_eq_true_eq, decide_eq_false_iff_not, Bool.not_eq_true', Bool.not_eq_false', List.length_cons, List.length_nil]; first | assumption | omega) | (simp <;> done) | (simp <;> omega)) ?_
        refine Wp.skip ?_
        refine Thn.n ?_
        refine Wp.seq ?_
        refine Wp.block ?_
        refine Wp.seq ?_
        refine Wp.draw (by kernel_rfl) ?_
        refine WpR.take (i := 0) rfl (by kernel_rfl) (by kernel_rfl) (by kernel_rfl) (Rdo.move rfl) rfl ?_
        refine WpR.take (i := 1) rfl (by kernel_rfl) (by kernel_rfl) (by kernel_rfl) (Rdo.add64 rfl rfl (by first | omega | (dsimp only; omega))) rfl ?_
        refine WpR.take (i := 2) rfl (by kernel_rfl) (by kernel_rfl) (by kernel_rfl) (Rdo.move rfl) rfl ?_
        refine WpR.take (i := 3) rfl (by kernel_rfl) (by kernel_rfl) (by kernel_rfl) (Rdo.move rfl) rfl ?_
        refine WpR.take (i := 4) rfl (by kernel_rfl) (by kernel_rfl) (by kernel_rfl) (Rdo.indexSlice rfl rfl (by omega)) rfl ?_
        refine WpR.take (i := 5) rfl (by kernel_rfl) (by kernel_rfl) (by kernel_rfl) (Rdo.fieldAddr rfl) rfl ?_
        refine WpR.take (i := 6) rfl (by kernel_rfl) (by kernel_rfl) (by kernel_rfl) (Rdo.fieldAddr rfl) rfl ?_
        refine WpR.take (i := 10) rfl (by kernel_rfl) (by kernel_rfl) (by kernel_rfl) (Rdo.move rfl) rfl ?_
        refine WpR.take (i := 11) rfl (by kernel_rfl) (by kernel_rfl) (by kernel_rfl) (Rdo.move rfl) rfl ?_
        refine WpR.take (i := 12) rfl (by kernel_rfl) (by kernel_rfl) (by kernel_rfl) (Rdo.indexSlice rfl rfl (by omega)) rfl ?_
        refine WpR.take (i := 13) rfl (by kernel_rfl) (by kernel_rfl) (by kernel_rfl) (Rdo.fieldAddr rfl) rfl ?_
        refine WpR.take (i := 14) rfl (by kernel_rfl) (by kernel_rfl) (by kernel_rfl) (Rdo.fieldAddr rfl) rfl ?_
        refine WpR.phaseL (m := 0) #[true, true, true, true, true, true, true, true, true, true, true, true, true, true, true, true, true, true, true, true] 8 _ rfl (by kernel_rfl) (Tk.cons Pk.here (Tk.cons Pk.here Tk.nil)) ?_
        refine WpA.take (i := 7) rfl rfl (by kernel_rfl) (by kernel_rfl) (by kernel_rfl) (Rdo.load rfl (Lds.next (Lds.ione2 rfl))) rfl ?_
        refine WpA.take (i := 8) rfl rfl (by kernel_rfl) (by kernel_rfl) (by kernel_rfl) (Rdo.lenSlice rfl) rfl ?_
        refine WpA.take (i := 9) rfl rfl (by kernel_rfl) (by kernel_rfl) (by kernel_rfl) (Rdo.add64 rfl rfl (by first | omega | (dsimp only; omega))) rfl ?_
        refine WpA.take (i := 15) rfl rfl (by kernel_rfl) (by kernel_rfl) (by kernel_rfl) (Rdo.load rfl (Lds.next (Lds.ione2 rfl))) rfl ?_
        refine WpA.take (i := 16) rfl rfl (by kernel_rfl) (by kernel_rfl) (by kernel_rfl) (Rdo.lenSlice rfl) rfl ?_
        refine WpA.take (i := 17) rfl rfl (by kernel_rfl) (by kernel_rfl) (by kernel_rfl) (Rdo.mul64 rfl rfl (by omega)) rfl ?_
        refine WpA.take (i := 18) rfl rfl (by kernel_rfl) (by kernel_rfl) (by kernel_rfl) (Rdo.add64 rfl rfl (by first | omega | (dsimp only; omega))) rfl ?_
        refine WpA.take (i := 19) rfl rfl (by kernel_rfl) (by kernel_rfl) (by kernel_rfl) (Rdo.assign rfl) rfl ?_
        refine WpA.stop (by kernel_rfl) ?_
        refine WpR.lst (by simp only [List.cons_append, List.nil_append]; exact rfl) ?_
        refine WpR.done (by kernel_rfl) ?_
        refine Thn.n ?_
        refine Wp.seq ?_
        refine Wp.region ?_
        refine WpL.step (Stp.rd (Rdo.move rfl) rfl ?_)
        refine WpL.step (Stp.rd (Rdo.gti rfl rfl) rfl ?_)
        refine WpL.nil ?_
        refine Thn.n ?_
        refine Wp.condK rfl (by first | rfl | assumption | (simp only [decide_eq_true_eq, decide_eq_false_iff_not, Bool.not_eq_true', Bool.not_eq_false', List.length_cons, List.length_nil]; first | assumption | omega) | (simp <;> done) | (simp <;> omega)) ?_
        refine Wp.seq ?_
        refine Wp.region ?_
        refine WpL.step (Stp.rd (Rdo.assign rfl) rfl ?_)
        refine WpL.nil ?_
        refine Thn.n ?_
        refine Wp.ret ?_
        refine Blk.r ?_
        refine Thn.r ?_
        refine Thn.r ?_
        refine Blk.r ?_
        refine Thn.r ?_
        refine Ret.now (ResV.tmp rfl ResV.nil) (Gh.tk (by repeat (first | exact Tk.nil | apply Tk.cons (by repeat (first | exact Pk.here | apply Pk.next))))) ⟨_, ⟨⟨rfl, (by first | assumption | omega | (simp <;> done) | (simp <;> omega))⟩, rfl⟩⟩
      · refine Wp.seq ?_
        refine Wp.seq ?_
        refine Wp.region ?_
        refine WpL.step (Stp.rd (Rdo.move rfl) rfl ?_)
        refine WpL.step (Stp.rd (Rdo.move rfl) rfl ?_)
        refine WpL.step (Stp.rd (Rdo.lenSlice rfl) rfl ?_)
        refine WpL.step (Stp.rd (Rdo.lti rfl rfl) rfl ?_)
        refine WpL.step (Stp.rd (Rdo.move rfl) rfl ?_)
        refine WpL.gT rfl rfl (by first | rfl | assumption | (simp only [decide_eq_true_eq, decide_eq_false_iff_not, Bool.not_eq_true', Bool.not_eq_false', List.length_cons, List.length_nil]; first | assumption | omega) | (simp <;> done) | (simp <;> omega)) ?_
        refine WpL.want rfl rfl rfl (Stp.rd (Rdo.move rfl) rfl ?_)
        refine WpL.want rfl rfl rfl (Stp.rd (Rdo.lti rfl rfl) rfl ?_)
        refine WpL.step (Stp.rd (Rdo.pick_t rfl rfl) rfl ?_)
        refine WpL.nil ?_
        refine Thn.n ?_
        refine Wp.condK rfl (by first | rfl | assumption | (simp only [decide_eq_true_eq, decide_eq_false_iff_not, Bool.not_eq_true', Bool.not_eq_false', List.length_cons, List.length_nil]; first | assumption | omega) | (simp <;> done) | (simp <;> omega)) ?_
        refine Wp.skip ?_
        refine Thn.n ?_
        refine Wp.seq ?_
        refine Wp.block ?_
        refine Wp.seq ?_
        refine Wp.draw (by kernel_rfl) ?_
        refine WpR.take (i := 0) rfl (by kernel_rfl) (by kernel_rfl) (by kernel_rfl) (Rdo.move rfl) rfl ?_
        refine WpR.take (i := 1) rfl (by kernel_rfl) (by kernel_rfl) (by kernel_rfl) (Rdo.add64 rfl rfl (by first | omega | (dsimp only; omega))) rfl ?_
        refine WpR.take (i := 2) rfl (by kernel_rfl) (by kernel_rfl) (by kernel_rfl) (Rdo.move rfl) rfl ?_
        refine WpR.take (i := 3) rfl (by kernel_rfl) (by kernel_rfl) (by kernel_rfl) (Rdo.move rfl) rfl ?_
        refine WpR.take (i := 4) rfl (by kernel_rfl) (by kernel_rfl) (by kernel_rfl) (Rdo.indexSlice rfl rfl (by omega)) rfl ?_
        refine WpR.take (i := 5) rfl (by kernel_rfl) (by kernel_rfl) (by kernel_rfl) (Rdo.fieldAddr rfl) rfl ?_
        refine WpR.take (i := 6) rfl (by kernel_rfl) (by kernel_rfl) (by kernel_rfl) (Rdo.fieldAddr rfl) rfl ?_
        refine WpR.take (i := 10) rfl (by kernel_rfl) (by kernel_rfl) (by kernel_rfl) (Rdo.move rfl) rfl ?_
        refine WpR.take (i := 11) rfl (by kernel_rfl) (by kernel_rfl) (by kernel_rfl) (Rdo.move rfl) rfl ?_
        refine WpR.take (i := 12) rfl (by kernel_rfl) (by kernel_rfl) (by kernel_rfl) (Rdo.indexSlice rfl rfl (by omega)) rfl ?_
        refine WpR.take (i := 13) rfl (by kernel_rfl) (by kernel_rfl) (by kernel_rfl) (Rdo.fieldAddr rfl) rfl ?_
        refine WpR.take (i := 14) rfl (by kernel_rfl) (by kernel_rfl) (by kernel_rfl) (Rdo.fieldAddr rfl) rfl ?_
        refine WpR.phaseL (m := 0) #[true, true, true, true, true, true, true, true, true, true, true, true, true, true, true, true, true, true, true, true] 8 _ rfl (by kernel_rfl) (Tk.cons Pk.here (Tk.cons Pk.here Tk.nil)) ?_
        refine WpA.take (i := 7) rfl rfl (by kernel_rfl) (by kernel_rfl) (by kernel_rfl) (Rdo.load rfl (Lds.next (Lds.ione2 rfl))) rfl ?_
        refine WpA.take (i := 8) rfl rfl (by kernel_rfl) (by kernel_rfl) (by kernel_rfl) (Rdo.lenSlice rfl) rfl ?_
        refine WpA.take (i := 9) rfl rfl (by kernel_rfl) (by kernel_rfl) (by kernel_rfl) (Rdo.add64 rfl rfl (by first | omega | (dsimp only; omega))) rfl ?_
        refine WpA.take (i := 15) rfl rfl (by kernel_rfl) (by kernel_rfl) (by kernel_rfl) (Rdo.load rfl (Lds.next (Lds.ione2 rfl))) rfl ?_
        refine WpA.take (i := 16) rfl rfl (by kernel_rfl) (by kernel_rfl) (by kernel_rfl) (Rdo.lenSlice rfl) rfl ?_
        refine WpA.take (i := 17) rfl rfl (by kernel_rfl) (by kernel_rfl) (by kernel_rfl) (Rdo.mul64 rfl rfl (by omega)) rfl ?_
        refine WpA.take (i := 18) rfl rfl (by kernel_rfl) (by kernel_rfl) (by kernel_rfl) (Rdo.add64 rfl rfl (by first | omega | (dsimp only; omega))) rfl ?_
        refine WpA.take (i := 19) rfl rfl (by kernel_rfl) (by kernel_rfl) (by kernel_rfl) (Rdo.assign rfl) rfl ?_
        refine WpA.stop (by kernel_rfl) ?_
        refine WpR.lst (by simp only [List.cons_append, List.nil_append]; exact rfl) ?_
        refine WpR.done (by kernel_rfl) ?_
        refine Thn.n ?_
        refine Wp.seq ?_
        refine Wp.region ?_
        refine WpL.step (Stp.rd (Rdo.move rfl) rfl ?_)
        refine WpL.step (Stp.rd (Rdo.gti rfl rfl) rfl ?_)
        refine WpL.nil ?_
        refine Thn.n ?_
        refine Wp.condL rfl (by first | rfl | assumption | (simp only [decide_eq_true_eq, decide_eq_false_iff_not, Bool.not_eq_true', Bool.not_eq_false', List.length_cons, List.length_nil]; first | assumption | omega) | (simp <;> done) | (simp <;> omega)) ?_
        refine Wp.skip ?_
        refine Blk.n ?_
        refine Thn.n ?_
        refine Wp.region ?_
        refine WpL.step (Stp.rd (Rdo.move rfl) rfl ?_)
        refine WpL.step (Stp.rd (Rdo.succ rfl rfl (by omega)) rfl ?_)
        refine WpL.step (Stp.rd (Rdo.assign rfl) rfl ?_)
        refine WpL.nil ?_
        refine Thn.n ?_
        exact ⟨k - 1, _, _, by omega, ⟨i + 1, n + 1 + (a.m.value.length : Int) + 10 * (a.m.votes.length : Int), by omega, by omega, hto.succ hat ⟨by omega, by omega⟩, rfl, rfl⟩, (by repeat (first | exact trivial | refine ⟨rfl, ?_⟩)), Gh.tk (by repeat (first | exact Tk.nil | apply Tk.cons (by repeat (first | exact Pk.here | apply Pk.next))))⟩
    · refine Wp.seq ?_
      refine Wp.seq ?_
      refine Wp.region ?_
      refine WpL.step (Stp.rd (Rdo.move rfl) rfl ?_)
      refine WpL.step (Stp.rd (Rdo.move rfl) rfl ?_)
      refine WpL.step (Stp.rd (Rdo.lenSlice rfl) rfl ?_)
      refine WpL.step (Stp.rd (Rdo.lti rfl rfl) rfl ?_)
      refine WpL.step (Stp.rd (Rdo.move rfl) rfl ?_)
      refine WpL.gT rfl rfl (by first | rfl | assumption | (simp only [decide_eq_true_eq, decide_eq_false_iff_not, Bool.not_eq_true', Bool.not_eq_false', List.length_cons, List.length_nil]; first | assumption | omega) | (simp <;> done) | (simp <;> omega)) ?_
      refine WpL.want rfl rfl rfl (Stp.rd (Rdo.move rfl) rfl ?_)
      refine WpL.want rfl rfl rfl (Stp.rd (Rdo.lti rfl rfl) rfl ?_)
      refine WpL.step (Stp.rd (Rdo.pick_t rfl rfl) rfl ?_)
      refine WpL.nil ?_
      refine Thn.n ?_
      refine Wp.condL rfl (by first | rfl | assumption | (simp only [decide_eq_true_eq, decide_eq_false_iff_not, Bool.not_eq_true', Bool.not_eq_false', List.length_cons, List.length_nil]; first | assumption | omega) | (simp <;> done) | (simp <;> omega)) ?_
      refine Wp.exit ?_
      refine Thn.x ?_
      refine Thn.x ?_
      refine Blk.here ?_
      refine Thn.n ?_
      refine Wp.seq ?_
      refine Wp.region ?_
      refine WpL.step (Stp.rd (Rdo.assign rfl) rfl ?_)
      refine WpL.nil ?_
      refine Thn.n ?_
      refine Wp.ret ?_
      refine Ret.now (by repeat (first | exact ResV.nil | apply ResV.tmp rfl | apply ResV.cell rfl (by repeat (first | exact Lds.one rfl | (apply Lds.all; (first | rfl | assumption | (simp <;> fail))) | exact Lds.ione0 | exact Lds.ione rfl | (apply Lds.iall; (first | rfl | assumption | (simp <;> fail))) | apply Lds.next)))) (Gh.tk (by repeat (first | exact Tk.nil | apply Tk.cons (by repeat (first | exact Pk.here | apply Pk.next))))) ⟨_, ⟨rfl, fun _ j a hj => hto j a (by omega)⟩, rfl⟩
  · have hi' : i = acts.length := by omega
    subst hi'
    refine Wp.seq ?_
    refine Wp.seq ?_
    refine Wp.region ?_
    refine WpL.step (Stp.rd (Rdo.move rfl) rfl ?_)
    refine WpL.step (Stp.rd (Rdo.move rfl) rfl ?_)
    refine WpL.step (Stp.rd (Rdo.lenSlice rfl) rfl ?_)
    refine WpL.step (Stp.rd (Rdo.lti rfl rfl) rfl ?_)
    refine WpL.step (Stp.rd (Rdo.move rfl) rfl ?_)
    refine WpL.gF rfl rfl (by first | rfl | assumption | (simp only [decide_eq_true_eq, decide_eq_false_iff_not, Bool.not_eq_true', Bool.not_eq_false', List.length_cons, List.length_nil]; first | assumption | omega) | (simp <;> done) | (simp <;> omega)) ?_
    refine WpL.pass rfl rfl rfl rfl ?_
    refine WpL.pass rfl rfl rfl rfl ?_
    refine WpL.step (Stp.rd (Rdo.pick_f rfl rfl) rfl ?_)
    refine WpL.nil ?_
    refine Thn.n ?_
    refine Wp.condF rfl ?_
    refine Wp.exit ?_
    refine Thn.x ?_
    refine Thn.x ?_
    refine Blk.here ?_
    refine Thn.n ?_
    refine Wp.seq ?_
    refine Wp.region ?_
    refine WpL.step (Stp.rd (Rdo.assign rfl) rfl ?_)
    refine WpL.nil ?_
    refine Thn.n ?_
    refine Wp.ret ?_
    refine Ret.now (by repeat (first | exact ResV.nil | apply ResV.tmp rfl | apply ResV.cell rfl (by repeat (first | exact Lds.one rfl | (apply Lds.all; (first | rfl | assumption | (simp <;> fail))) | exact Lds.ione0 | exact Lds.ione rfl | (apply Lds.iall; (first | rfl | assumption | (simp <;> fail))) | apply Lds.next)))) (Gh.tk (by repeat (first | exact Tk.nil | apply Tk.cons (by repeat (first | exact Pk.here | apply Pk.next))))) ⟨_, ⟨rfl, fun _ => hto.all _⟩, rfl⟩
end Go.Proofs.Ytmeaekcengmfbaa
