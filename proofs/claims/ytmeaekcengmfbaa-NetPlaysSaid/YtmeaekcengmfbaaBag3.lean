/- A bag: Put. -/
import Derived.Test.YtmeaekcengmfbaaBag2
namespace Go.Proofs.Ytmeaekcengmfbaa
open Go
set_option maxHeartbeats 4000000
set_option linter.unusedSimpArgs false
set_option linter.unusedVariables false
set_option maxRecDepth 20000

/-- A message is laid behind all, if there is room. -/
theorem bagAdd_ok (b : Nat) (ms : List Msg) (lost : Int) (cs : List Value) (m : Msg) (hms : ms.length ≤ 512) : Trip Try.prog 19 [vp b 0, .agg cs.toArray] [bagA b ms lost, fz (fun g => RdMsg g cs m)]
    (fun r l => r = vb (decide (ms.length < 512)) ∧ l = [bagA b (if ms.length < 512 then ms ++ [m] else ms) lost]) := by
  refine Trip.get (Pk.next Pk.here) len_msg ?_
  rintro ⟨hlen, hone⟩
  refine Trip.ghE (bagA_open Pk.here) ?_
  rintro ⟨v, css⟩ -
  simp only [bagX, List.cons_append, List.nil_append]
  by_cases h : ms.length < 512
  · refine Trip.via (put_in b _ v (vi lost) ms.length 512 css.flatten cs hlen hone (by omega) (by omega)) (by repeat (first | exact Tk.nil | apply Tk.cons (by repeat (first | exact Pk.here | apply Pk.next)))) ?_
    rintro _ _ ⟨rfl, v', rfl⟩
    refine ⟨_, ⟨by simp [h], rfl⟩, ?_⟩
    rw [if_pos h]
    simp only [List.cons_append, List.nil_append]
    refine Gh.trans (Gh.fzAnd (RdRows.mono _ _) (RdMsg.mono _ _) (by repeat (first | exact Pk.here | apply Pk.next)) (by repeat (first | exact Pk.here | apply Pk.next))) (Gh.trans (Gh.fzImp (Ψ := fun g => RdRows g (css ++ [cs]) (ms ++ [m])) Pk.here fun g h => h.1.snoc hlen h.2) (Gh.trans (Gh.shut (f := bagX b (ms ++ [m]) lost) (v', css ++ [cs]) ?_) (Gh.tk (rest := []) Tk.rfl_)))
    simp only [bagX, List.length_append, List.length_singleton, List.flatten_append, List.flatten_singleton]
    exact (by repeat (first | exact Tk.nil | apply Tk.cons (by repeat (first | exact Pk.here | apply Pk.next))))
  · refine Trip.via (put_full b _ v (vi lost) ms.length 512 css.flatten cs hlen hone (by omega) (by omega)) (by repeat (first | exact Tk.nil | apply Tk.cons (by repeat (first | exact Pk.here | apply Pk.next)))) ?_
    rintro _ _ ⟨rfl, rfl⟩
    refine ⟨_, ⟨by simp [h], rfl⟩, ?_⟩
    rw [if_neg h]
    simp only [List.cons_append, List.nil_append]
    exact Gh.trans (Gh.shut (f := bagX b ms lost) (_, css) (by repeat (first | exact Tk.nil | apply Tk.cons (by repeat (first | exact Pk.here | apply Pk.next))))) (Gh.tk (by repeat (first | exact Tk.nil | apply Tk.cons (by repeat (first | exact Pk.here | apply Pk.next)))))

theorem GhE.rowsElem {l rest : List HP} {css : List (List Value)} {ms : List Msg} (hp : Pk l (fz (fun g => RdRows g css ms)) rest) (i : Nat) (hi : i < ms.length) :
    GhE l (fun x : List (List Value) × List Value × List (List Value) => css = x.1 ++ x.2.1 :: x.2.2 ∧ x.1.length = i ∧ (∀ c ∈ x.1, c.length = 39) ∧ x.2.1.length = 39)
      (fun x => fz (fun g => RdMsg g x.2.1 ms[i]) :: fz (fun g => RdRows g css ms) :: rest) := by
  refine GhE.mk fun F w hl => ?_
  have h1 := (Gh.fzAlso (Ψ := fun g => RdRows g css ms) hp fun g h => h).use hl
  have h2 := (GhE.part (φ := fun x : List (List Value) × List Value × List (List Value) => css = x.1 ++ x.2.1 :: x.2.2 ∧ x.1.length = i ∧ (∀ c ∈ x.1, c.length = 39) ∧ x.2.1.length = 39) (Ψ := fun x g => RdMsg g x.2.1 ms[i]) Pk.here (fun g h => by
    obtain ⟨c1, c, c2, rfl, h1, h2, _, _⟩ := h.2.split i hi
    exact ⟨(c1, c, c2), ⟨rfl, h1, fun x hx => h.1 x (by simp [hx]), h.1 c (by simp)⟩, h2⟩)).use h1
  exact h2

abbrev putE (b : Nat) (k : Nat) (a : Option Addr) (n c i : Nat) : Env := [(0, vp b 0), (5, vi k), (10, .slice a n c), (11, vi n), (12, vi i)]
theorem netPut_ok (b : Nat) (ms : List Msg) (lost : Int) (lv : Value) (l : List Msg) (hms : ms.length ≤ 512) (hok : ∀ m ∈ l, okMsg m) (hl : l.length ≤ 1099511627776) (hlo : 0 ≤ lost ∧ lost ≤ 1099511627776) :
    Trip Try.prog 9 [vp b 0, lv] [bagA b ms lost, fz (fun g => RdMsgs g lv l)]
      (fun r h => r = vi (min l.length (512 - ms.length) : Nat) ∧ h = [bagA b (ms ++ l.take (512 - ms.length)) (lost + (l.length - min l.length (512 - ms.length) : Nat)), fz (fun g => RdMsgs g lv l)]) := by
  refine Trip.get (Pk.next Pk.here) shape_msgs ?_
  rintro ⟨a0, c0, rfl⟩
  refine Trip.of_body Try.func9 rfl Try.ntmps9 Try.results9 rfl ?_
  refine Wp.seq ?_
  refine Wp.region ?_
  refine WpL.step (Stp.rd (Rdo.assign rfl) rfl ?_)
  refine WpL.nil ?_
  refine Thn.n ?_
  refine Wp.seq ?_
  refine Wp.seq ?_
  refine Wp.region ?_
  refine WpL.step (Stp.rd (Rdo.move rfl) rfl ?_)
  refine WpL.step (Stp.rd (Rdo.eqnil rfl rfl) rfl ?_)
  refine WpL.nil ?_
  refine Thn.n ?_
  refine Wp.condF rfl ?_
  refine Wp.skip ?_
  refine Thn.n ?_
  refine Wp.seq ?_
  refine Wp.region ?_
  refine WpL.step (Stp.rd (Rdo.assign rfl) rfl ?_)
  refine WpL.nil ?_
  refine Thn.n ?_
  refine Wp.seq ?_
  refine Wp.seq ?_
  refine Wp.region ?_
  refine WpL.step (Stp.rd (Rdo.move rfl) rfl ?_)
  refine WpL.step (Stp.rd (Rdo.lenSlice rfl) rfl ?_)
  refine WpL.step (Stp.rd (Rdo.move rfl) rfl ?_)
  refine WpL.nil ?_
  refine Thn.n ?_
  refine Wp.block ?_
  refine Wp.loopE (fun k e h => ∃ i : Nat, i + k = l.length ∧ e = putE b (min i (512 - ms.length) : Nat) a0 l.length c0 i ∧
      h = [bagA b (ms ++ l.take (min i (512 - ms.length))) (lost + (i - min i (512 - ms.length) : Nat)), fz (fun g => RdMsgs g (.slice a0 l.length c0) l)]) l.length
    (e0 := putE b 0 a0 l.length c0 0) (l0 := [bagA b ms lost, fz (fun g => RdMsgs g (.slice a0 l.length c0) l)]) (by repeat (first | exact trivial | refine ⟨rfl, ?_⟩)) (by repeat (first | exact trivial | refine ⟨rfl, ?_⟩)) (Gh.tk (by repeat (first | exact Tk.nil | apply Tk.cons (by repeat (first | exact Pk.here | apply Pk.next))))) ⟨0, by omega, by simp, by simp⟩ ?_
  rintro k e h ⟨i, hik, rfl, rfl⟩
  by_cases hi : i < l.length
  · have hi0 : (i : Int) < l.length := by omega
    refine Wp.ghE (GhE.elem (R := RdMsg) (by repeat (first | exact Pk.here | apply Pk.next)) i hi) ?_
    rintro ⟨bb, o, cap, cs⟩ ⟨hv, hcs⟩
    simp only [Value.slice.injEq, true_and] at hv
    obtain ⟨rfl, rfl⟩ := hv
    refine Wp.get (by repeat (first | exact Pk.here | apply Pk.next)) len_msg ?_
    rintro ⟨hlen, hone⟩
    have hn : (ms ++ l.take (min i (512 - ms.length))).length = ms.length + min i (512 - ms.length) := by simp; omega
    have hokm := hok l[i] (List.getElem_mem hi)
    have s1 := netCopied_ok cs l[i] hokm
    have s2 : ∀ x, Trip Try.prog 19 [vp b 0, .agg (msgCs l[i] x).toArray] [bagA b (ms ++ l.take (min i (512 - ms.length))) (lost + (i - min i (512 - ms.length) : Nat)), fz (fun g => RdMsg g (msgCs l[i] x) l[i])]
      (fun r h => r = vb (decide ((ms ++ l.take (min i (512 - ms.length))).length < 512)) ∧ h = [bagA b (if (ms ++ l.take (min i (512 - ms.length))).length < 512 then (ms ++ l.take (min i (512 - ms.length))) ++ [l[i]] else ms ++ l.take (min i (512 - ms.length))) (lost + (i - min i (512 - ms.length) : Nat))]) :=
      fun x => bagAdd_ok b (ms ++ l.take (min i (512 - ms.length))) _ (msgCs l[i] x) l[i] (by omega)
    rw [hn] at s2
    by_cases hR : i < 512 - ms.length
    · have e1 : min i (512 - ms.length) = i := by omega
      have e2 : min (i + 1) (512 - ms.length) = i + 1 := by omega
      rw [e1] at s2
      rw [decide_eq_true (by omega), if_pos (by omega)] at s2
      rw [e1]
      refine Wp.seq ?_
      refine Wp.region ?_
      refine WpL.step (Stp.rd (Rdo.lti rfl rfl) rfl ?_)
      refine WpL.nil ?_
      refine Thn.n ?_
      refine Wp.seq ?_
      refine Wp.condK rfl (by first | rfl | assumption | (simp only [decide_eq_true_eq, decide_eq_false_iff_not, Bool.not_eq_true', Bool.not_eq_false', List.length_cons, List.length_nil]; first | assumption | omega) | (simp <;> done) | (simp <;> omega)) ?_
      refine Wp.skip ?_
      refine Thn.n ?_
      refine Wp.seq ?_
      refine Wp.block ?_
      refine Wp.seq ?_
      refine Wp.region ?_
      refine WpL.step (Stp.rd (Rdo.indexSlice rfl rfl (by omega)) rfl ?_)
      refine WpL.step (Stp.rd (Rdo.load rfl (by apply Lds.iall; (first | rfl | assumption | (simp <;> fail)))) rfl ?_)
      (refine WpL.step (Stp.alloc rfl ?_); intro nb15)
      refine WpL.step (Stp.storeV rfl rfl (VC.ag _) (by first | rfl | assumption | (simp <;> done)) (by repeat (first | (apply Sts.all; (focus (first | rfl | assumption | (simp <;> done))); (focus (first | exact oneCells1 rfl | assumption | exact oneCells1 (by assumption) | ((repeat (first | assumption | exact oneCells_nil | exact oneCells_bytesC _ | (apply oneCells_cons; (focus (first | rfl | assumption))) | apply oneCells_append)); done) | (simp [oneCells, Value.oneCell'] <;> done)))) | (apply Sts.lp (by repeat (first | exact LPut.nil _ | apply LPut.here | apply LPut.next)); (focus (first | exact oneCells1 rfl | assumption | exact oneCells1 (by assumption) | ((repeat (first | assumption | exact oneCells_nil | exact oneCells_bytesC _ | (apply oneCells_cons; (focus (first | rfl | assumption))) | apply oneCells_append)); done) | (simp [oneCells, Value.oneCell'] <;> done)))) | (refine Sts.row1 (by first | assumption | omega | (simp <;> omega)) (by first | rfl | assumption)) | (refine Sts.rowP (by assumption) (by first | rfl | assumption | (simp <;> done)) (by rfl) (by (first | exact oneCells1 rfl | assumption | exact oneCells1 (by assumption) | ((repeat (first | assumption | exact oneCells_nil | exact oneCells_bytesC _ | (apply oneCells_cons; (focus (first | rfl | assumption))) | apply oneCells_append)); done) | (simp [oneCells, Value.oneCell'] <;> done)))) | apply Sts.next)) ?_)
      refine WpL.nil ?_
      refine Thn.n ?_
      refine Wp.seq ?_
      refine Wp.draw (by kernel_rfl) ?_
      refine WpR.take (i := 0) rfl (by kernel_rfl) (by kernel_rfl) (by kernel_rfl) (Rdo.move rfl) rfl ?_
      refine WpR.take (i := 1) rfl (by kernel_rfl) (by kernel_rfl) (by kernel_rfl) (Rdo.nilCheck rfl) rfl ?_
      refine WpR.take (i := 2) rfl (by kernel_rfl) (by kernel_rfl) (by kernel_rfl) (Rdo.fieldAddr0 rfl) rfl ?_
      refine WpR.one (i := 3) rfl (by kernel_rfl) (Stp.rd (Rdo.load rfl (by apply Lds.all; (first | rfl | assumption | (simp <;> fail)))) rfl ?_)
      refine WpR.one (i := 4) rfl (by kernel_rfl) (Stp.call (s1) (by kernel_rfl) rfl (by repeat (first | exact Tk.nil | apply Tk.cons (by repeat (first | exact Pk.here | apply Pk.next)))) rfl ?_)
      rintro _ _ ⟨v26_0, ⟨rfl, rfl⟩⟩
      refine WpR.lst (by simp only [List.cons_append, List.nil_append]; exact rfl) ?_
      refine WpR.one (i := 5) rfl (by kernel_rfl) (Stp.call (s2 _) (by kernel_rfl) rfl (by repeat (first | exact Tk.nil | apply Tk.cons (by repeat (first | exact Pk.here | apply Pk.next)))) rfl ?_)
      rintro _ _ ⟨rfl, rfl⟩
      refine WpR.lst (by simp only [List.cons_append, List.nil_append]; exact rfl) ?_
      refine WpR.done (by kernel_rfl) ?_
      refine Thn.n ?_
      refine Wp.condT rfl ?_
      refine Wp.region ?_
      refine WpL.step (Stp.rd (Rdo.move rfl) rfl ?_)
      refine WpL.step (Stp.rd (Rdo.succ rfl rfl (by omega)) rfl ?_)
      refine WpL.step (Stp.rd (Rdo.assign rfl) rfl ?_)
      refine WpL.nil ?_
      refine Blk.n ?_
      refine Thn.n ?_
      refine Wp.region ?_
      refine WpL.step (Stp.rd (Rdo.succ rfl rfl (by omega)) rfl ?_)
      refine WpL.step (Stp.rd (Rdo.move rfl) rfl ?_)
      refine WpL.nil ?_
      refine Thn.n ?_
      refine ⟨k - 1, _, _, by omega, ⟨i + 1, by omega, rfl, rfl⟩, ?_, ?_⟩
      · simp only [e2]
        exact (by repeat (first | exact trivial | refine ⟨rfl, ?_⟩))
      · rw [e2, List.append_assoc, ← List.take_succ_eq_append_getElem hi, Nat.sub_self, Nat.sub_self]
        exact Gh.tk (by repeat (first | exact Tk.nil | apply Tk.cons (by repeat (first | exact Pk.here | apply Pk.next))))
    · have e1 : min i (512 - ms.length) = 512 - ms.length := by omega
      have e2 : min (i + 1) (512 - ms.length) = 512 - ms.length := by omega
      rw [e1] at s2
      rw [decide_eq_false (by omega), if_neg (by omega)] at s2
      rw [e1]
      refine Wp.seq ?_
      refine Wp.region ?_
      refine WpL.step (Stp.rd (Rdo.lti rfl rfl) rfl ?_)
      refine WpL.nil ?_
      refine Thn.n ?_
      refine Wp.seq ?_
      refine Wp.condK rfl (by first | rfl | assumption | (simp only [decide_eq_true_eq, decide_eq_false_iff_not, Bool.not_eq_true', Bool.not_eq_false', List.length_cons, List.length_nil]; first | assumption | omega) | (simp <;> done) | (simp <;> omega)) ?_
      refine Wp.skip ?_
      refine Thn.n ?_
      refine Wp.seq ?_
      refine Wp.block ?_
      refine Wp.seq ?_
      refine Wp.region ?_
      refine WpL.step (Stp.rd (Rdo.indexSlice rfl rfl (by omega)) rfl ?_)
      refine WpL.step (Stp.rd (Rdo.load rfl (by apply Lds.iall; (first | rfl | assumption | (simp <;> fail)))) rfl ?_)
      (refine WpL.step (Stp.alloc rfl ?_); intro nb15)
      refine WpL.step (Stp.storeV rfl rfl (VC.ag _) (by first | rfl | assumption | (simp <;> done)) (by repeat (first | (apply Sts.all; (focus (first | rfl | assumption | (simp <;> done))); (focus (first | exact oneCells1 rfl | assumption | exact oneCells1 (by assumption) | ((repeat (first | assumption | exact oneCells_nil | exact oneCells_bytesC _ | (apply oneCells_cons; (focus (first | rfl | assumption))) | apply oneCells_append)); done) | (simp [oneCells, Value.oneCell'] <;> done)))) | (apply Sts.lp (by repeat (first | exact LPut.nil _ | apply LPut.here | apply LPut.next)); (focus (first | exact oneCells1 rfl | assumption | exact oneCells1 (by assumption) | ((repeat (first | assumption | exact oneCells_nil | exact oneCells_bytesC _ | (apply oneCells_cons; (focus (first | rfl | assumption))) | apply oneCells_append)); done) | (simp [oneCells, Value.oneCell'] <;> done)))) | (refine Sts.row1 (by first | assumption | omega | (simp <;> omega)) (by first | rfl | assumption)) | (refine Sts.rowP (by assumption) (by first | rfl | assumption | (simp <;> done)) (by rfl) (by (first | exact oneCells1 rfl | assumption | exact oneCells1 (by assumption) | ((repeat (first | assumption | exact oneCells_nil | exact oneCells_bytesC _ | (apply oneCells_cons; (focus (first | rfl | assumption))) | apply oneCells_append)); done) | (simp [oneCells, Value.oneCell'] <;> done)))) | apply Sts.next)) ?_)
      refine WpL.nil ?_
      refine Thn.n ?_
      refine Wp.seq ?_
      refine Wp.draw (by kernel_rfl) ?_
      refine WpR.take (i := 0) rfl (by kernel_rfl) (by kernel_rfl) (by kernel_rfl) (Rdo.move rfl) rfl ?_
      refine WpR.take (i := 1) rfl (by kernel_rfl) (by kernel_rfl) (by kernel_rfl) (Rdo.nilCheck rfl) rfl ?_
      refine WpR.take (i := 2) rfl (by kernel_rfl) (by kernel_rfl) (by kernel_rfl) (Rdo.fieldAddr0 rfl) rfl ?_
      refine WpR.one (i := 3) rfl (by kernel_rfl) (Stp.rd (Rdo.load rfl (by apply Lds.all; (first | rfl | assumption | (simp <;> fail)))) rfl ?_)
      refine WpR.one (i := 4) rfl (by kernel_rfl) (Stp.call (s1) (by kernel_rfl) rfl (by repeat (first | exact Tk.nil | apply Tk.cons (by repeat (first | exact Pk.here | apply Pk.next)))) rfl ?_)
      rintro _ _ ⟨v26_0, ⟨rfl, rfl⟩⟩
      refine WpR.lst (by simp only [List.cons_append, List.nil_append]; exact rfl) ?_
      refine WpR.one (i := 5) rfl (by kernel_rfl) (Stp.call (s2 _) (by kernel_rfl) rfl (by repeat (first | exact Tk.nil | apply Tk.cons (by repeat (first | exact Pk.here | apply Pk.next)))) rfl ?_)
      rintro _ _ ⟨rfl, rfl⟩
      refine WpR.lst (by simp only [List.cons_append, List.nil_append]; exact rfl) ?_
      refine WpR.done (by kernel_rfl) ?_
      refine Thn.n ?_
      refine Wp.condF rfl ?_
      refine Wp.region ?_
      refine WpL.step (Stp.rd (Rdo.move rfl) rfl ?_)
      refine WpL.step (Stp.rd (Rdo.nilCheck rfl) rfl ?_)
      refine WpL.step (Stp.rd (Rdo.fieldAddr0 rfl) rfl ?_)
      refine WpL.ghE (bagA_open (by repeat (first | exact Pk.here | apply Pk.next))) ?_
      rintro ⟨v, css⟩ -
      simp only [bagX, List.cons_append, List.nil_append]
      refine WpL.step (Stp.rd (Rdo.load rfl (Lds.one rfl)) rfl ?_)
      refine WpL.step (Stp.rd (Rdo.add64 rfl rfl (by first | omega | (dsimp only; omega))) rfl ?_)
      refine WpL.step (Stp.rd (Rdo.nilCheck rfl) rfl ?_)
      refine WpL.step (Stp.rd (Rdo.fieldAddr0 rfl) rfl ?_)
      refine WpL.step (Stp.storeV rfl rfl (VC.i _ _) rfl (Sts.lp (by repeat (first | exact LPut.nil _ | apply LPut.here | apply LPut.next)) (oneCells1 rfl)) ?_)
      refine WpL.nil ?_
      refine Blk.n ?_
      refine Thn.n ?_
      refine Wp.region ?_
      refine WpL.step (Stp.rd (Rdo.succ rfl rfl (by omega)) rfl ?_)
      refine WpL.step (Stp.rd (Rdo.move rfl) rfl ?_)
      refine WpL.nil ?_
      refine Thn.n ?_
      refine ⟨k - 1, _, _, by omega, ⟨i + 1, by omega, rfl, rfl⟩, ?_, ?_⟩
      · simp only [e2]
        exact (by repeat (first | exact trivial | refine ⟨rfl, ?_⟩))
      · rw [e2, show lost + ((i + 1 - (512 - ms.length) : Nat) : Int) = lost + ((i - (512 - ms.length) : Nat) : Int) + 1 by omega]
        exact Gh.trans (Gh.tk (by repeat (first | exact Tk.nil | apply Tk.cons (by repeat (first | exact Pk.here | apply Pk.next))))) (bagA_shut (l := [fz (fun g => RdMsgs g (.slice (some ⟨bb, o, none⟩) l.length c0) l)]) v css)
  · have hi' : i = l.length := by omega
    subst hi'
    have e1 : l.take (min l.length (512 - ms.length)) = l.take (512 - ms.length) := by rw [List.take_eq_take_iff]; omega
    rw [e1]
    refine Wp.seq ?_
    refine Wp.region ?_
    refine WpL.step (Stp.rd (Rdo.lti rfl rfl) rfl ?_)
    refine WpL.nil ?_
    refine Thn.n ?_
    refine Wp.seq ?_
    refine Wp.condL rfl (by first | rfl | assumption | (simp only [decide_eq_true_eq, decide_eq_false_iff_not, Bool.not_eq_true', Bool.not_eq_false', List.length_cons, List.length_nil]; first | assumption | omega) | (simp <;> done) | (simp <;> omega)) ?_
    refine Wp.exit ?_
    refine Thn.x ?_
    refine Thn.x ?_
    refine Blk.here ?_
    refine Thn.n ?_
    refine Wp.seq ?_
    refine Wp.region ?_
    refine WpL.step (Stp.rd (Rdo.move rfl) rfl ?_)
    refine WpL.step (Stp.rd (Rdo.assign rfl) rfl ?_)
    refine WpL.nil ?_
    refine Thn.n ?_
    refine Wp.ret ?_
    refine Ret.now (ResV.tmp rfl ResV.nil) (Gh.tk (by repeat (first | exact Tk.nil | apply Tk.cons (by repeat (first | exact Pk.here | apply Pk.next))))) ⟨rfl, rfl⟩
end Go.Proofs.Ytmeaekcengmfbaa
