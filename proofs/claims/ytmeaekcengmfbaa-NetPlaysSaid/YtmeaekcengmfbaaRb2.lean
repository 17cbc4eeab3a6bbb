/- The document's bag: Pull. -/
import Derived.Test.YtmeaekcengmfbaaRb1
namespace Go.Proofs.Ytmeaekcengmfbaa
open Go
set_option maxHeartbeats 4000000
set_option linter.unusedSimpArgs false
set_option linter.unusedVariables false
set_option maxRecDepth 20000

theorem rpull_in (b : Nat) (ms : List Msg) (lost : Int) (i : Nat) (m : Msg) (hm : ms[i]? = some m) (hms : ms.length ≤ 512) :
    Trip Try.prog 23 [vp b 0, vi i] [rbA b ms lost] (fun r l => ∃ x, r = .tuple #[.agg (msgCs m x).toArray, vb true] ∧ l = [rbA b (ms.eraseIdx i) lost, fz (fun g => RdMsg g (msgCs m x) m)]) := by
  obtain ⟨hi, hmi⟩ := List.getElem?_eq_some_iff.1 hm
  refine Trip.ghE (rbA_open Pk.here) ?_
  rintro ⟨v, css⟩ -
  simp only [rbX, List.cons_append, List.nil_append]
  refine Trip.get (Pk.next (Pk.next Pk.here)) rows_one ?_
  intro hall
  refine Trip.ghE (GhE.rowsElem (Pk.next (Pk.next Pk.here)) i hi) ?_
  rintro ⟨X, c, Y⟩ ⟨rfl, hX, hXl, hc⟩
  rw [hmi]
  simp only at hX hXl hc ⊢
  have hone : oneCells c := hall c (by simp)
  have hoX : oneCells X.flatten := oneCells_flatten fun x hx => hall x (by simp [hx])
  have hoY : oneCells Y.flatten := oneCells_flatten fun x hx => hall x (by simp [hx])
  rw [List.flatten_append, List.flatten_cons]
  have hXf : X.flatten.length = i * 39 := by rw [flat_len hXl, hX]
  refine Trip.ghE (GhE.msg Pk.here) ?_
  rintro ⟨⟨a0, c0⟩, ⟨a', c'⟩⟩ rfl
  generalize hcd : msgCs m ((a0, c0), a', c') = c at *
  refine Trip.get (Pk.next (Pk.next (Pk.next (Pk.next Pk.here)))) (fun r => rowA_at i hi) ?_
  rintro ⟨bb, o, cap, rfl⟩
  have h0 : ¬ (i : Int) < 0 := by omega
  have h1 : ¬ (ms.length : Int) ≤ i := by omega
  have hx : X.flatten ++ (c ++ Y.flatten) = X.flatten ++ (c ++ Y.flatten) := rfl
  refine Trip.gh (l' := [cel b 42 [.slice (some ⟨bb, o, none⟩) ms.length cap, vi lost], rowA 30 39 (.slice (some ⟨bb, o, none⟩) ms.length cap) ms.length (X.flatten ++ (c ++ Y.flatten)), fz (fun g => RdBytes g (.slice a0 m.value.length c0) m.value), fz (fun g => RdVotes g (.slice a' m.votes.length c') m.votes), fz (fun g => RdRows g (X ++ c :: Y) ms)]) (Gh.tk (by repeat (first | exact Tk.nil | apply Tk.cons (by repeat (first | exact Pk.here | apply Pk.next))))) ?_
  refine Trip.of_body Try.func23 rfl Try.ntmps23 Try.results23 rfl ?_
  refine Wp.seq ?_
  refine Wp.region ?_
  (refine WpL.step (Stp.alloc rfl ?_); intro nb2)
  refine WpL.step (Stp.rd (Rdo.assign rfl) rfl ?_)
  refine WpL.nil ?_
  refine Thn.n ?_
  refine Wp.seq ?_
  refine Wp.seq ?_
  refine Wp.region ?_
  refine WpL.step (Stp.rd (Rdo.move rfl) rfl ?_)
  refine WpL.step (Stp.rd (Rdo.lti rfl rfl) rfl ?_)
  refine WpL.step (Stp.rd (Rdo.move rfl) rfl ?_)
  refine WpL.want rfl rfl rfl (Stp.rd (Rdo.move rfl) rfl ?_)
  refine WpL.want rfl rfl rfl (Stp.rd (Rdo.move rfl) rfl ?_)
  refine WpL.want rfl rfl rfl (Stp.rd (Rdo.nilCheck rfl) rfl ?_)
  refine WpL.want rfl rfl rfl (Stp.rd (Rdo.fieldAddr0 rfl) rfl ?_)
  refine WpL.want rfl rfl rfl (Stp.rd (Rdo.load rfl (Lds.next (Lds.one rfl))) rfl ?_)
  refine WpL.want rfl rfl rfl (Stp.rd (Rdo.lenSlice rfl) rfl ?_)
  refine WpL.want rfl rfl rfl (Stp.rd (Rdo.gei rfl rfl) rfl ?_)
  refine WpL.step (Stp.rd (Rdo.pick_f rfl rfl) rfl ?_)
  refine WpL.nil ?_
  refine Thn.n ?_
  refine Wp.condL rfl (by first | rfl | assumption | (simp only [decide_eq_true_eq, decide_eq_false_iff_not, Bool.not_eq_true', Bool.not_eq_false', List.length_cons, List.length_nil]; first | assumption | omega) | (simp <;> done) | (simp <;> omega)) ?_
  refine Wp.skip ?_
  refine Thn.n ?_
  refine Wp.seq ?_
  refine Wp.region ?_
  refine WpL.step (Stp.rd (Rdo.move rfl) rfl ?_)
  refine WpL.step (Stp.rd (Rdo.nilCheck rfl) rfl ?_)
  refine WpL.step (Stp.rd (Rdo.fieldAddr0 rfl) rfl ?_)
  refine WpL.step (Stp.rd (Rdo.load rfl (Lds.next (Lds.one rfl))) rfl ?_)
  refine WpL.step (Stp.rd (Rdo.move rfl) rfl ?_)
  refine WpL.step (Stp.rd (Rdo.indexSlice rfl rfl (by omega)) rfl ?_)
  refine WpL.step (Stp.rd (Rdo.load rfl (Lds.next (Lds.next (Lds.row (by assumption) (by first | assumption | omega | (simp <;> omega)) (by first | assumption | rfl))))) rfl ?_)
  (refine WpL.step (Stp.alloc rfl ?_); intro nb34)
  refine WpL.step (Stp.storeV rfl rfl (VC.ag _) (by first | rfl | assumption | (simp <;> done)) (by repeat (first | (apply Sts.all; (focus (first | rfl | assumption | (simp <;> done))); (focus (first | exact oneCells1 rfl | assumption | exact oneCells1 (by assumption) | ((repeat (first | assumption | exact oneCells_nil | exact oneCells_bytesC _ | (apply oneCells_cons; (focus (first | rfl | assumption))) | apply oneCells_append)); done) | (simp [oneCells, Value.oneCell'] <;> done)))) | (apply Sts.lp (by repeat (first | exact LPut.nil _ | apply LPut.here | apply LPut.next)); (focus (first | exact oneCells1 rfl | assumption | exact oneCells1 (by assumption) | ((repeat (first | assumption | exact oneCells_nil | exact oneCells_bytesC _ | (apply oneCells_cons; (focus (first | rfl | assumption))) | apply oneCells_append)); done) | (simp [oneCells, Value.oneCell'] <;> done)))) | (refine Sts.row1 (by first | assumption | omega | (simp <;> omega)) (by first | rfl | assumption)) | (refine Sts.rowP (by assumption) (by first | rfl | assumption | (simp <;> done)) (by rfl) (by (first | exact oneCells1 rfl | assumption | exact oneCells1 (by assumption) | ((repeat (first | assumption | exact oneCells_nil | exact oneCells_bytesC _ | (apply oneCells_cons; (focus (first | rfl | assumption))) | apply oneCells_append)); done) | (simp [oneCells, Value.oneCell'] <;> done)))) | apply Sts.next)) ?_)
  refine WpL.nil ?_
  refine Thn.n ?_
  refine Wp.seq ?_
  refine Wp.draw (by kernel_rfl) ?_
  refine WpR.take (i := 0) rfl (by kernel_rfl) (by kernel_rfl) (by kernel_rfl) (Rdo.move rfl) rfl ?_
  refine WpR.take (i := 2) rfl (by kernel_rfl) (by kernel_rfl) (by kernel_rfl) (Rdo.move rfl) rfl ?_
  refine WpR.take (i := 3) rfl (by kernel_rfl) (by kernel_rfl) (by kernel_rfl) (Rdo.nilCheck rfl) rfl ?_
  refine WpR.take (i := 4) rfl (by kernel_rfl) (by kernel_rfl) (by kernel_rfl) (Rdo.fieldAddr0 rfl) rfl ?_
  refine WpR.take (i := 6) rfl (by kernel_rfl) (by kernel_rfl) (by kernel_rfl) (Rdo.move rfl) rfl ?_
  refine WpR.take (i := 9) rfl (by kernel_rfl) (by kernel_rfl) (by kernel_rfl) (Rdo.move rfl) rfl ?_
  refine WpR.take (i := 10) rfl (by kernel_rfl) (by kernel_rfl) (by kernel_rfl) (Rdo.nilCheck rfl) rfl ?_
  refine WpR.take (i := 11) rfl (by kernel_rfl) (by kernel_rfl) (by kernel_rfl) (Rdo.fieldAddr0 rfl) rfl ?_
  refine WpR.take (i := 13) rfl (by kernel_rfl) (by kernel_rfl) (by kernel_rfl) (Rdo.move rfl) rfl ?_
  refine WpR.take (i := 14) rfl (by kernel_rfl) (by kernel_rfl) (by kernel_rfl) (Rdo.succ rfl rfl (by omega)) rfl ?_
  refine WpR.ghE (GhE.rowOpen (Pk.next (Pk.next (Pk.next Pk.here)))) ?_
  rintro ⟨A, B⟩ ⟨hxl, hA, hnc, hcap⟩
  simp only at hA hcap ⊢
  have hYl : Y.flatten.length = (ms.length - (i + 1)) * 39 := by
    simp only [List.length_append, hXf, hc] at hxl
    omega
  have hsrc1 : ∀ l, Src Try.prog (cel bb 30 (A ++ ((X.flatten ++ (c ++ Y.flatten)) ++ B)) :: l) 39 (.slice (some ⟨bb, o, none⟩) i cap) i X.flatten := fun l => by
    rw [show A ++ ((X.flatten ++ (c ++ Y.flatten)) ++ B) = A ++ (X.flatten ++ ((c ++ Y.flatten) ++ B)) by simp]
    exact Src.piece hXf hA
  have hsrc2 : ∀ l, Src Try.prog (cel bb 30 (A ++ ((X.flatten ++ (c ++ Y.flatten)) ++ B)) :: l) 39 (.slice (some (slA bb o (i + 1) cap 39)) (ms.length - (i + 1)) (cap - (i + 1))) (ms.length - (i + 1)) Y.flatten := fun l => by
    by_cases h0 : ms.length = i + 1
    · rw [show Y.flatten = [] from List.eq_nil_of_length_eq_zero (by rw [hYl]; omega), show ms.length - (i + 1) = 0 by omega]
      exact Src.none_
    · rw [slA_ne (by omega), show A ++ ((X.flatten ++ (c ++ Y.flatten)) ++ B) = (A ++ (X.flatten ++ c)) ++ (Y.flatten ++ B) by simp]
      exact Src.piece hYl (by simp only [List.length_append]; omega)
  refine WpR.phaseL (m := 3) #[true, true, true, true, true, true, true, true, true, true, true, true, true, true, true, true, true, false, false, false] 7 [cel b 42 [.slice (some ⟨bb, o, none⟩) ms.length cap, vi lost]] rfl (by kernel_rfl) (by repeat (first | exact Tk.nil | apply Tk.cons (by repeat (first | exact Pk.here | apply Pk.next)))) ?_
  refine WpA.take (i := 5) rfl rfl (by kernel_rfl) (by kernel_rfl) (by kernel_rfl) (Rdo.load rfl (Lds.one rfl)) rfl ?_
  refine WpA.take (i := 7) rfl rfl (by kernel_rfl) (by kernel_rfl) (by kernel_rfl) (Rdo.sl_h i rfl rfl rfl (by omega)) rfl ?_
  refine WpA.take (i := 12) rfl rfl (by kernel_rfl) (by kernel_rfl) (by kernel_rfl) (Rdo.load rfl (Lds.one rfl)) rfl ?_
  refine WpA.take (i := 15) rfl rfl (by kernel_rfl) (by kernel_rfl) (by kernel_rfl) (Rdo.sl_l (i + 1) rfl rfl (by omega) (by omega)) rfl ?_
  refine WpA.one (i := 1) rfl (by kernel_rfl) (Stp.slice (vs := []) (cs := []) rfl rfl (by simp) (by simp) (by omega) rfl ?_)
  intro nr
  refine WpA.gh (Gh.row (n := 0) (sz := 39) Pk.here rfl) ?_
  refine WpA.one (i := 8) rfl (by kernel_rfl) (Stp.tk (pre := [rowA 30 39 (.slice (some ⟨nr, 0, none⟩) 0 0) 0 [], cel bb 30 (A ++ ((X.flatten ++ (c ++ Y.flatten)) ++ B))]) (by repeat (first | exact Tk.nil | apply Tk.cons (by repeat (first | exact Pk.here | apply Pk.next)))) (Stp.append0 (m := i) (news := X.flatten) rfl rfl (hsrc1 _) hXf hoX (by omega) (by omega) rfl (by rfl) ?_))
  intro a2 c2
  refine WpA.one (i := 16) rfl (by kernel_rfl) (Stp.tk (pre := [rowA 30 39 (.slice a2 i c2) i X.flatten, cel bb 30 (A ++ ((X.flatten ++ (c ++ Y.flatten)) ++ B))]) (by repeat (first | exact Tk.nil | apply Tk.cons (by repeat (first | exact Pk.here | apply Pk.next)))) (Stp.append (m := ms.length - (i + 1)) (news := Y.flatten) rfl rfl (hsrc2 _) hYl hoY (by omega) (by omega) rfl (by rfl) ?_))
  intro a3 c3
  refine WpA.stop (by kernel_rfl) ?_
  refine WpR.take (i := 17) rfl (by kernel_rfl) (by kernel_rfl) (by kernel_rfl) (Rdo.nilCheck rfl) rfl ?_
  refine WpR.take (i := 18) rfl (by kernel_rfl) (by kernel_rfl) (by kernel_rfl) (Rdo.fieldAddr0 rfl) rfl ?_
  refine WpR.one (i := 19) rfl (by kernel_rfl) (Stp.storeV rfl rfl (VC.sl _ _ _) rfl (Sts.lp (by repeat (first | exact LPut.nil _ | apply LPut.here | apply LPut.next)) (oneCells1 rfl)) ?_)
  refine WpR.done (by kernel_rfl) ?_
  refine Thn.n ?_
  refine Wp.seq ?_
  refine Wp.region ?_
  refine WpL.step (Stp.rd (Rdo.load rfl (Lds.next (Lds.next (Lds.next (by apply Lds.all; (first | rfl | assumption | (simp <;> fail))))))) rfl ?_)
  refine WpL.step (Stp.storeV rfl rfl (VC.ag _) (by first | rfl | assumption | (simp <;> done)) (by repeat (first | (apply Sts.all; (focus (first | rfl | assumption | (simp <;> done))); (focus (first | exact oneCells1 rfl | assumption | exact oneCells1 (by assumption) | ((repeat (first | assumption | exact oneCells_nil | exact oneCells_bytesC _ | (apply oneCells_cons; (focus (first | rfl | assumption))) | apply oneCells_append)); done) | (simp [oneCells, Value.oneCell'] <;> done)))) | (apply Sts.lp (by repeat (first | exact LPut.nil _ | apply LPut.here | apply LPut.next)); (focus (first | exact oneCells1 rfl | assumption | exact oneCells1 (by assumption) | ((repeat (first | assumption | exact oneCells_nil | exact oneCells_bytesC _ | (apply oneCells_cons; (focus (first | rfl | assumption))) | apply oneCells_append)); done) | (simp [oneCells, Value.oneCell'] <;> done)))) | (refine Sts.row1 (by first | assumption | omega | (simp <;> omega)) (by first | rfl | assumption)) | (refine Sts.rowP (by assumption) (by first | rfl | assumption | (simp <;> done)) (by rfl) (by (first | exact oneCells1 rfl | assumption | exact oneCells1 (by assumption) | ((repeat (first | assumption | exact oneCells_nil | exact oneCells_bytesC _ | (apply oneCells_cons; (focus (first | rfl | assumption))) | apply oneCells_append)); done) | (simp [oneCells, Value.oneCell'] <;> done)))) | apply Sts.next)) ?_)
  refine WpL.step (Stp.rd (Rdo.assign rfl) rfl ?_)
  refine WpL.nil ?_
  refine Thn.n ?_
  refine Wp.ret ?_
  have hle : (ms.eraseIdx i).length = i + (ms.length - (i + 1)) := by rw [List.length_eraseIdx, if_pos hi]; omega
  have hfl : X.flatten ++ Y.flatten = (X ++ Y).flatten := by simp
  subst hcd
  refine Ret.now (ResV.cell rfl (by repeat (first | exact Lds.one rfl | (apply Lds.all; (first | rfl | assumption | (simp <;> fail))) | exact Lds.ione0 | exact Lds.ione rfl | (apply Lds.iall; (first | rfl | assumption | (simp <;> fail))) | apply Lds.next)) (ResV.tmp rfl ResV.nil)) ?_ ⟨_, ⟨rfl, rfl⟩⟩
  refine Gh.trans (Gh.fzImp (Φ := fun g => RdRows g (X ++ msgCs m ((a0, c0), a', c') :: Y) ms) (Ψ := fun g => RdRows g (X ++ Y) (ms.eraseIdx i)) (by repeat (first | exact Pk.here | apply Pk.next)) fun g h => hX ▸ h.del) ?_
  refine Gh.trans (Gh.mkMsg (m := m) (sv := .slice a0 m.value.length c0) (vv := .slice a' m.votes.length c') (by repeat (first | exact Pk.here | apply Pk.next)) (by repeat (first | exact Pk.here | apply Pk.next))) ?_
  rw [← hle, hfl]
  have g := rbA_shut (b := b) (ms := ms.eraseIdx i) (lost := lost) (l := [fz (fun g => RdMsg g (msgCs m ((a0, c0), a', c')) m)]) (.slice a3 (ms.eraseIdx i).length c3) (X ++ Y)
  exact Gh.trans (Gh.tk (by repeat (first | exact Tk.nil | apply Tk.cons (by repeat (first | exact Pk.here | apply Pk.next))))) g
end Go.Proofs.Ytmeaekcengmfbaa
