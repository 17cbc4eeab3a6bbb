/- The wire: an operation as bytes. -/
import Derived.Test.YtccgdnocldmjeaaDoorWir2
import Derived.Test.YtccgdnocldmjeaaDoorCvt
namespace Go.Proofs.YtccgdnocldmjeaaDoor
open Go
set_option maxHeartbeats 4000000
set_option linter.unusedSimpArgs false
set_option linter.unusedVariables false
set_option maxRecDepth 20000

def numI (n : Int) : List UInt8 := numB (clampN n)
/-- An operation's bytes. -/
def opB (o : Go.Proofs.YtccgdnocldmjeaaDoor.Op) : List UInt8 := numsB [2, o.kind, o.client, o.seq] ++ rowB o.name ++ numsB [o.producer, o.epoch, o.txn, o.part, if o.commit = true then 1 else 0]
theorem wr0 {w : Nat} {l rest : List HP} (hp : Pk l (cel w 85 [.slice none 0 0]) rest) : Gh l (wrA w [] :: rest) :=
  Gh.trans (Gh.front hp) (Gh.trans (Gh.nil 5 1) (Gh.trans (Gh.perm (List.Perm.swap _ _ _)) (wrA_shut (a := none) (c := 0) (bs := []))))
theorem bytesR_ok (w nb : Nat) (bs : List UInt8) (v : Value) (xs : List UInt8) (hl : bs.length + xs.length ≤ 1000000000000) :
    Trip Tryd.prog 34 [vp w 0, .slice (some ⟨nb, 0, none⟩) 1 1] [wrA w bs, cel nb 38 [v], rowA 5 1 v xs.length (bytesC xs)]
      (fun r l => r = .tuple #[] ∧ l = [wrA w (bs ++ rowB xs)]) := by
  refine Trip.gh (Gh.trans (Gh.ice (Pk.next (Pk.next Pk.here))) (Gh.tk (by repeat (first | exact Tk.nil | apply Tk.cons (by repeat (first | exact Pk.here | apply Pk.next)))))) (Trip.via (rest := []) (bytes_ok w nb bs v xs hl) Tk.rfl_ ?_)
  rintro r l ⟨rfl, rfl⟩
  exact ⟨_, ⟨rfl, rfl⟩, Gh.tk (by repeat (first | exact Tk.nil | apply Tk.cons (by repeat (first | exact Pk.here | apply Pk.next))))⟩
theorem opB_len (o : Go.Proofs.YtccgdnocldmjeaaDoor.Op) (hl : o.name.length ≤ 1000000) : (opB o).length ≤ 2000000 := by
  have h1 := numsB_len [2, o.kind, o.client, o.seq]
  have h2 := numsB_len [o.producer, o.epoch, o.txn, o.part, if o.commit = true then 1 else 0]
  have h3 : (numB o.name.length).length ≤ 9 := numB_len 8 _ (by omega)
  simp only [List.length_cons, List.length_nil] at h1 h2
  simp only [opB, rowB, List.length_append]
  omega
theorem encOp_no (o : Go.Proofs.YtccgdnocldmjeaaDoor.Op) (hl : o.name.length ≤ 1000000) (h : ¬ okOp o) : Trip Tryd.prog 24 [.agg (opC o).toArray] [] (fun r l => r = .tuple #[vnil, vi 1] ∧ l = []) := by
  have s1 := isOp_ok o hl
  rw [decide_eq_false h] at s1
  refine Trip.of_body Tryd.func24 rfl Tryd.ntmps24 Tryd.results24 rfl ?_
  refine Wp.seq ?_
  refine Wp.region ?_
  (refine WpL.step (Stp.boxV rfl (VC.ag _) rfl ?_); intro nb2)
  refine WpL.step (Stp.rd (Rdo.assign rfl) rfl ?_)
  refine WpL.step (Stp.rd (Rdo.assign rfl) rfl ?_)
  refine WpL.nil ?_
  refine Thn.n ?_
  refine Wp.seq ?_
  refine Wp.seq ?_
  refine Wp.region ?_
  refine WpL.step (Stp.rd (Rdo.load rfl (by apply Lds.all; (first | rfl | assumption | (simp <;> fail)))) rfl ?_)
  refine WpL.step (Stp.call (s1) (by kernel_rfl) rfl (by repeat (first | exact Tk.nil | apply Tk.cons (by repeat (first | exact Pk.here | apply Pk.next)))) rfl ?_)
  rintro _ _ ⟨rfl, rfl⟩
  refine WpL.lst (by simp only [List.cons_append, List.nil_append]; exact rfl) ?_
  refine WpL.step (Stp.rd (Rdo.not rfl) rfl ?_)
  refine WpL.nil ?_
  refine Thn.n ?_
  refine Wp.condT rfl ?_
  refine Wp.seq ?_
  refine Wp.region ?_
  refine WpL.step (Stp.rd (Rdo.assign rfl) rfl ?_)
  refine WpL.step (Stp.rd (Rdo.assign rfl) rfl ?_)
  refine WpL.nil ?_
  refine Thn.n ?_
  refine Wp.ret ?_
  refine Thn.r ?_
  refine Ret.now (ResV.tmp rfl (ResV.tmp rfl ResV.nil)) (Gh.tk (by repeat (first | exact Tk.nil | apply Tk.cons (by repeat (first | exact Pk.here | apply Pk.next))))) ⟨rfl, rfl⟩
theorem encOp_ok (o : Go.Proofs.YtccgdnocldmjeaaDoor.Op) (h : okOp o) (hl : o.name.length ≤ 1000000) : Trip Tryd.prog 24 [.agg (opC o).toArray] []
    (fun r l => ∃ a c, r = .tuple #[.slice a (opB o).length c, vi 0] ∧ l = [fz (fun g => RdBytes g (.slice a (opB o).length c) (opB o))]) := by
  have s1 := isOp_ok o hl
  rw [decide_eq_true h] at s1
  cases hc : o.commit with
  | true =>
    refine Trip.of_body Tryd.func24 rfl Tryd.ntmps24 Tryd.results24 rfl ?_
    refine Wp.seq ?_
    refine Wp.region ?_
    (refine WpL.step (Stp.boxV rfl (VC.ag _) rfl ?_); intro nb2)
    refine WpL.step (Stp.rd (Rdo.assign rfl) rfl ?_)
    refine WpL.step (Stp.rd (Rdo.assign rfl) rfl ?_)
    refine WpL.nil ?_
    refine Thn.n ?_
    refine Wp.seq ?_
    refine Wp.seq ?_
    refine Wp.region ?_
    refine WpL.step (Stp.rd (Rdo.load rfl (by apply Lds.all; (first | rfl | assumption | (simp <;> fail)))) rfl ?_)
    refine WpL.step (Stp.call (s1) (by kernel_rfl) rfl (by repeat (first | exact Tk.nil | apply Tk.cons (by repeat (first | exact Pk.here | apply Pk.next)))) rfl ?_)
    rintro _ _ ⟨rfl, rfl⟩
    refine WpL.lst (by simp only [List.cons_append, List.nil_append]; exact rfl) ?_
    refine WpL.step (Stp.rd (Rdo.not rfl) rfl ?_)
    refine WpL.nil ?_
    refine Thn.n ?_
    refine Wp.condF rfl ?_
    refine Wp.skip ?_
    refine Thn.n ?_
    refine Wp.seq ?_
    refine Wp.region ?_
    refine WpL.step (Stp.rd (Rdo.assign rfl) rfl ?_)
    refine WpL.nil ?_
    refine Thn.n ?_
    refine Wp.seq ?_
    refine Wp.seq ?_
    refine Wp.region ?_
    refine WpL.step (Stp.rd (Rdo.fieldAddr0 rfl) rfl ?_)
    refine WpL.step (Stp.rd (Rdo.load rfl (Lds.one rfl)) rfl ?_)
    refine WpL.nil ?_
    refine Thn.n ?_
    refine Wp.condK rfl (by first | rfl | assumption | (simp only [decide_eq_true_eq, decide_eq_false_iff_not, Bool.not_eq_true', Bool.not_eq_false', List.length_cons, List.length_nil]; first | assumption | omega) | (simp <;> done) | (simp <;> omega)) ?_
    refine Wp.region ?_
    refine WpL.step (Stp.rd (Rdo.assign rfl) rfl ?_)
    refine WpL.nil ?_
    refine Thn.n ?_
    refine Wp.seq ?_
    refine Wp.region ?_
    (refine WpL.step (Stp.alloc rfl ?_); intro nb39)
    refine WpL.nil ?_
    refine Thn.n ?_
    refine Wp.seq ?_
    refine Wp.region ?_
    refine WpL.step (Stp.rd (Rdo.fieldAddr0 rfl) rfl ?_)
    refine WpL.step (Stp.rd (Rdo.load rfl (Lds.next (Lds.one rfl))) rfl ?_)
    refine WpL.step (Stp.rd (Rdo.fieldAddr0 rfl) rfl ?_)
    refine WpL.step (Stp.rd (Rdo.load rfl (Lds.next (Lds.one rfl))) rfl ?_)
    refine WpL.step (Stp.rd (Rdo.fieldAddr0 rfl) rfl ?_)
    refine WpL.step (Stp.rd (Rdo.load rfl (Lds.next (Lds.one rfl))) rfl ?_)
    (refine WpL.step (Stp.sliceV rfl rfl (VCs.cons (VC.i _ _) (by first | rfl | assumption | (simp <;> done)) (VCs.cons (VC.i _ _) (by first | rfl | assumption | (simp <;> done)) (VCs.cons (VC.i _ _) (by first | rfl | assumption | (simp <;> done)) (VCs.cons (VC.i _ _) (by first | rfl | assumption | (simp <;> done)) VCs.nil)))) (by simp only [List.cons_append, List.nil_append, List.append_nil]; exact rfl) rfl rfl ?_); intro nb50)
    have h1 := numsB_len [2, o.kind, o.client, o.seq]
    have h3 : (numB o.name.length).length ≤ 9 := numB_len 8 _ (by omega)
    simp only [List.length_cons, List.length_nil] at h1
    refine WpL.gh (wr0 (Pk.next Pk.here)) ?_
    have n1 : ∀ nb, Trip Tryd.prog 33 [vp nb39 0, .slice (some ⟨nb, 0, none⟩) 4 4] [wrA nb39 [], cel nb 3 [vi 2, vi o.kind, vi o.client, vi o.seq]] (fun r l => r = .tuple #[] ∧ l = [wrA nb39 (numsB [2, o.kind, o.client, o.seq])]) := fun nb => nums_ok nb39 nb [] [2, o.kind, o.client, o.seq] (by simp)
    have n2 := fun nb v => bytes_ok nb39 nb (numsB [2, o.kind, o.client, o.seq]) v o.name (by omega)
    have n3 : ∀ nb, Trip Tryd.prog 33 [vp nb39 0, .slice (some ⟨nb, 0, none⟩) 5 5] [wrA nb39 (numsB [2, o.kind, o.client, o.seq] ++ rowB o.name), cel nb 3 [vi o.producer, vi o.epoch, vi o.txn, vi o.part, vi 1]] (fun r l => r = .tuple #[] ∧ l = [wrA nb39 (opB o)]) := by
      intro nb
      have h := nums_ok nb39 nb (numsB [2, o.kind, o.client, o.seq] ++ rowB o.name) [o.producer, o.epoch, o.txn, o.part, 1] (by simp [rowB]; omega)
      have e : opB o = numsB [2, o.kind, o.client, o.seq] ++ rowB o.name ++ numsB [o.producer, o.epoch, o.txn, o.part, 1] := by unfold opB; rw [hc]; rfl
      rw [e]
      exact h
    have n4 := out_ok nb39 (opB o) (by have := opB_len o hl; omega)
    refine WpL.step (Stp.call (n1 _) (by kernel_rfl) rfl (by repeat (first | exact Tk.nil | apply Tk.cons (by repeat (first | exact Pk.here | apply Pk.next)))) rfl ?_)
    rintro _ _ ⟨rfl, rfl⟩
    refine WpL.lst (by simp only [List.cons_append, List.nil_append]; exact rfl) ?_
    refine WpL.nil ?_
    refine Thn.n ?_
    refine Wp.seq ?_
    refine Wp.region ?_
    refine WpL.step (Stp.rd (Rdo.fieldAddr0 rfl) rfl ?_)
    refine WpL.step (Stp.rd (Rdo.load rfl (Lds.next (Lds.one rfl))) rfl ?_)
    (refine WpL.step (Stp.strBytes rfl rfl ?_); intro na9 nc9)
    (refine WpL.step (Stp.sliceV rfl rfl (VCs.cons (VC.sl _ _ _) (by first | rfl | assumption | (simp <;> done)) VCs.nil) (by simp only [List.cons_append, List.nil_append, List.append_nil]; exact rfl) rfl rfl ?_); intro nb10)
    refine WpL.step (Stp.call (n2 _ _) (by kernel_rfl) rfl (by repeat (first | exact Tk.nil | apply Tk.cons (by repeat (first | exact Pk.here | apply Pk.next)))) rfl ?_)
    rintro _ _ ⟨rfl, rfl⟩
    refine WpL.lst (by simp only [List.cons_append, List.nil_append]; exact rfl) ?_
    refine WpL.nil ?_
    refine Thn.n ?_
    refine Wp.seq ?_
    refine Wp.region ?_
    refine WpL.step (Stp.rd (Rdo.fieldAddr0 rfl) rfl ?_)
    refine WpL.step (Stp.rd (Rdo.load rfl (Lds.next (Lds.next (Lds.one rfl)))) rfl ?_)
    refine WpL.step (Stp.rd (Rdo.fieldAddr0 rfl) rfl ?_)
    refine WpL.step (Stp.rd (Rdo.load rfl (Lds.next (Lds.next (Lds.one rfl)))) rfl ?_)
    refine WpL.step (Stp.rd (Rdo.fieldAddr0 rfl) rfl ?_)
    refine WpL.step (Stp.rd (Rdo.load rfl (Lds.next (Lds.next (Lds.one rfl)))) rfl ?_)
    refine WpL.step (Stp.rd (Rdo.fieldAddr0 rfl) rfl ?_)
    refine WpL.step (Stp.rd (Rdo.load rfl (Lds.next (Lds.next (Lds.one rfl)))) rfl ?_)
    refine WpL.step (Stp.rd (Rdo.move rfl) rfl ?_)
    (refine WpL.step (Stp.sliceV rfl rfl (VCs.cons (VC.i _ _) (by first | rfl | assumption | (simp <;> done)) (VCs.cons (VC.i _ _) (by first | rfl | assumption | (simp <;> done)) (VCs.cons (VC.i _ _) (by first | rfl | assumption | (simp <;> done)) (VCs.cons (VC.i _ _) (by first | rfl | assumption | (simp <;> done)) (VCs.cons (VC.i _ _) (by first | rfl | assumption | (simp <;> done)) VCs.nil))))) (by simp only [List.cons_append, List.nil_append, List.append_nil]; exact rfl) rfl rfl ?_); intro nb27)
    refine WpL.step (Stp.call (n3 _) (by kernel_rfl) rfl (by repeat (first | exact Tk.nil | apply Tk.cons (by repeat (first | exact Pk.here | apply Pk.next)))) rfl ?_)
    rintro _ _ ⟨rfl, rfl⟩
    refine WpL.lst (by simp only [List.cons_append, List.nil_append]; exact rfl) ?_
    refine WpL.nil ?_
    refine Thn.n ?_
    refine Wp.seq ?_
    refine Wp.region ?_
    refine WpL.step (Stp.call (n4) (by kernel_rfl) rfl (by repeat (first | exact Tk.nil | apply Tk.cons (by repeat (first | exact Pk.here | apply Pk.next)))) rfl ?_)
    rintro _ _ ⟨v36_0, ⟨v36_1, ⟨rfl, rfl⟩⟩⟩
    refine WpL.lst (by simp only [List.cons_append, List.nil_append]; exact rfl) ?_
    refine WpL.step (Stp.rd (Rdo.assign rfl) rfl ?_)
    refine WpL.step (Stp.rd (Rdo.assign rfl) rfl ?_)
    refine WpL.nil ?_
    refine Thn.n ?_
    refine Wp.ret ?_
    refine Ret.now (ResV.tmp rfl (ResV.tmp rfl ResV.nil)) (Gh.tk (by repeat (first | exact Tk.nil | apply Tk.cons (by repeat (first | exact Pk.here | apply Pk.next))))) ⟨_, ⟨_, ⟨rfl, rfl⟩⟩⟩


  | false =>
    refine Trip.of_body Tryd.func24 rfl Tryd.ntmps24 Tryd.results24 rfl ?_
    refine Wp.seq ?_
    refine Wp.region ?_
    (refine WpL.step (Stp.boxV rfl (VC.ag _) rfl ?_); intro nb2)
    refine WpL.step (Stp.rd (Rdo.assign rfl) rfl ?_)
    refine WpL.step (Stp.rd (Rdo.assign rfl) rfl ?_)
    refine WpL.nil ?_
    refine Thn.n ?_
    refine Wp.seq ?_
    refine Wp.seq ?_
    refine Wp.region ?_
    refine WpL.step (Stp.rd (Rdo.load rfl (by apply Lds.all; (first | rfl | assumption | (simp <;> fail)))) rfl ?_)
    refine WpL.step (Stp.call (s1) (by kernel_rfl) rfl (by repeat (first | exact Tk.nil | apply Tk.cons (by repeat (first | exact Pk.here | apply Pk.next)))) rfl ?_)
    rintro _ _ ⟨rfl, rfl⟩
    refine WpL.lst (by simp only [List.cons_append, List.nil_append]; exact rfl) ?_
    refine WpL.step (Stp.rd (Rdo.not rfl) rfl ?_)
    refine WpL.nil ?_
    refine Thn.n ?_
    refine Wp.condF rfl ?_
    refine Wp.skip ?_
    refine Thn.n ?_
    refine Wp.seq ?_
    refine Wp.region ?_
    refine WpL.step (Stp.rd (Rdo.assign rfl) rfl ?_)
    refine WpL.nil ?_
    refine Thn.n ?_
    refine Wp.seq ?_
    refine Wp.seq ?_
    refine Wp.region ?_
    refine WpL.step (Stp.rd (Rdo.fieldAddr0 rfl) rfl ?_)
    refine WpL.step (Stp.rd (Rdo.load rfl (Lds.one rfl)) rfl ?_)
    refine WpL.nil ?_
    refine Thn.n ?_
    refine Wp.condL rfl (by first | rfl | assumption | (simp only [decide_eq_true_eq, decide_eq_false_iff_not, Bool.not_eq_true', Bool.not_eq_false', List.length_cons, List.length_nil]; first | assumption | omega) | (simp <;> done) | (simp <;> omega)) ?_
    refine Wp.skip ?_
    refine Thn.n ?_
    refine Wp.seq ?_
    refine Wp.region ?_
    (refine WpL.step (Stp.alloc rfl ?_); intro nb37)
    refine WpL.nil ?_
    refine Thn.n ?_
    refine Wp.seq ?_
    refine Wp.region ?_
    refine WpL.step (Stp.rd (Rdo.fieldAddr0 rfl) rfl ?_)
    refine WpL.step (Stp.rd (Rdo.load rfl (Lds.next (Lds.one rfl))) rfl ?_)
    refine WpL.step (Stp.rd (Rdo.fieldAddr0 rfl) rfl ?_)
    refine WpL.step (Stp.rd (Rdo.load rfl (Lds.next (Lds.one rfl))) rfl ?_)
    refine WpL.step (Stp.rd (Rdo.fieldAddr0 rfl) rfl ?_)
    refine WpL.step (Stp.rd (Rdo.load rfl (Lds.next (Lds.one rfl))) rfl ?_)
    (refine WpL.step (Stp.sliceV rfl rfl (VCs.cons (VC.i _ _) (by first | rfl | assumption | (simp <;> done)) (VCs.cons (VC.i _ _) (by first | rfl | assumption | (simp <;> done)) (VCs.cons (VC.i _ _) (by first | rfl | assumption | (simp <;> done)) (VCs.cons (VC.i _ _) (by first | rfl | assumption | (simp <;> done)) VCs.nil)))) (by simp only [List.cons_append, List.nil_append, List.append_nil]; exact rfl) rfl rfl ?_); intro nb48)
    have h1 := numsB_len [2, o.kind, o.client, o.seq]
    have h3 : (numB o.name.length).length ≤ 9 := numB_len 8 _ (by omega)
    simp only [List.length_cons, List.length_nil] at h1
    refine WpL.gh (wr0 (Pk.next Pk.here)) ?_
    have n1 : ∀ nb, Trip Tryd.prog 33 [vp nb37 0, .slice (some ⟨nb, 0, none⟩) 4 4] [wrA nb37 [], cel nb 3 [vi 2, vi o.kind, vi o.client, vi o.seq]] (fun r l => r = .tuple #[] ∧ l = [wrA nb37 (numsB [2, o.kind, o.client, o.seq])]) := fun nb => nums_ok nb37 nb [] [2, o.kind, o.client, o.seq] (by simp)
    have n2 := fun nb v => bytes_ok nb37 nb (numsB [2, o.kind, o.client, o.seq]) v o.name (by omega)
    have n3 : ∀ nb, Trip Tryd.prog 33 [vp nb37 0, .slice (some ⟨nb, 0, none⟩) 5 5] [wrA nb37 (numsB [2, o.kind, o.client, o.seq] ++ rowB o.name), cel nb 3 [vi o.producer, vi o.epoch, vi o.txn, vi o.part, vi 0]] (fun r l => r = .tuple #[] ∧ l = [wrA nb37 (opB o)]) := by
      intro nb
      have h := nums_ok nb37 nb (numsB [2, o.kind, o.client, o.seq] ++ rowB o.name) [o.producer, o.epoch, o.txn, o.part, 0] (by simp [rowB]; omega)
      have e : opB o = numsB [2, o.kind, o.client, o.seq] ++ rowB o.name ++ numsB [o.producer, o.epoch, o.txn, o.part, 0] := by unfold opB; rw [hc]; rfl
      rw [e]
      exact h
    have n4 := out_ok nb37 (opB o) (by have := opB_len o hl; omega)
    refine WpL.step (Stp.call (n1 _) (by kernel_rfl) rfl (by repeat (first | exact Tk.nil | apply Tk.cons (by repeat (first | exact Pk.here | apply Pk.next)))) rfl ?_)
    rintro _ _ ⟨rfl, rfl⟩
    refine WpL.lst (by simp only [List.cons_append, List.nil_append]; exact rfl) ?_
    refine WpL.nil ?_
    refine Thn.n ?_
    refine Wp.seq ?_
    refine Wp.region ?_
    refine WpL.step (Stp.rd (Rdo.fieldAddr0 rfl) rfl ?_)
    refine WpL.step (Stp.rd (Rdo.load rfl (Lds.next (Lds.one rfl))) rfl ?_)
    (refine WpL.step (Stp.strBytes rfl rfl ?_); intro na9 nc9)
    (refine WpL.step (Stp.sliceV rfl rfl (VCs.cons (VC.sl _ _ _) (by first | rfl | assumption | (simp <;> done)) VCs.nil) (by simp only [List.cons_append, List.nil_append, List.append_nil]; exact rfl) rfl rfl ?_); intro nb10)
    refine WpL.step (Stp.call (n2 _ _) (by kernel_rfl) rfl (by repeat (first | exact Tk.nil | apply Tk.cons (by repeat (first | exact Pk.here | apply Pk.next)))) rfl ?_)
    rintro _ _ ⟨rfl, rfl⟩
    refine WpL.lst (by simp only [List.cons_append, List.nil_append]; exact rfl) ?_
    refine WpL.nil ?_
    refine Thn.n ?_
    refine Wp.seq ?_
    refine Wp.region ?_
    refine WpL.step (Stp.rd (Rdo.fieldAddr0 rfl) rfl ?_)
    refine WpL.step (Stp.rd (Rdo.load rfl (Lds.next (Lds.next (Lds.one rfl)))) rfl ?_)
    refine WpL.step (Stp.rd (Rdo.fieldAddr0 rfl) rfl ?_)
    refine WpL.step (Stp.rd (Rdo.load rfl (Lds.next (Lds.next (Lds.one rfl)))) rfl ?_)
    refine WpL.step (Stp.rd (Rdo.fieldAddr0 rfl) rfl ?_)
    refine WpL.step (Stp.rd (Rdo.load rfl (Lds.next (Lds.next (Lds.one rfl)))) rfl ?_)
    refine WpL.step (Stp.rd (Rdo.fieldAddr0 rfl) rfl ?_)
    refine WpL.step (Stp.rd (Rdo.load rfl (Lds.next (Lds.next (Lds.one rfl)))) rfl ?_)
    refine WpL.step (Stp.rd (Rdo.move rfl) rfl ?_)
    (refine WpL.step (Stp.sliceV rfl rfl (VCs.cons (VC.i _ _) (by first | rfl | assumption | (simp <;> done)) (VCs.cons (VC.i _ _) (by first | rfl | assumption | (simp <;> done)) (VCs.cons (VC.i _ _) (by first | rfl | assumption | (simp <;> done)) (VCs.cons (VC.i _ _) (by first | rfl | assumption | (simp <;> done)) (VCs.cons (VC.i _ _) (by first | rfl | assumption | (simp <;> done)) VCs.nil))))) (by simp only [List.cons_append, List.nil_append, List.append_nil]; exact rfl) rfl rfl ?_); intro nb27)
    refine WpL.step (Stp.call (n3 _) (by kernel_rfl) rfl (by repeat (first | exact Tk.nil | apply Tk.cons (by repeat (first | exact Pk.here | apply Pk.next)))) rfl ?_)
    rintro _ _ ⟨rfl, rfl⟩
    refine WpL.lst (by simp only [List.cons_append, List.nil_append]; exact rfl) ?_
    refine WpL.nil ?_
    refine Thn.n ?_
    refine Wp.seq ?_
    refine Wp.region ?_
    refine WpL.step (Stp.call (n4) (by kernel_rfl) rfl (by repeat (first | exact Tk.nil | apply Tk.cons (by repeat (first | exact Pk.here | apply Pk.next)))) rfl ?_)
    rintro _ _ ⟨v36_0, ⟨v36_1, ⟨rfl, rfl⟩⟩⟩
    refine WpL.lst (by simp only [List.cons_append, List.nil_append]; exact rfl) ?_
    refine WpL.step (Stp.rd (Rdo.assign rfl) rfl ?_)
    refine WpL.step (Stp.rd (Rdo.assign rfl) rfl ?_)
    refine WpL.nil ?_
    refine Thn.n ?_
    refine Wp.ret ?_
    refine Ret.now (ResV.tmp rfl (ResV.tmp rfl ResV.nil)) (Gh.tk (by repeat (first | exact Tk.nil | apply Tk.cons (by repeat (first | exact Pk.here | apply Pk.next))))) ⟨_, ⟨_, ⟨rfl, rfl⟩⟩⟩


end Go.Proofs.YtccgdnocldmjeaaDoor
