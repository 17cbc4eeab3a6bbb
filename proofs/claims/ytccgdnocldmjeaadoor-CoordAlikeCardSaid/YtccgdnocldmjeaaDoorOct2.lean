/- Bytes laid by a Writer; what it gives out. -/
import Derived.Test.YtccgdnocldmjeaaDoorOct
namespace Go.Proofs.YtccgdnocldmjeaaDoor
open Go
set_option maxHeartbeats 4000000
set_option linter.unusedSimpArgs false
set_option linter.unusedVariables false
set_option maxRecDepth 20000

/-- Bytes are laid as they are. -/
theorem raw_ok (w : Nat) (bs : List UInt8) (v : Value) (xs : List UInt8) (hl : bs.length + xs.length ≤ 1099511627776) :
    Trip Tryd.prog 51 [vp w 0, v] [wrA w bs, fz (fun g => RdBytes g v xs)]
      (fun r l => r = .tuple #[] ∧ l = [wrA w (bs ++ xs), fz (fun g => RdBytes g v xs)]) := by
  refine Trip.ghE wrA_open ?_
  rintro ⟨a0, c0⟩ _
  simp only
  refine Trip.of_body Tryd.func51 rfl Tryd.ntmps51 Tryd.results51 rfl ?_
  refine Wp.seq ?_
  refine Wp.region ?_
  refine WpL.step (Stp.rd (Rdo.move rfl) rfl ?_)
  refine WpL.step (Stp.rd (Rdo.nenil rfl rfl) rfl ?_)
  refine WpL.nil ?_
  refine Thn.n ?_
  refine Wp.condT rfl ?_
  refine Wp.region ?_
  refine WpL.step (Stp.rd (Rdo.move rfl) rfl ?_)
  refine WpL.step (Stp.rd (Rdo.move rfl) rfl ?_)
  refine WpL.step (Stp.rd (Rdo.nilCheck rfl) rfl ?_)
  refine WpL.step (Stp.rd (Rdo.fieldAddr0 rfl) rfl ?_)
  refine WpL.step (Stp.rd (Rdo.load rfl (Lds.one rfl)) rfl ?_)
  refine WpL.step (Stp.rd (Rdo.move rfl) rfl ?_)
  refine WpL.step (Stp.appendP rfl rfl (Pk.next Pk.here) (Src.next Src.frozen) (by simp [bytesC_length]) (oneCells_bytesC xs) (by omega) (by omega) rfl (by rfl) ?_)
  intro a' c'
  have e1 : bs.length + xs.length = (bs ++ xs).length := by simp
  have e2 : bytesC bs ++ bytesC xs = bytesC (bs ++ xs) := by simp [bytesC]
  rw [e1, e2]
  refine WpL.step (Stp.rd (Rdo.nilCheck rfl) rfl ?_)
  refine WpL.step (Stp.rd (Rdo.fieldAddr0 rfl) rfl ?_)
  refine WpL.step (Stp.storeV rfl rfl (VC.sl _ _ _) rfl (Sts.next (Sts.lp (by repeat (first | exact LPut.nil _ | apply LPut.here | apply LPut.next)) (oneCells1 rfl))) ?_)
  refine WpL.nil ?_
  exact Ret.end_ ResV.nil (Gh.trans (Gh.tk (by repeat (first | exact Tk.nil | apply Tk.cons (by repeat (first | exact Pk.here | apply Pk.next))))) (wrA_shut (a := a') (c := c'))) ⟨rfl, rfl⟩
/-- What was laid. -/
theorem out_ok (w : Nat) (bs : List UInt8) (hl : bs.length ≤ 1099511627776) :
    Trip Tryd.prog 35 [vp w 0] [wrA w bs]
      (fun r l => ∃ a c, r = .slice a bs.length c ∧ l = [fz (fun g => RdBytes g (.slice a bs.length c) bs)]) := by
  refine Trip.ghE wrA_open ?_
  rintro ⟨a0, c0⟩ _
  simp only
  refine Trip.of_body Tryd.func35 rfl Tryd.ntmps35 Tryd.results35 rfl ?_
  refine Wp.seq ?_
  refine Wp.region ?_
  refine WpL.step (Stp.rd (Rdo.assign rfl) rfl ?_)
  refine WpL.nil ?_
  refine Thn.n ?_
  refine Wp.seq ?_
  refine Wp.seq ?_
  refine Wp.region ?_
  refine WpL.step (Stp.rd (Rdo.move rfl) rfl ?_)
  refine WpL.step (Stp.rd (Rdo.eqnil rfl rfl) rfl ?_)
  refine WpL.nil ?_
  refine Thn.n ?_
  refine Wp.condF rfl ?_
  refine Wp.skip ?_
  refine Thn.n ?_
  refine Wp.seq ?_
  refine Wp.region ?_
  refine WpL.step (Stp.rd (Rdo.move rfl) rfl ?_)
  refine WpL.step (Stp.rd (Rdo.nilCheck rfl) rfl ?_)
  refine WpL.step (Stp.rd (Rdo.fieldAddr0 rfl) rfl ?_)
  refine WpL.step (Stp.rd (Rdo.load rfl (Lds.one rfl)) rfl ?_)
  refine WpL.gh (Gh.ice (Pk.next Pk.here)) ?_
  have s1 := bytesClone_ok (.slice a0 bs.length c0) bs hl
  refine WpL.step (Stp.call (s1) (by kernel_rfl) rfl (by repeat (first | exact Tk.nil | apply Tk.cons (by repeat (first | exact Pk.here | apply Pk.next)))) rfl ?_)
  rintro _ _ ⟨v1_0, ⟨v1_1, ⟨rfl, rfl⟩⟩⟩
  refine WpL.lst (by simp only [List.cons_append, List.nil_append]; exact rfl) ?_
  refine WpL.step (Stp.rd (Rdo.assign rfl) rfl ?_)
  refine WpL.nil ?_
  refine Thn.n ?_
  refine Wp.ret ?_
  refine Ret.now (ResV.tmp rfl ResV.nil) (Gh.tk (by repeat (first | exact Tk.nil | apply Tk.cons (by repeat (first | exact Pk.here | apply Pk.next))))) ⟨_, ⟨_, ⟨rfl, rfl⟩⟩⟩
end Go.Proofs.YtccgdnocldmjeaaDoor
