/- SHA-256: a block is taken in. -/
import Derived.Test.YtccgdnocldmjeaaDoorDig3
import Derived.Test.YtccgdnocldmjeaaDoorFrz
import Derived.Test.YtccgdnocldmjeaaDoorCvt
namespace Go.Proofs.YtccgdnocldmjeaaDoor
open Go
set_option maxHeartbeats 4000000
set_option linter.unusedSimpArgs false
set_option linter.unusedVariables false
set_option maxRecDepth 20000

theorem put32 (W : List Int) (i : Nat) (x : Int) (h : i < W.length) : lput (W.map v32) (0 + i * 1) [v32 x] = (W.set i x).map v32 := by
  rw [show 0 + i * 1 = i by omega, lput_step _ _ _ _ (by simpa using h), lput_nil, List.map_set]
theorem at32 (W : List Int) (i : Nat) (h : i < W.length) : (W.map v32)[0 + i * 1]? = some (v32 (W.getD i 0)) := by
  rw [show 0 + i * 1 = i by omega, List.getElem?_map, List.getD_eq_getElem?_getD, List.getElem?_eq_getElem h]
  rfl
theorem byteAt (bs : List UInt8) (i : Nat) (h : i < bs.length) : bs[i]? = some (bs.getD i 0) := by
  rw [List.getD_eq_getElem?_getD, List.getElem?_eq_getElem h]
  rfl
abbrev tkE (s kb nb i : Nat) (v : Value) : Env := [(0, vp s 0), (1, v), (2, vp kb 0), (6, vp nb 0), (14, vi i)]
abbrev tkL (Kl : List Int) (s kb nb : Nat) (S : V8) (v : Value) (bs : List UInt8) (W : List Int) : List HP := [cel nb 100 (W.map v32), cel s 99 S.C, cel kb 100 (Kl.map v32), fz (fun g => RdBytes g v bs)]
def dAddL (s v : List Int) : Nat → List Int
  | 0 => s
  | i + 1 => (dAddL s v i).set i (IntKind.u32.wrap ((dAddL s v i).getD i 0 + v.getD i 0))
theorem dAddL_zero (s v : List Int) : dAddL s v 0 = s := rfl
theorem dAddL_succ (s v : List Int) (i : Nat) : dAddL s v (i + 1) = (dAddL s v i).set i (IntKind.u32.wrap ((dAddL s v i).getD i 0 + v.getD i 0)) := rfl
theorem dAddL_len (s v : List Int) (i : Nat) : (dAddL s v i).length = s.length := by
  induction i with
  | zero => rfl
  | succ i ih => simp [dAddL, ih]
theorem dAddL_end (S V : V8) : dAddL S.l V.l 8 = (dAdd S V).l := rfl
attribute [irreducible] dAddL
abbrev adL (Kl : List Int) (s kb nv : Nat) (V : V8) (v : Value) (bs : List UInt8) (A : List Int) : List HP := [cel s 99 (A.map v32), cel nv 99 V.C, cel kb 100 (Kl.map v32), fz (fun g => RdBytes g v bs)]
theorem take_ok (Kl : List Int) (hKl : Kl.length = 64) (s kb : Nat) (S : V8) (v : Value) (bs : List UInt8) (hl : 64 ≤ bs.length) (hl2 : bs.length ≤ 1099511627776) :
    Trip Tryd.prog 46 [vp s 0, v, vp kb 0] [cel s 99 S.C, cel kb 100 (Kl.map v32), fz (fun g => RdBytes g v bs)]
      (fun r l => r = .tuple #[] ∧ l = [cel s 99 (dBlock Kl S bs).C, cel kb 100 (Kl.map v32), fz (fun g => RdBytes g v bs)]) := by
  refine Trip.get (Pk.next (Pk.next Pk.here)) shape_bytes ?_
  rintro ⟨a, c, rfl⟩
  refine Trip.get (Pk.next (Pk.next Pk.here)) (row_some (by omega)) ?_
  rintro ⟨pb, po, rfl⟩
  refine Trip.of_body Tryd.func46 rfl Tryd.ntmps46 Tryd.results46 rfl ?_
  refine Wp.seq ?_
  refine Wp.region ?_
  (refine WpL.step (Stp.alloc rfl ?_); intro nb2)
  refine WpL.nil ?_
  refine Thn.n ?_
  refine Wp.seq ?_
  refine Wp.seq ?_
  refine Wp.region ?_
  refine WpL.step (Stp.rd (Rdo.move rfl) rfl ?_)
  refine WpL.nil ?_
  refine Thn.n ?_
  refine Wp.block ?_
  refine Wp.loopE (fun k e h => ∃ i : Nat, i + k = 16 ∧ e = tkE s kb nb2 i (.slice (some ⟨pb, po, none⟩) bs.length c) ∧ h = tkL Kl s kb nb2 S (.slice (some ⟨pb, po, none⟩) bs.length c) bs (dW1 bs i)) 16
    (e0 := tkE s kb nb2 0 (.slice (some ⟨pb, po, none⟩) bs.length c)) (l0 := tkL Kl s kb nb2 S (.slice (some ⟨pb, po, none⟩) bs.length c) bs (dW1 bs 0)) (by repeat (first | exact trivial | refine ⟨rfl, ?_⟩)) (by repeat (first | exact trivial | refine ⟨rfl, ?_⟩)) (by simp only [tkL, dW1_zero, List.map_replicate]; exact Gh.tk (by repeat (first | exact Tk.nil | apply Tk.cons (by repeat (first | exact Pk.here | apply Pk.next))))) ⟨0, by omega, rfl, rfl⟩ ?_
  rintro k e h ⟨i, hik, rfl, rfl⟩
  by_cases hi : i < 16
  · have hi' : (i : Int) < 16 := by omega
    have m1 : (4 : Int) * (i : Int) = ((4 * i : Nat) : Int) := by omega
    have a1 : ((4 * i : Nat) : Int) + 1 = ((4 * i + 1 : Nat) : Int) := by omega
    have a2 : ((4 * i : Nat) : Int) + 2 = ((4 * i + 2 : Nat) : Int) := by omega
    have a3 : ((4 * i : Nat) : Int) + 3 = ((4 * i + 3 : Nat) : Int) := by omega
    have b0 := byteAt bs (4 * i) (by omega)
    have b1 := byteAt bs (4 * i + 1) (by omega)
    have b2 := byteAt bs (4 * i + 2) (by omega)
    have b3 := byteAt bs (4 * i + 3) (by omega)
    have hlen := dW1_len bs i
    refine Wp.seq ?_
    refine Wp.region ?_
    refine WpL.step (Stp.rd (Rdo.lti rfl rfl) rfl ?_)
    refine WpL.nil ?_
    refine Thn.n ?_
    refine Wp.seq ?_
    refine Wp.condK rfl (by first | rfl | assumption | (simp only [decide_eq_true_eq, decide_eq_false_iff_not, Bool.not_eq_true', Bool.not_eq_false', List.length_cons, List.length_nil]; first | assumption | omega) | (simp <;> done) | (simp <;> omega)) ?_
    refine Wp.skip ?_
    refine Thn.n ?_
    refine Wp.seq ?_
    refine Wp.block ?_
    refine Wp.seq ?_
    refine Wp.region ?_
    refine WpL.step (Stp.rd (Rdo.move rfl) rfl ?_)
    refine WpL.step (Stp.rd (Rdo.assign rfl) rfl ?_)
    refine WpL.nil ?_
    refine Thn.n ?_
    refine Wp.draw (by kernel_rfl) ?_
    refine WpR.take (i := 0) rfl (by kernel_rfl) (by kernel_rfl) (by kernel_rfl) (Rdo.move rfl) rfl ?_
    refine WpR.take (i := 1) rfl (by kernel_rfl) (by kernel_rfl) (by kernel_rfl) (Rdo.move rfl) rfl ?_
    refine WpR.take (i := 2) rfl (by kernel_rfl) (by kernel_rfl) (by kernel_rfl) (Rdo.move rfl) rfl ?_
    refine WpR.take (i := 3) rfl (by kernel_rfl) (by kernel_rfl) (by kernel_rfl) (Rdo.mulE rfl rfl (by assumption) (by omega)) rfl ?_
    refine WpR.take (i := 4) rfl (by kernel_rfl) (by kernel_rfl) (by kernel_rfl) (Rdo.indexSlice rfl rfl (by omega)) rfl ?_
    refine WpR.take (i := 8) rfl (by kernel_rfl) (by kernel_rfl) (by kernel_rfl) (Rdo.move rfl) rfl ?_
    refine WpR.take (i := 9) rfl (by kernel_rfl) (by kernel_rfl) (by kernel_rfl) (Rdo.move rfl) rfl ?_
    refine WpR.take (i := 10) rfl (by kernel_rfl) (by kernel_rfl) (by kernel_rfl) (Rdo.mulE rfl rfl (by assumption) (by omega)) rfl ?_
    refine WpR.take (i := 11) rfl (by kernel_rfl) (by kernel_rfl) (by kernel_rfl) (Rdo.addE rfl rfl (by assumption) (by omega)) rfl ?_
    refine WpR.take (i := 12) rfl (by kernel_rfl) (by kernel_rfl) (by kernel_rfl) (Rdo.indexSlice rfl rfl (by omega)) rfl ?_
    refine WpR.take (i := 17) rfl (by kernel_rfl) (by kernel_rfl) (by kernel_rfl) (Rdo.move rfl) rfl ?_
    refine WpR.take (i := 18) rfl (by kernel_rfl) (by kernel_rfl) (by kernel_rfl) (Rdo.move rfl) rfl ?_
    refine WpR.take (i := 19) rfl (by kernel_rfl) (by kernel_rfl) (by kernel_rfl) (Rdo.mulE rfl rfl (by assumption) (by omega)) rfl ?_
    refine WpR.take (i := 20) rfl (by kernel_rfl) (by kernel_rfl) (by kernel_rfl) (Rdo.addE rfl rfl (by assumption) (by omega)) rfl ?_
    refine WpR.take (i := 21) rfl (by kernel_rfl) (by kernel_rfl) (by kernel_rfl) (Rdo.indexSlice rfl rfl (by omega)) rfl ?_
    refine WpR.take (i := 26) rfl (by kernel_rfl) (by kernel_rfl) (by kernel_rfl) (Rdo.move rfl) rfl ?_
    refine WpR.take (i := 27) rfl (by kernel_rfl) (by kernel_rfl) (by kernel_rfl) (Rdo.move rfl) rfl ?_
    refine WpR.take (i := 28) rfl (by kernel_rfl) (by kernel_rfl) (by kernel_rfl) (Rdo.mulE rfl rfl (by assumption) (by omega)) rfl ?_
    refine WpR.take (i := 29) rfl (by kernel_rfl) (by kernel_rfl) (by kernel_rfl) (Rdo.addE rfl rfl (by assumption) (by omega)) rfl ?_
    refine WpR.take (i := 30) rfl (by kernel_rfl) (by kernel_rfl) (by kernel_rfl) (Rdo.indexSlice rfl rfl (by omega)) rfl ?_
    refine WpR.phaseL (m := 1) #[true, true, true, true, true, true, true, true, true, true, true, true, true, true, true, true, true, true, true, true, true, true, true, true, true, true, true, true, true, true, true, true, true, true, true, false] 15 _ rfl (by kernel_rfl) (Tk.cons (Pk.next (Pk.next (Pk.next Pk.here))) Tk.nil) ?_
    refine WpA.take (i := 5) rfl rfl (by kernel_rfl) (by kernel_rfl) (by kernel_rfl) (Rdo.load rfl (Lds.fz1 (by first | assumption | exact bytesC_at (by assumption) | exact intsC_at (by assumption) | exact boolsC_at (by assumption)))) rfl ?_
    refine WpA.take (i := 6) rfl rfl (by kernel_rfl) (by kernel_rfl) (by kernel_rfl) (Rdo.convInt rfl) rfl ?_
    refine WpA.take (i := 7) rfl rfl (by kernel_rfl) (by kernel_rfl) (by kernel_rfl) (Rdo.shl rfl rfl (by omega)) rfl ?_
    refine WpA.take (i := 13) rfl rfl (by kernel_rfl) (by kernel_rfl) (by kernel_rfl) (Rdo.load rfl (Lds.fz1 (by first | assumption | exact bytesC_at (by assumption) | exact intsC_at (by assumption) | exact boolsC_at (by assumption)))) rfl ?_
    refine WpA.take (i := 14) rfl rfl (by kernel_rfl) (by kernel_rfl) (by kernel_rfl) (Rdo.convInt rfl) rfl ?_
    refine WpA.take (i := 15) rfl rfl (by kernel_rfl) (by kernel_rfl) (by kernel_rfl) (Rdo.shl rfl rfl (by omega)) rfl ?_
    refine WpA.take (i := 16) rfl rfl (by kernel_rfl) (by kernel_rfl) (by kernel_rfl) (Rdo.or rfl rfl) rfl ?_
    refine WpA.take (i := 22) rfl rfl (by kernel_rfl) (by kernel_rfl) (by kernel_rfl) (Rdo.load rfl (Lds.fz1 (by first | assumption | exact bytesC_at (by assumption) | exact intsC_at (by assumption) | exact boolsC_at (by assumption)))) rfl ?_
    refine WpA.take (i := 23) rfl rfl (by kernel_rfl) (by kernel_rfl) (by kernel_rfl) (Rdo.convInt rfl) rfl ?_
    refine WpA.take (i := 24) rfl rfl (by kernel_rfl) (by kernel_rfl) (by kernel_rfl) (Rdo.shl rfl rfl (by omega)) rfl ?_
    refine WpA.take (i := 25) rfl rfl (by kernel_rfl) (by kernel_rfl) (by kernel_rfl) (Rdo.or rfl rfl) rfl ?_
    refine WpA.take (i := 31) rfl rfl (by kernel_rfl) (by kernel_rfl) (by kernel_rfl) (Rdo.load rfl (Lds.fz1 (by first | assumption | exact bytesC_at (by assumption) | exact intsC_at (by assumption) | exact boolsC_at (by assumption)))) rfl ?_
    refine WpA.take (i := 32) rfl rfl (by kernel_rfl) (by kernel_rfl) (by kernel_rfl) (Rdo.convInt rfl) rfl ?_
    refine WpA.take (i := 33) rfl rfl (by kernel_rfl) (by kernel_rfl) (by kernel_rfl) (Rdo.or rfl rfl) rfl ?_
    refine WpA.take (i := 34) rfl rfl (by kernel_rfl) (by kernel_rfl) (by kernel_rfl) (Rdo.indexArr rfl rfl (by omega)) rfl ?_
    refine WpA.stop (by kernel_rfl) ?_
    refine WpR.lst (by simp only [List.cons_append, List.nil_append]; exact rfl) ?_
    refine WpR.one (i := 35) rfl (by kernel_rfl) (Stp.storeV rfl rfl (VC.i _ _) rfl (Sts.next (Sts.here (oneCells1 rfl) ?_)) ?_)
    · simp only [List.length_map, List.length_cons, List.length_nil, hlen]; omega
    rw [put32 _ _ _ (by omega)]
    refine WpR.gh (l' := tkL Kl s kb nb2 S (.slice (some ⟨pb, po, none⟩) bs.length c) bs (dW1 bs (i + 1))) (by rw [dW1_succ]; exact Gh.tk (by repeat (first | exact Tk.nil | apply Tk.cons (by repeat (first | exact Pk.here | apply Pk.next))))) ?_
    refine WpR.done (by kernel_rfl) ?_
    refine Blk.n ?_
    refine Thn.n ?_
    refine Wp.region ?_
    refine WpL.step (Stp.rd (Rdo.succ rfl rfl (by omega)) rfl ?_)
    refine WpL.step (Stp.rd (Rdo.move rfl) rfl ?_)
    refine WpL.nil ?_
    refine Thn.n ?_
    exact ⟨k - 1, _, _, by omega, ⟨i + 1, by omega, rfl, rfl⟩, (by repeat (first | exact trivial | refine ⟨rfl, ?_⟩)), Gh.tk (by repeat (first | exact Tk.nil | apply Tk.cons (by repeat (first | exact Pk.here | apply Pk.next))))⟩
  · obtain rfl : i = 16 := by omega
    refine Wp.seq ?_
    refine Wp.region ?_
    refine WpL.step (Stp.rd (Rdo.lti rfl rfl) rfl ?_)
    refine WpL.nil ?_
    refine Thn.n ?_
    refine Wp.seq ?_
    refine Wp.condF rfl ?_
    refine Wp.exit ?_
    refine Thn.x ?_
    refine Thn.x ?_
    refine Blk.here ?_
    refine Thn.n ?_
    refine Wp.seq ?_
    refine Wp.seq ?_
    refine Wp.region ?_
    refine WpL.step (Stp.rd (Rdo.assign rfl) rfl ?_)
    refine WpL.nil ?_
    refine Thn.n ?_
    refine Wp.block ?_
    refine Wp.loopE (fun k e h => ∃ j : Nat, j + k = 48 ∧ e = [(0, vp s 0), (2, vp kb 0), (6, vp nb2 0), (8, vi ((16 + j : Nat) : Int))] ∧ h = tkL Kl s kb nb2 S (.slice (some ⟨pb, po, none⟩) bs.length c) bs (dW2 bs j)) 48
      (e0 := [(0, vp s 0), (2, vp kb 0), (6, vp nb2 0), (8, vi ((16 + 0 : Nat) : Int))]) (l0 := tkL Kl s kb nb2 S (.slice (some ⟨pb, po, none⟩) bs.length c) bs (dW2 bs 0)) (by repeat (first | exact trivial | refine ⟨rfl, ?_⟩)) (by repeat (first | exact trivial | refine ⟨rfl, ?_⟩)) (by simp only [tkL, dW2_zero]; exact Gh.tk (by repeat (first | exact Tk.nil | apply Tk.cons (by repeat (first | exact Pk.here | apply Pk.next))))) ⟨0, by omega, rfl, rfl⟩ ?_
    rintro k e h ⟨j, hjk, rfl, rfl⟩
    by_cases hj : j < 48
    · have hj' : ((16 + j : Nat) : Int) < 64 := by omega
      have hlen := dW2_len bs j
      have n1 : ((16 + j : Nat) : Int) - 16 = ((16 + j - 16 : Nat) : Int) := by omega
      have n2 : ((16 + j : Nat) : Int) - 15 = ((16 + j - 15 : Nat) : Int) := by omega
      have n3 : ((16 + j : Nat) : Int) - 7 = ((16 + j - 7 : Nat) : Int) := by omega
      have n4 : ((16 + j : Nat) : Int) - 2 = ((16 + j - 2 : Nat) : Int) := by omega
      have w1 := at32 (dW2 bs j) (16 + j - 16) (by omega)
      have w2 := at32 (dW2 bs j) (16 + j - 15) (by omega)
      have w3 := at32 (dW2 bs j) (16 + j - 7) (by omega)
      have w4 := at32 (dW2 bs j) (16 + j - 2) (by omega)
      have c1 := s0_ok ((dW2 bs j).getD (16 + j - 15) 0)
      have c2 := s1_ok ((dW2 bs j).getD (16 + j - 2) 0)
      refine Wp.seq ?_
      refine Wp.seq ?_
      refine Wp.region ?_
      refine WpL.step (Stp.rd (Rdo.move rfl) rfl ?_)
      refine WpL.step (Stp.rd (Rdo.lti rfl rfl) rfl ?_)
      refine WpL.nil ?_
      refine Thn.n ?_
      refine Wp.condK rfl (by first | rfl | assumption | (simp only [decide_eq_true_eq, decide_eq_false_iff_not, Bool.not_eq_true', Bool.not_eq_false', List.length_cons, List.length_nil]; first | assumption | omega) | (simp <;> done) | (simp <;> omega)) ?_
      refine Wp.skip ?_
      refine Thn.n ?_
      refine Wp.seq ?_
      refine Wp.block ?_
      refine Wp.draw (by kernel_rfl) ?_
      refine WpR.take (i := 0) rfl (by kernel_rfl) (by kernel_rfl) (by kernel_rfl) (Rdo.move rfl) rfl ?_
      refine WpR.take (i := 1) rfl (by kernel_rfl) (by kernel_rfl) (by kernel_rfl) (Rdo.move rfl) rfl ?_
      refine WpR.take (i := 2) rfl (by kernel_rfl) (by kernel_rfl) (by kernel_rfl) (Rdo.subE rfl rfl (by assumption) (by omega)) rfl ?_
      refine WpR.take (i := 3) rfl (by kernel_rfl) (by kernel_rfl) (by kernel_rfl) (Rdo.indexArr rfl rfl (by omega)) rfl ?_
      refine WpR.take (i := 5) rfl (by kernel_rfl) (by kernel_rfl) (by kernel_rfl) (Rdo.move rfl) rfl ?_
      refine WpR.take (i := 6) rfl (by kernel_rfl) (by kernel_rfl) (by kernel_rfl) (Rdo.subE rfl rfl (by assumption) (by omega)) rfl ?_
      refine WpR.take (i := 7) rfl (by kernel_rfl) (by kernel_rfl) (by kernel_rfl) (Rdo.indexArr rfl rfl (by omega)) rfl ?_
      refine WpR.take (i := 11) rfl (by kernel_rfl) (by kernel_rfl) (by kernel_rfl) (Rdo.move rfl) rfl ?_
      refine WpR.take (i := 12) rfl (by kernel_rfl) (by kernel_rfl) (by kernel_rfl) (Rdo.subE rfl rfl (by assumption) (by omega)) rfl ?_
      refine WpR.take (i := 13) rfl (by kernel_rfl) (by kernel_rfl) (by kernel_rfl) (Rdo.indexArr rfl rfl (by omega)) rfl ?_
      refine WpR.take (i := 16) rfl (by kernel_rfl) (by kernel_rfl) (by kernel_rfl) (Rdo.move rfl) rfl ?_
      refine WpR.take (i := 17) rfl (by kernel_rfl) (by kernel_rfl) (by kernel_rfl) (Rdo.subE rfl rfl (by assumption) (by omega)) rfl ?_
      refine WpR.take (i := 18) rfl (by kernel_rfl) (by kernel_rfl) (by kernel_rfl) (Rdo.indexArr rfl rfl (by omega)) rfl ?_
      refine WpR.phaseL (m := 1) #[true, true, true, true, true, true, true, true, true, true, true, true, true, true, true, true, true, true, true, true, true, true, true, false] 10 _ rfl (by kernel_rfl) (Tk.cons Pk.here Tk.nil) ?_
      refine WpA.take (i := 4) rfl rfl (by kernel_rfl) (by kernel_rfl) (by kernel_rfl) (Rdo.load rfl (Lds.one (by assumption))) rfl ?_
      refine WpA.take (i := 8) rfl rfl (by kernel_rfl) (by kernel_rfl) (by kernel_rfl) (Rdo.load rfl (Lds.one (by assumption))) rfl ?_
      refine WpA.take (i := 14) rfl rfl (by kernel_rfl) (by kernel_rfl) (by kernel_rfl) (Rdo.load rfl (Lds.one (by assumption))) rfl ?_
      refine WpA.take (i := 19) rfl rfl (by kernel_rfl) (by kernel_rfl) (by kernel_rfl) (Rdo.load rfl (Lds.one (by assumption))) rfl ?_
      refine WpA.one (i := 9) rfl (by kernel_rfl) (Stp.call (c1) (by kernel_rfl) rfl (by repeat (first | exact Tk.nil | apply Tk.cons (by repeat (first | exact Pk.here | apply Pk.next)))) rfl ?_)
      rintro _ _ ⟨rfl, rfl⟩
      refine WpA.lst (by simp only [List.cons_append, List.nil_append]; exact rfl) ?_
      refine WpA.take (i := 10) rfl rfl (by kernel_rfl) (by kernel_rfl) (by kernel_rfl) (Rdo.add rfl rfl) rfl ?_
      refine WpA.take (i := 15) rfl rfl (by kernel_rfl) (by kernel_rfl) (by kernel_rfl) (Rdo.add rfl rfl) rfl ?_
      refine WpA.one (i := 20) rfl (by kernel_rfl) (Stp.call (c2) (by kernel_rfl) rfl (by repeat (first | exact Tk.nil | apply Tk.cons (by repeat (first | exact Pk.here | apply Pk.next)))) rfl ?_)
      rintro _ _ ⟨rfl, rfl⟩
      refine WpA.lst (by simp only [List.cons_append, List.nil_append]; exact rfl) ?_
      refine WpA.take (i := 21) rfl rfl (by kernel_rfl) (by kernel_rfl) (by kernel_rfl) (Rdo.add rfl rfl) rfl ?_
      refine WpA.take (i := 22) rfl rfl (by kernel_rfl) (by kernel_rfl) (by kernel_rfl) (Rdo.indexArr rfl rfl (by omega)) rfl ?_
      refine WpA.stop (by kernel_rfl) ?_
      refine WpR.lst (by simp only [List.cons_append, List.nil_append]; exact rfl) ?_
      refine WpR.one (i := 23) rfl (by kernel_rfl) (Stp.storeV rfl rfl (VC.i _ _) rfl (Sts.here (oneCells1 rfl) ?_) ?_)
      · simp only [List.length_map, List.length_cons, List.length_nil, hlen]; omega
      rw [put32 _ _ _ (by omega)]
      refine WpR.gh (l' := tkL Kl s kb nb2 S (.slice (some ⟨pb, po, none⟩) bs.length c) bs (dW2 bs (j + 1))) (by rw [dW2_succ]; exact Gh.tk (by repeat (first | exact Tk.nil | apply Tk.cons (by repeat (first | exact Pk.here | apply Pk.next))))) ?_
      refine WpR.done (by kernel_rfl) ?_
      refine Blk.n ?_
      refine Thn.n ?_
      refine Wp.region ?_
      refine WpL.step (Stp.rd (Rdo.move rfl) rfl ?_)
      refine WpL.step (Stp.rd (Rdo.succ rfl rfl (by omega)) rfl ?_)
      refine WpL.step (Stp.rd (Rdo.assign rfl) rfl ?_)
      refine WpL.nil ?_
      refine Thn.n ?_
      exact ⟨k - 1, _, _, by omega, ⟨j + 1, by omega, rfl, rfl⟩, (by repeat (first | exact trivial | refine ⟨rfl, ?_⟩)), Gh.tk (by repeat (first | exact Tk.nil | apply Tk.cons (by repeat (first | exact Pk.here | apply Pk.next))))⟩
    · obtain rfl : j = 48 := by omega
      refine Wp.seq ?_
      refine Wp.seq ?_
      refine Wp.region ?_
      refine WpL.step (Stp.rd (Rdo.move rfl) rfl ?_)
      refine WpL.step (Stp.rd (Rdo.lti rfl rfl) rfl ?_)
      refine WpL.nil ?_
      refine Thn.n ?_
      refine Wp.condF rfl ?_
      refine Wp.exit ?_
      refine Thn.x ?_
      refine Thn.x ?_
      refine Blk.here ?_
      refine Thn.n ?_
      refine Wp.seq ?_
      refine Wp.region ?_
      refine WpL.step (Stp.rd (Rdo.move rfl) rfl ?_)
      refine WpL.step (Stp.rd (Rdo.nilCheck rfl) rfl ?_)
      refine WpL.step (Stp.rd (Rdo.load rfl (Lds.next (by apply Lds.all; (first | rfl | assumption | (simp <;> fail))))) rfl ?_)
      (refine WpL.step (Stp.alloc rfl ?_); intro nb18)
      refine WpL.step (Stp.storeV rfl rfl (VC.ag _) (by first | rfl | assumption | (simp <;> done)) (by repeat (first | (apply Sts.all; (focus (first | rfl | assumption | (simp <;> done))); (focus (first | exact oneCells1 rfl | assumption | exact oneCells1 (by assumption) | ((repeat (first | assumption | exact oneCells_nil | exact oneCells_bytesC _ | (apply oneCells_cons; (focus (first | rfl | assumption))) | apply oneCells_append)); done) | (simp [oneCells, Value.oneCell'] <;> done)))) | (apply Sts.lp (by repeat (first | exact LPut.nil _ | apply LPut.here | apply LPut.next)); (focus (first | exact oneCells1 rfl | assumption | exact oneCells1 (by assumption) | ((repeat (first | assumption | exact oneCells_nil | exact oneCells_bytesC _ | (apply oneCells_cons; (focus (first | rfl | assumption))) | apply oneCells_append)); done) | (simp [oneCells, Value.oneCell'] <;> done)))) | (refine Sts.row1 (by first | assumption | omega | (simp <;> omega)) (by first | rfl | assumption)) | (refine Sts.rowP (by assumption) (by first | rfl | assumption | (simp <;> done)) (by rfl) (by (first | exact oneCells1 rfl | assumption | exact oneCells1 (by assumption) | ((repeat (first | assumption | exact oneCells_nil | exact oneCells_bytesC _ | (apply oneCells_cons; (focus (first | rfl | assumption))) | apply oneCells_append)); done) | (simp [oneCells, Value.oneCell'] <;> done)))) | apply Sts.next)) ?_)
      refine WpL.nil ?_
      refine Thn.n ?_
      refine Wp.seq ?_
      refine Wp.seq ?_
      refine Wp.region ?_
      refine WpL.step (Stp.rd (Rdo.move rfl) rfl ?_)
      refine WpL.nil ?_
      refine Thn.n ?_
      refine Wp.block ?_
      generalize hW : dW2 bs 48 = W at *
      have hWl : W.length = 64 := by rw [← hW]; exact dW2_len bs 48
      refine Wp.loopE (fun k e h => ∃ m : Nat, m + k = 64 ∧ e = [(0, vp s 0), (2, vp kb 0), (6, vp nb2 0), (9, vp nb18 0), (83, vi m)] ∧ h = cel nb18 99 (dRounds Kl W S m).C :: tkL Kl s kb nb2 S (.slice (some ⟨pb, po, none⟩) bs.length c) bs W) 64
        (e0 := [(0, vp s 0), (2, vp kb 0), (6, vp nb2 0), (9, vp nb18 0), (83, vi (0 : Nat))]) (l0 := cel nb18 99 (dRounds Kl W S 0).C :: tkL Kl s kb nb2 S (.slice (some ⟨pb, po, none⟩) bs.length c) bs W) (by repeat (first | exact trivial | refine ⟨rfl, ?_⟩)) (by repeat (first | exact trivial | refine ⟨rfl, ?_⟩)) (by rw [dRounds_zero]; exact Gh.tk (by repeat (first | exact Tk.nil | apply Tk.cons (by repeat (first | exact Pk.here | apply Pk.next))))) ⟨0, by omega, rfl, rfl⟩ ?_
      rintro k e h ⟨m, hmk, rfl, rfl⟩
      by_cases hm : m < 64
      · have hm' : (m : Int) < 64 := by omega
        have w1 := at32 W m (by omega)
        have w2 := at32 Kl m (by omega)
        have hdr : dRounds Kl W S (m + 1) = dRound (dRounds Kl W S m) (Kl.getD m 0) (W.getD m 0) := dRounds_succ _ _ _ _
        generalize dRounds Kl W S m = V at *
        have c1 := b1_ok V.e
        have c2 := choose_ok V.e V.f V.g
        have c3 := b0_ok V.a
        have c4 := most_ok V.a V.b V.c
        refine Wp.seq ?_
        refine Wp.region ?_
        refine WpL.step (Stp.rd (Rdo.lti rfl rfl) rfl ?_)
        refine WpL.nil ?_
        refine Thn.n ?_
        refine Wp.seq ?_
        refine Wp.condK rfl (by first | rfl | assumption | (simp only [decide_eq_true_eq, decide_eq_false_iff_not, Bool.not_eq_true', Bool.not_eq_false', List.length_cons, List.length_nil]; first | assumption | omega) | (simp <;> done) | (simp <;> omega)) ?_
        refine Wp.skip ?_
        refine Thn.n ?_
        refine Wp.seq ?_
        refine Wp.block ?_
        refine Wp.seq ?_
        refine Wp.region ?_
        refine WpL.step (Stp.rd (Rdo.move rfl) rfl ?_)
        refine WpL.step (Stp.rd (Rdo.assign rfl) rfl ?_)
        refine WpL.nil ?_
        refine Thn.n ?_
        refine Wp.seq ?_
        refine Wp.draw (by kernel_rfl) ?_
        refine WpR.take (i := 0) rfl (by kernel_rfl) (by kernel_rfl) (by kernel_rfl) (Rdo.indexArrE (i := 7) rfl rfl rfl (by first | omega | (simp <;> omega))) rfl ?_
        refine WpR.take (i := 2) rfl (by kernel_rfl) (by kernel_rfl) (by kernel_rfl) (Rdo.indexArrE (i := 4) rfl rfl rfl (by first | omega | (simp <;> omega))) rfl ?_
        refine WpR.take (i := 6) rfl (by kernel_rfl) (by kernel_rfl) (by kernel_rfl) (Rdo.indexArrE (i := 4) rfl rfl rfl (by first | omega | (simp <;> omega))) rfl ?_
        refine WpR.take (i := 8) rfl (by kernel_rfl) (by kernel_rfl) (by kernel_rfl) (Rdo.indexArrE (i := 5) rfl rfl rfl (by first | omega | (simp <;> omega))) rfl ?_
        refine WpR.take (i := 10) rfl (by kernel_rfl) (by kernel_rfl) (by kernel_rfl) (Rdo.indexArrE (i := 6) rfl rfl rfl (by first | omega | (simp <;> omega))) rfl ?_
        refine WpR.take (i := 14) rfl (by kernel_rfl) (by kernel_rfl) (by kernel_rfl) (Rdo.move rfl) rfl ?_
        refine WpR.take (i := 15) rfl (by kernel_rfl) (by kernel_rfl) (by kernel_rfl) (Rdo.move rfl) rfl ?_
        refine WpR.take (i := 16) rfl (by kernel_rfl) (by kernel_rfl) (by kernel_rfl) (Rdo.nilCheck rfl) rfl ?_
        refine WpR.take (i := 17) rfl (by kernel_rfl) (by kernel_rfl) (by kernel_rfl) (Rdo.indexArr rfl rfl (by omega)) rfl ?_
        refine WpR.take (i := 20) rfl (by kernel_rfl) (by kernel_rfl) (by kernel_rfl) (Rdo.move rfl) rfl ?_
        refine WpR.take (i := 21) rfl (by kernel_rfl) (by kernel_rfl) (by kernel_rfl) (Rdo.indexArr rfl rfl (by omega)) rfl ?_
        refine WpR.phaseL (m := 0) #[true, true, true, true, true, true, true, true, true, true, true, true, true, true, true, true, true, true, true, true, true, true, true, true, true] 14 _ rfl (by kernel_rfl) (Tk.cons Pk.here (Tk.cons Pk.here (Tk.cons (Pk.next Pk.here) Tk.nil))) ?_
        refine WpA.take (i := 1) rfl rfl (by kernel_rfl) (by kernel_rfl) (by kernel_rfl) (Rdo.load rfl (Lds.one rfl)) rfl ?_
        refine WpA.take (i := 3) rfl rfl (by kernel_rfl) (by kernel_rfl) (by kernel_rfl) (Rdo.load rfl (Lds.one rfl)) rfl ?_
        refine WpA.take (i := 7) rfl rfl (by kernel_rfl) (by kernel_rfl) (by kernel_rfl) (Rdo.load rfl (Lds.one rfl)) rfl ?_
        refine WpA.take (i := 9) rfl rfl (by kernel_rfl) (by kernel_rfl) (by kernel_rfl) (Rdo.load rfl (Lds.one rfl)) rfl ?_
        refine WpA.take (i := 11) rfl rfl (by kernel_rfl) (by kernel_rfl) (by kernel_rfl) (Rdo.load rfl (Lds.one rfl)) rfl ?_
        refine WpA.take (i := 18) rfl rfl (by kernel_rfl) (by kernel_rfl) (by kernel_rfl) (Rdo.load rfl (Lds.next (Lds.next (Lds.one (by assumption))))) rfl ?_
        refine WpA.take (i := 22) rfl rfl (by kernel_rfl) (by kernel_rfl) (by kernel_rfl) (Rdo.load rfl (Lds.next (Lds.one (by assumption)))) rfl ?_
        refine WpA.one (i := 4) rfl (by kernel_rfl) (Stp.call (c1) (by kernel_rfl) rfl (by repeat (first | exact Tk.nil | apply Tk.cons (by repeat (first | exact Pk.here | apply Pk.next)))) rfl ?_)
        rintro _ _ ⟨rfl, rfl⟩
        refine WpA.lst (by simp only [List.cons_append, List.nil_append]; exact rfl) ?_
        refine WpA.take (i := 5) rfl rfl (by kernel_rfl) (by kernel_rfl) (by kernel_rfl) (Rdo.add rfl rfl) rfl ?_
        refine WpA.one (i := 12) rfl (by kernel_rfl) (Stp.call (c2) (by kernel_rfl) rfl (by repeat (first | exact Tk.nil | apply Tk.cons (by repeat (first | exact Pk.here | apply Pk.next)))) rfl ?_)
        rintro _ _ ⟨rfl, rfl⟩
        refine WpA.lst (by simp only [List.cons_append, List.nil_append]; exact rfl) ?_
        refine WpA.take (i := 13) rfl rfl (by kernel_rfl) (by kernel_rfl) (by kernel_rfl) (Rdo.add rfl rfl) rfl ?_
        refine WpA.take (i := 19) rfl rfl (by kernel_rfl) (by kernel_rfl) (by kernel_rfl) (Rdo.add rfl rfl) rfl ?_
        refine WpA.take (i := 23) rfl rfl (by kernel_rfl) (by kernel_rfl) (by kernel_rfl) (Rdo.add rfl rfl) rfl ?_
        refine WpA.take (i := 24) rfl rfl (by kernel_rfl) (by kernel_rfl) (by kernel_rfl) (Rdo.assign rfl) rfl ?_
        refine WpA.stop (by kernel_rfl) ?_
        refine WpR.lst (by simp only [List.cons_append, List.nil_append]; exact rfl) ?_
        refine WpR.done (by kernel_rfl) ?_
        refine Thn.n ?_
        refine Wp.seq ?_
        refine Wp.draw (by kernel_rfl) ?_
        refine WpR.take (i := 0) rfl (by kernel_rfl) (by kernel_rfl) (by kernel_rfl) (Rdo.indexArrE (i := 0) rfl rfl rfl (by first | omega | (simp <;> omega))) rfl ?_
        refine WpR.take (i := 3) rfl (by kernel_rfl) (by kernel_rfl) (by kernel_rfl) (Rdo.indexArrE (i := 0) rfl rfl rfl (by first | omega | (simp <;> omega))) rfl ?_
        refine WpR.take (i := 5) rfl (by kernel_rfl) (by kernel_rfl) (by kernel_rfl) (Rdo.indexArrE (i := 1) rfl rfl rfl (by first | omega | (simp <;> omega))) rfl ?_
        refine WpR.take (i := 7) rfl (by kernel_rfl) (by kernel_rfl) (by kernel_rfl) (Rdo.indexArrE (i := 2) rfl rfl rfl (by first | omega | (simp <;> omega))) rfl ?_
        refine WpR.load (i := 1) [4, 6, 8] rfl (by kernel_rfl) (by kernel_rfl) (by kernel_rfl) (by kernel_rfl) (by kernel_rfl) rfl Tk.rfl_ (Harm.rd rfl (Rdo.load rfl (Lds.one rfl)) (Harm.rd rfl (Rdo.load rfl (Lds.one rfl)) (Harm.rd rfl (Rdo.load rfl (Lds.one rfl)) Harm.nil))) (Rdo.load rfl (Lds.one rfl)) rfl ?_
        refine WpR.phaseL (m := 0) #[true, true, true, true, true, true, true, true, true, true, true, true] 7 _ rfl (by kernel_rfl) (Tk.cons Pk.here Tk.nil) ?_
        refine WpA.take (i := 4) rfl rfl (by kernel_rfl) (by kernel_rfl) (by kernel_rfl) (Rdo.load rfl (Lds.one rfl)) rfl ?_
        refine WpA.take (i := 6) rfl rfl (by kernel_rfl) (by kernel_rfl) (by kernel_rfl) (Rdo.load rfl (Lds.one rfl)) rfl ?_
        refine WpA.take (i := 8) rfl rfl (by kernel_rfl) (by kernel_rfl) (by kernel_rfl) (Rdo.load rfl (Lds.one rfl)) rfl ?_
        refine WpA.one (i := 2) rfl (by kernel_rfl) (Stp.call (c3) (by kernel_rfl) rfl (by repeat (first | exact Tk.nil | apply Tk.cons (by repeat (first | exact Pk.here | apply Pk.next)))) rfl ?_)
        rintro _ _ ⟨rfl, rfl⟩
        refine WpA.lst (by simp only [List.cons_append, List.nil_append]; exact rfl) ?_
        refine WpA.one (i := 9) rfl (by kernel_rfl) (Stp.call (c4) (by kernel_rfl) rfl (by repeat (first | exact Tk.nil | apply Tk.cons (by repeat (first | exact Pk.here | apply Pk.next)))) rfl ?_)
        rintro _ _ ⟨rfl, rfl⟩
        refine WpA.lst (by simp only [List.cons_append, List.nil_append]; exact rfl) ?_
        refine WpA.take (i := 10) rfl rfl (by kernel_rfl) (by kernel_rfl) (by kernel_rfl) (Rdo.add rfl rfl) rfl ?_
        refine WpA.take (i := 11) rfl rfl (by kernel_rfl) (by kernel_rfl) (by kernel_rfl) (Rdo.assign rfl) rfl ?_
        refine WpA.stop (by kernel_rfl) ?_
        refine WpR.lst (by simp only [List.cons_append, List.nil_append]; exact rfl) ?_
        refine WpR.done (by kernel_rfl) ?_
        refine Thn.n ?_
        refine Wp.region ?_
        refine WpL.step (Stp.rd (Rdo.move rfl) rfl ?_)
        refine WpL.step (Stp.rd (Rdo.move rfl) rfl ?_)
        refine WpL.step (Stp.rd (Rdo.add rfl rfl) rfl ?_)
        refine WpL.step (Stp.rd (Rdo.indexArrE (i := 0) rfl rfl rfl (by first | omega | (simp <;> omega))) rfl ?_)
        refine WpL.step (Stp.rd (Rdo.load rfl (Lds.one rfl)) rfl ?_)
        refine WpL.step (Stp.rd (Rdo.indexArrE (i := 1) rfl rfl rfl (by first | omega | (simp <;> omega))) rfl ?_)
        refine WpL.step (Stp.rd (Rdo.load rfl (Lds.one rfl)) rfl ?_)
        refine WpL.step (Stp.rd (Rdo.indexArrE (i := 2) rfl rfl rfl (by first | omega | (simp <;> omega))) rfl ?_)
        refine WpL.step (Stp.rd (Rdo.load rfl (Lds.one rfl)) rfl ?_)
        refine WpL.step (Stp.rd (Rdo.indexArrE (i := 3) rfl rfl rfl (by first | omega | (simp <;> omega))) rfl ?_)
        refine WpL.step (Stp.rd (Rdo.load rfl (Lds.one rfl)) rfl ?_)
        refine WpL.step (Stp.rd (Rdo.move rfl) rfl ?_)
        refine WpL.step (Stp.rd (Rdo.add rfl rfl) rfl ?_)
        refine WpL.step (Stp.rd (Rdo.indexArrE (i := 4) rfl rfl rfl (by first | omega | (simp <;> omega))) rfl ?_)
        refine WpL.step (Stp.rd (Rdo.load rfl (Lds.one rfl)) rfl ?_)
        refine WpL.step (Stp.rd (Rdo.indexArrE (i := 5) rfl rfl rfl (by first | omega | (simp <;> omega))) rfl ?_)
        refine WpL.step (Stp.rd (Rdo.load rfl (Lds.one rfl)) rfl ?_)
        refine WpL.step (Stp.rd (Rdo.indexArrE (i := 6) rfl rfl rfl (by first | omega | (simp <;> omega))) rfl ?_)
        refine WpL.step (Stp.rd (Rdo.load rfl (Lds.one rfl)) rfl ?_)
        refine WpL.step (Stp.rd (Rdo.bldArr1 rfl rfl) rfl ?_)
        refine WpL.step (Stp.storeV rfl rfl (VC.ag _) (by first | rfl | assumption | (simp <;> done)) (by repeat (first | (apply Sts.all; (focus (first | rfl | assumption | (simp <;> done))); (focus (first | exact oneCells1 rfl | assumption | exact oneCells1 (by assumption) | ((repeat (first | assumption | exact oneCells_nil | exact oneCells_bytesC _ | (apply oneCells_cons; (focus (first | rfl | assumption))) | apply oneCells_append)); done) | (simp [oneCells, Value.oneCell'] <;> done)))) | (apply Sts.lp (by repeat (first | exact LPut.nil _ | apply LPut.here | apply LPut.next)); (focus (first | exact oneCells1 rfl | assumption | exact oneCells1 (by assumption) | ((repeat (first | assumption | exact oneCells_nil | exact oneCells_bytesC _ | (apply oneCells_cons; (focus (first | rfl | assumption))) | apply oneCells_append)); done) | (simp [oneCells, Value.oneCell'] <;> done)))) | (refine Sts.row1 (by first | assumption | omega | (simp <;> omega)) (by first | rfl | assumption)) | (refine Sts.rowP (by assumption) (by first | rfl | assumption | (simp <;> done)) (by rfl) (by (first | exact oneCells1 rfl | assumption | exact oneCells1 (by assumption) | ((repeat (first | assumption | exact oneCells_nil | exact oneCells_bytesC _ | (apply oneCells_cons; (focus (first | rfl | assumption))) | apply oneCells_append)); done) | (simp [oneCells, Value.oneCell'] <;> done)))) | apply Sts.next)) ?_)
        refine WpL.nil ?_
        refine Blk.n ?_
        refine Thn.n ?_
        refine Wp.region ?_
        refine WpL.step (Stp.rd (Rdo.succ rfl rfl (by omega)) rfl ?_)
        refine WpL.step (Stp.rd (Rdo.move rfl) rfl ?_)
        refine WpL.nil ?_
        refine Thn.n ?_
        exact ⟨k - 1, _, _, by omega, ⟨m + 1, by omega, rfl, rfl⟩, (by repeat (first | exact trivial | refine ⟨rfl, ?_⟩)), by rw [hdr]; exact Gh.tk (by repeat (first | exact Tk.nil | apply Tk.cons (by repeat (first | exact Pk.here | apply Pk.next))))⟩
      · obtain rfl : m = 64 := by omega
        refine Wp.seq ?_
        refine Wp.region ?_
        refine WpL.step (Stp.rd (Rdo.lti rfl rfl) rfl ?_)
        refine WpL.nil ?_
        refine Thn.n ?_
        refine Wp.seq ?_
        refine Wp.condF rfl ?_
        refine Wp.exit ?_
        refine Thn.x ?_
        refine Thn.x ?_
        refine Blk.here ?_
        refine Thn.n ?_
        refine Wp.seq ?_
        refine Wp.region ?_
        refine WpL.step (Stp.rd (Rdo.move rfl) rfl ?_)
        refine WpL.nil ?_
        refine Thn.n ?_
        refine Wp.block ?_
        have hend : dBlock Kl S bs = dAdd S (dRounds Kl W S 64) := by rw [← hW]; rfl
        rw [hend]
        clear hend hW
        generalize dRounds Kl W S 64 = V at *
        refine Wp.loopE (fun k e h => ∃ i : Nat, i + k = 8 ∧ e = [(0, vp s 0), (9, vp nb18 0), (142, vi i)] ∧ h = adL Kl s kb nb18 V (.slice (some ⟨pb, po, none⟩) bs.length c) bs (dAddL S.l V.l i)) 8
          (e0 := [(0, vp s 0), (9, vp nb18 0), (142, vi (0 : Nat))]) (l0 := adL Kl s kb nb18 V (.slice (some ⟨pb, po, none⟩) bs.length c) bs (dAddL S.l V.l 0)) (by repeat (first | exact trivial | refine ⟨rfl, ?_⟩)) (by repeat (first | exact trivial | refine ⟨rfl, ?_⟩)) (by rw [dAddL_zero]; exact Gh.tk (by repeat (first | exact Tk.nil | apply Tk.cons (by repeat (first | exact Pk.here | apply Pk.next))))) ⟨0, by omega, rfl, rfl⟩ ?_
        rintro k e h ⟨i, hik, rfl, rfl⟩
        by_cases hi : i < 8
        · have hi' : (i : Int) < 8 := by omega
          have hlen := dAddL_len S.l V.l i
          have w1 := at32 (dAddL S.l V.l i) i (by rw [hlen]; exact hi)
          have w2 : V.C[0 + i * 1]? = some (v32 (V.l.getD i 0)) := at32 V.l i hi
          refine Wp.seq ?_
          refine Wp.region ?_
          refine WpL.step (Stp.rd (Rdo.lti rfl rfl) rfl ?_)
          refine WpL.nil ?_
          refine Thn.n ?_
          refine Wp.seq ?_
          refine Wp.condK rfl (by first | rfl | assumption | (simp only [decide_eq_true_eq, decide_eq_false_iff_not, Bool.not_eq_true', Bool.not_eq_false', List.length_cons, List.length_nil]; first | assumption | omega) | (simp <;> done) | (simp <;> omega)) ?_
          refine Wp.skip ?_
          refine Thn.n ?_
          refine Wp.seq ?_
          refine Wp.block ?_
          refine Wp.seq ?_
          refine Wp.region ?_
          refine WpL.step (Stp.rd (Rdo.move rfl) rfl ?_)
          refine WpL.step (Stp.rd (Rdo.assign rfl) rfl ?_)
          refine WpL.nil ?_
          refine Thn.n ?_
          refine Wp.draw (by kernel_rfl) ?_
          refine WpR.take (i := 0) rfl (by kernel_rfl) (by kernel_rfl) (by kernel_rfl) (Rdo.move rfl) rfl ?_
          refine WpR.take (i := 1) rfl (by kernel_rfl) (by kernel_rfl) (by kernel_rfl) (Rdo.move rfl) rfl ?_
          refine WpR.take (i := 2) rfl (by kernel_rfl) (by kernel_rfl) (by kernel_rfl) (Rdo.nilCheck rfl) rfl ?_
          refine WpR.take (i := 3) rfl (by kernel_rfl) (by kernel_rfl) (by kernel_rfl) (Rdo.indexArr rfl rfl (by omega)) rfl ?_
          refine WpR.take (i := 5) rfl (by kernel_rfl) (by kernel_rfl) (by kernel_rfl) (Rdo.move rfl) rfl ?_
          refine WpR.take (i := 6) rfl (by kernel_rfl) (by kernel_rfl) (by kernel_rfl) (Rdo.indexArr rfl rfl (by omega)) rfl ?_
          refine WpR.take (i := 9) rfl (by kernel_rfl) (by kernel_rfl) (by kernel_rfl) (Rdo.nilCheck rfl) rfl ?_
          refine WpR.phaseL (m := 3) #[true, true, true, true, true, true, true, true, false, true, false, false] 2 _ rfl (by kernel_rfl) Tk.rfl_ ?_
          refine WpA.take (i := 4) rfl rfl (by kernel_rfl) (by kernel_rfl) (by kernel_rfl) (Rdo.load rfl (Lds.one (by assumption))) rfl ?_
          refine WpA.take (i := 7) rfl rfl (by kernel_rfl) (by kernel_rfl) (by kernel_rfl) (Rdo.load rfl (Lds.next (Lds.one (by assumption)))) rfl ?_
          refine WpA.stop (by kernel_rfl) ?_
          refine WpR.lst (by simp only [List.cons_append, List.nil_append, List.append_nil]; exact rfl) ?_
          refine WpR.take (i := 8) rfl (by kernel_rfl) (by kernel_rfl) (by kernel_rfl) (Rdo.add rfl rfl) rfl ?_
          refine WpR.take (i := 10) rfl (by kernel_rfl) (by kernel_rfl) (by kernel_rfl) (Rdo.indexArr rfl rfl (by omega)) rfl ?_
          refine WpR.one (i := 11) rfl (by kernel_rfl) (Stp.storeV rfl rfl (VC.i _ _) rfl (Sts.here (oneCells1 rfl) ?_) ?_)
          · simp only [List.length_map, List.length_cons, List.length_nil, hlen]; omega
          rw [put32 _ _ _ (by rw [hlen]; exact hi), ← dAddL_succ]
          refine WpR.done (by kernel_rfl) ?_
          refine Blk.n ?_
          refine Thn.n ?_
          refine Wp.region ?_
          refine WpL.step (Stp.rd (Rdo.succ rfl rfl (by omega)) rfl ?_)
          refine WpL.step (Stp.rd (Rdo.move rfl) rfl ?_)
          refine WpL.nil ?_
          refine Thn.n ?_
          exact ⟨k - 1, _, _, by omega, ⟨i + 1, by omega, rfl, rfl⟩, (by repeat (first | exact trivial | refine ⟨rfl, ?_⟩)), Gh.tk (by repeat (first | exact Tk.nil | apply Tk.cons (by repeat (first | exact Pk.here | apply Pk.next))))⟩
        · obtain rfl : i = 8 := by omega
          rw [dAddL_end]
          refine Wp.seq ?_
          refine Wp.region ?_
          refine WpL.step (Stp.rd (Rdo.lti rfl rfl) rfl ?_)
          refine WpL.nil ?_
          refine Thn.n ?_
          refine Wp.seq ?_
          refine Wp.condF rfl ?_
          refine Wp.exit ?_
          refine Thn.x ?_
          refine Thn.x ?_
          refine Blk.here ?_
          refine Ret.end_ ResV.nil (Gh.tk (by repeat (first | exact Tk.nil | apply Tk.cons (by repeat (first | exact Pk.here | apply Pk.next))))) ⟨rfl, rfl⟩
end Go.Proofs.YtccgdnocldmjeaaDoor
