/- A row of bytes laid by a Writer, with its length. -/
import Derived.Test.YtccgdnocldmjeaaDoorOct2
namespace Go.Proofs.YtccgdnocldmjeaaDoor
open Go
set_option maxHeartbeats 4000000
set_option linter.unusedSimpArgs false
set_option linter.unusedVariables false
set_option maxRecDepth 20000

def rowB (xs : List UInt8) : List UInt8 := numB xs.length ++ xs
theorem numsB_one (n : Nat) (h : n ≤ 4611686018427387904) : numsB [(n : Int)] = numB n := by
  have : clampN (n : Int) = n := by unfold clampN; rw [if_neg (by omega), if_neg (by omega)]; omega
  simp [numsB, this]
abbrev byE (w nb i : Nat) (a : Option Addr) : Env := [(0, vp w 0), (6, .slice (some ⟨nb, 0, none⟩) 1 1), (7, .int .i64 (1 : Nat)), (8, vi i)]
theorem bytes_ok (w nb : Nat) (bs : List UInt8) (v : Value) (xs : List UInt8) (hl : bs.length + xs.length ≤ 1000000000000) :
    Trip Tryd.prog 34 [vp w 0, .slice (some ⟨nb, 0, none⟩) 1 1] [wrA w bs, cel nb 38 [v], fz (fun g => RdBytes g v xs)]
      (fun r l => r = .tuple #[] ∧ l = [wrA w (bs ++ rowB xs), fz (fun g => RdBytes g v xs)]) := by
  refine Trip.get (Pk.next (Pk.next Pk.here)) shape_bytes ?_
  rintro ⟨a, c, rfl⟩
  have hx9 : (numB xs.length).length ≤ 9 := numB_len 8 _ (by omega)
  have s1 : ∀ nb', Trip Tryd.prog 33 [vp w 0, .slice (some ⟨nb', 0, none⟩) 1 1] [wrA w bs, cel nb' 3 [vi xs.length]] (fun r l => r = .tuple #[] ∧ l = [wrA w (bs ++ numB xs.length)]) := by
    intro nb'
    have h := nums_ok w nb' bs [(xs.length : Int)] (by simp; omega)
    rw [numsB_one _ (by omega)] at h
    exact h
  have s2 := raw_ok w (bs ++ numB xs.length) (.slice a xs.length c) xs (by simp; omega)
  rw [List.append_assoc] at s2
  change Trip _ _ _ _ (fun r l => r = .tuple #[] ∧ l = [wrA w (bs ++ rowB xs), fz (fun g => RdBytes g (.slice a xs.length c) xs)]) at s2
  refine Trip.of_body Tryd.func34 rfl Tryd.ntmps34 Tryd.results34 rfl ?_
  refine Wp.seq ?_
  refine Wp.region ?_
  refine WpL.step (Stp.rd (Rdo.move rfl) rfl ?_)
  refine WpL.step (Stp.rd (Rdo.lenSlice rfl) rfl ?_)
  refine WpL.step (Stp.rd (Rdo.move rfl) rfl ?_)
  refine WpL.nil ?_
  refine Thn.n ?_
  refine Wp.block ?_
  refine Wp.loopE (fun k e h => (k = 1 ∧ e = byE w nb 0 a ∧ h = [wrA w bs, cel nb 38 [.slice a xs.length c], fz (fun g => RdBytes g (.slice a xs.length c) xs)]) ∨ (k = 0 ∧ e = byE w nb 1 a ∧ h = [wrA w (bs ++ rowB xs), fz (fun g => RdBytes g (.slice a xs.length c) xs)])) 1
    (e0 := byE w nb 0 a) (l0 := [wrA w bs, cel nb 38 [.slice a xs.length c], fz (fun g => RdBytes g (.slice a xs.length c) xs)]) (by repeat (first | exact trivial | refine ⟨rfl, ?_⟩)) (by repeat (first | exact trivial | refine ⟨rfl, ?_⟩)) Gh.rfl_ (.inl ⟨rfl, rfl, rfl⟩) ?_
  rintro k e h (⟨rfl, rfl, rfl⟩ | ⟨rfl, rfl, rfl⟩)
  · refine Wp.seq ?_
    refine Wp.region ?_
    refine WpL.step (Stp.rd (Rdo.lti rfl rfl) rfl ?_)
    refine WpL.nil ?_
    refine Thn.n ?_
    refine Wp.seq ?_
    refine Wp.condT rfl ?_
    refine Wp.skip ?_
    refine Thn.n ?_
    refine Wp.seq ?_
    refine Wp.block ?_
    refine Wp.seq ?_
    refine Wp.region ?_
    refine WpL.step (Stp.rd (Rdo.indexSlice rfl rfl (by omega)) rfl ?_)
    refine WpL.step (Stp.rd (Rdo.load rfl (Lds.next (Lds.one rfl))) rfl ?_)
    refine WpL.step (Stp.rd (Rdo.assign rfl) rfl ?_)
    refine WpL.nil ?_
    refine Thn.n ?_
    refine Wp.seq ?_
    refine Wp.region ?_
    refine WpL.step (Stp.rd (Rdo.move rfl) rfl ?_)
    refine WpL.step (Stp.rd (Rdo.move rfl) rfl ?_)
    refine WpL.step (Stp.rd (Rdo.lenSlice rfl) rfl ?_)
    (refine WpL.step (Stp.sliceV rfl rfl (VCs.cons (VC.i _ _) (by first | rfl | assumption | (simp <;> done)) VCs.nil) (by simp only [List.cons_append, List.nil_append, List.append_nil]; exact rfl) rfl rfl ?_); intro nb23)
    refine WpL.step (Stp.call (s1 _) (by kernel_rfl) rfl (by repeat (first | exact Tk.nil | apply Tk.cons (by repeat (first | exact Pk.here | apply Pk.next)))) rfl ?_)
    rintro _ _ ⟨rfl, rfl⟩
    refine WpL.lst (by simp only [List.cons_append, List.nil_append]; exact rfl) ?_
    refine WpL.nil ?_
    refine Thn.n ?_
    refine Wp.region ?_
    refine WpL.step (Stp.rd (Rdo.move rfl) rfl ?_)
    refine WpL.step (Stp.rd (Rdo.move rfl) rfl ?_)
    refine WpL.step (Stp.call (s2) (by kernel_rfl) rfl (by repeat (first | exact Tk.nil | apply Tk.cons (by repeat (first | exact Pk.here | apply Pk.next)))) rfl ?_)
    rintro _ _ ⟨rfl, rfl⟩
    refine WpL.lst (by simp only [List.cons_append, List.nil_append]; exact rfl) ?_
    refine WpL.nil ?_
    refine Blk.n ?_
    refine Thn.n ?_
    refine Wp.region ?_
    refine WpL.step (Stp.rd (Rdo.succ rfl rfl (by omega)) rfl ?_)
    refine WpL.step (Stp.rd (Rdo.move rfl) rfl ?_)
    refine WpL.nil ?_
    refine Thn.n ?_
    exact ⟨0, _, _, by omega, .inr ⟨rfl, rfl, rfl⟩, (by repeat (first | exact trivial | refine ⟨rfl, ?_⟩)), Gh.tk (by repeat (first | exact Tk.nil | apply Tk.cons (by repeat (first | exact Pk.here | apply Pk.next))))⟩
  · refine Wp.seq ?_
    refine Wp.region ?_
    refine WpL.step (Stp.rd (Rdo.lti rfl rfl) rfl ?_)
    refine WpL.nil ?_
    refine Thn.n ?_
    refine Wp.seq ?_
    refine Wp.condF rfl ?_
    refine Wp.exit ?_
    refine Thn.x ?_
    refine Thn.x ?_
    refine Blk.here ?_
    refine Ret.end_ ResV.nil (Gh.tk (by repeat (first | exact Tk.nil | apply Tk.cons (by repeat (first | exact Pk.here | apply Pk.next))))) ⟨rfl, rfl⟩
end Go.Proofs.YtccgdnocldmjeaaDoor
