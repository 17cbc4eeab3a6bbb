/- The coordinator: a name looked for. -/
import Derived.Test.YtccgdnocldmjeaaDoorCo6
import Derived.Test.YtccgdnocldmjeaaDoorCoP
namespace Go.Proofs.YtccgdnocldmjeaaDoor
open Go
set_option maxHeartbeats 4000000
set_option linter.unusedSimpArgs false
set_option linter.unusedVariables false
set_option maxRecDepth 20000
open Tabprod

abbrev tabL (b tb mb : Nat) (t : TypeId) (v1 v2 v3 v4 : Value) (qs : List Nat) (ps : List Prod) : List HP :=
  [cel b t [vp tb 0, v1, v2, v3, v4], cel tb 83 [.map (some mb)], mapA i64 mb (tabE 0 qs), prodsA qs ps]
abbrev namL (b tb mb : Nat) (t : TypeId) (v1 v2 v3 v4 : Value) (qs : List Nat) (ps : List Prod) (s : List UInt8) (n2 n3 n4 n5 : Nat) (iv pv bv : Value) : List HP :=
  [prodsA qs ps, cel n5 4 [bv], cel n4 60 [pv], cel n3 3 [iv], cel n2 9 [vs s], cel b t [vp tb 0, v1, v2, v3, v4], cel tb 83 [.map (some mb)], mapA i64 mb (tabE 0 qs)]
theorem named_ok (b tb mb : Nat) (t : TypeId) (v1 v2 v3 v4 : Value) (qs : List Nat) (ps : List Prod) (s : List UInt8) (hq : qs.length = ps.length) (h8 : ps.length ≤ 8) :
    Trip Tryd.prog 53 [vp b 0, vs s] (tabL b tb mb t v1 v2 v3 v4 qs ps)
      (fun r l => (∃ i q, nameAt ps s = some i ∧ qs[i]? = some q ∧ r = .tuple #[vi i, vp q 0, vb true] ∧ l = tabL b tb mb t v1 v2 v3 v4 qs ps) ∨
        (∃ nb, nameAt ps s = none ∧ r = .tuple #[vi ps.length, vp nb 0, vb false] ∧ l = cel nb 74 (prodC ⟨s, 0, 0, false, [], 0⟩ (.map none)) :: tabL b tb mb t v1 v2 v3 v4 qs ps)) := by
  have hl1 := len_ok tb mb (tabE 0 qs) (by rw [tabE_length]; omega)
  rw [tabE_length, hq] at hl1
  refine Trip.of_body Tryd.func53 rfl Tryd.ntmps53 Tryd.results53 rfl ?_
  refine Wp.seq ?_
  refine Wp.region ?_
  (refine WpL.step (Stp.boxV rfl (VC.s _) rfl ?_); intro nb2)
  (refine WpL.step (Stp.alloc rfl ?_); intro nb3)
  (refine WpL.step (Stp.alloc rfl ?_); intro nb4)
  (refine WpL.step (Stp.alloc rfl ?_); intro nb5)
  refine WpL.nil ?_
  refine Thn.n ?_
  refine Wp.seq ?_
  refine Wp.seq ?_
  refine Wp.region ?_
  refine WpL.step (Stp.rd (Rdo.move rfl) rfl ?_)
  refine WpL.step (Stp.rd (Rdo.nilCheck rfl) rfl ?_)
  refine WpL.step (Stp.rd (Rdo.fieldAddr0 rfl) rfl ?_)
  refine WpL.step (Stp.rd (Rdo.load rfl (Lds.next (Lds.next (Lds.next (Lds.next (Lds.one rfl)))))) rfl ?_)
  refine WpL.step (Stp.call (Tabprod.all_ok _) (by kernel_rfl) rfl (by repeat (first | exact Tk.nil | apply Tk.cons (by repeat (first | exact Pk.here | apply Pk.next)))) rfl ?_)
  rintro _ _ ⟨v16_0, ⟨v16_1, ⟨rfl, rfl⟩⟩⟩
  refine WpL.lst (by simp only [List.cons_append, List.nil_append]; exact rfl) ?_
  refine WpL.nil ?_
  refine Thn.n ?_
  refine Wp.block ?_
  refine Wp.rangeFunc (ps := [14, 15]) rfl (by kernel_rfl) (allIter v16_0 v16_1 tb mb _ _ (tabE 0 qs) (tabE 0 qs) (List.Perm.refl _) (tabE_keys 0 qs) (by rw [tabE_length]; omega)) (fun _ => rfl) rfl
    (fun pre l => (∀ p ∈ ps.take pre.length, p.name ≠ s) ∧ l = namL b tb mb t v1 v2 v3 v4 qs ps s nb2 nb3 nb4 nb5 (vi 0) (.pointer none) (vb false))
    (fun j pre l => j = .ret ∧ ∃ i q, nameAt ps s = some i ∧ qs[i]? = some q ∧ l = namL b tb mb t v1 v2 v3 v4 qs ps s nb2 nb3 nb4 nb5 (vi i) (vp q 0) (vb true))
    (l0 := namL b tb mb t v1 v2 v3 v4 qs ps s nb2 nb3 nb4 nb5 (vi 0) (.pointer none) (vb false)) (Gh.tk (by repeat (first | exact Tk.nil | apply Tk.cons (by repeat (first | exact Pk.here | apply Pk.next))))) ⟨by simp, rfl⟩
    (Bor.tk (Tk.cons (Pk.next (Pk.next (Pk.next (Pk.next (Pk.next (Pk.next Pk.here)))))) (Tk.cons (Pk.next (Pk.next (Pk.next (Pk.next (Pk.next (Pk.next Pk.here)))))) Tk.nil)) (Gh.tk (by repeat (first | exact Tk.nil | apply Tk.cons (by repeat (first | exact Pk.here | apply Pk.next)))))) ?_ ?_ ?_
  · rintro lp rec pre ⟨x, u⟩ rest _ hs ⟨hpre, rfl⟩ st pe
    have hg : (tabE 0 qs)[pre.length]? = some (x, u) := by rw [← hs]; simp
    rw [tabE_get] at hg
    obtain ⟨q, hqi, hxu⟩ := Option.map_eq_some_iff.1 hg
    simp only [Nat.zero_add] at hxu
    obtain ⟨rfl, rfl⟩ := _root_.Prod.mk.inj hxu
    have hlt : pre.length < qs.length := (List.getElem?_eq_some_iff.1 hqi).1
    obtain ⟨p, hpi⟩ : ∃ p, ps[pre.length]? = some p := ⟨ps[pre.length]'(by omega), List.getElem?_eq_getElem (by omega)⟩
    refine Wp.gh (Gh.part1 hqi hpi) (Wp.ghE prodA_open ?_)
    rintro v _
    have hsh : ∀ l, Gh (cel q 74 (prodC p v) :: pmA v p.opn p.parts :: holeA qs ps pre.length :: l) (prodsA qs ps :: l) := fun l => Gh.trans prodA_shut (Gh.part0 hqi hpi)
    by_cases hn : p.name = s
    · refine Wp.seq ?_
      refine Wp.region ?_
      refine WpL.step (Stp.rd (Rdo.assign rfl) rfl ?_)
      refine WpL.nil ?_
      refine Thn.n ?_
      refine Wp.region ?_
      refine WpL.step (Stp.rd (Rdo.assign rfl) rfl ?_)
      refine WpL.nil ?_
      refine ⟨rfl, fun st pe => ?_⟩
      refine Wp.block ?_
      refine Wp.seq ?_
      refine Wp.draw (by kernel_rfl) ?_
      refine WpR.take (i := 0) rfl (by kernel_rfl) (by kernel_rfl) (by kernel_rfl) (Rdo.move rfl) rfl ?_
      refine WpR.take (i := 1) rfl (by kernel_rfl) (by kernel_rfl) (by kernel_rfl) (Rdo.nilCheck rfl) rfl ?_
      refine WpR.take (i := 2) rfl (by kernel_rfl) (by kernel_rfl) (by kernel_rfl) (Rdo.fieldAddr0 rfl) rfl ?_
      refine WpR.phaseL (m := 1) #[true, true, true, true, true, false] 2 _ rfl (by kernel_rfl) Tk.rfl_ ?_
      refine WpA.take (i := 3) rfl rfl (by kernel_rfl) (by kernel_rfl) (by kernel_rfl) (Rdo.load rfl (Lds.one rfl)) rfl ?_
      refine WpA.take (i := 4) rfl rfl (by kernel_rfl) (by kernel_rfl) (by kernel_rfl) (Rdo.load rfl (Lds.next (Lds.next (Lds.next (Lds.next (Lds.next (Lds.next (Lds.one rfl)))))))) rfl ?_
      refine WpA.stop (by kernel_rfl) ?_
      refine WpR.lst (by simp only [List.cons_append, List.nil_append, List.append_nil]; exact rfl) ?_
      refine WpR.take (i := 5) rfl (by kernel_rfl) (by kernel_rfl) (by kernel_rfl) (Rdo.eqVs rfl rfl) rfl ?_
      refine WpR.done (by kernel_rfl) ?_
      refine Thn.n ?_
      refine Wp.condK rfl (by first | rfl | assumption | (simp only [decide_eq_true_eq, decide_eq_false_iff_not, Bool.not_eq_true', Bool.not_eq_false', List.length_cons, List.length_nil]; first | assumption | omega) | (simp <;> done) | (simp <;> omega)) ?_
      refine Wp.seq ?_
      refine Wp.region ?_
      refine WpL.step (Stp.rd (Rdo.move rfl) rfl ?_)
      refine WpL.step (Stp.rd (Rdo.move rfl) rfl ?_)
      refine WpL.step (Stp.storeV rfl rfl (VC.i _ _) rfl (Sts.next (Sts.next (Sts.next (Sts.next (Sts.next (Sts.lp (by repeat (first | exact LPut.nil _ | apply LPut.here | apply LPut.next)) (oneCells1 rfl))))))) ?_)
      refine WpL.step (Stp.storeV rfl rfl (VC.p _) rfl (Sts.next (Sts.next (Sts.next (Sts.next (Sts.lp (by repeat (first | exact LPut.nil _ | apply LPut.here | apply LPut.next)) (oneCells1 rfl)))))) ?_)
      refine WpL.step (Stp.storeV rfl rfl (VC.b _) rfl (Sts.next (Sts.next (Sts.next (Sts.lp (by repeat (first | exact LPut.nil _ | apply LPut.here | apply LPut.next)) (oneCells1 rfl))))) ?_)
      refine WpL.nil ?_
      refine Thn.n ?_
      refine Wp.ret ?_
      refine Blk.r ?_
      refine ⟨namL b tb mb t v1 v2 v3 v4 qs ps s nb2 nb3 nb4 nb5 (vi pre.length) (vp q 0) (vb true), Gh.trans (Gh.tk (by repeat (first | exact Tk.nil | apply Tk.cons (by repeat (first | exact Pk.here | apply Pk.next))))) (hsh _), rfl, pre.length, q, ?_, hqi, rfl⟩
      rw [List.findIdx?_eq_some_iff_findIdx_eq, List.findIdx_eq (by omega)]
      obtain ⟨hp1, hp2⟩ := List.getElem?_eq_some_iff.1 hpi
      refine ⟨hp1, by rw [hp2]; simpa using hn, fun j hj => ?_⟩
      have := hpre ps[j] (List.mem_take_iff_getElem.2 ⟨j, by omega, rfl⟩)
      simpa using this
    · refine Wp.seq ?_
      refine Wp.region ?_
      refine WpL.step (Stp.rd (Rdo.assign rfl) rfl ?_)
      refine WpL.nil ?_
      refine Thn.n ?_
      refine Wp.region ?_
      refine WpL.step (Stp.rd (Rdo.assign rfl) rfl ?_)
      refine WpL.nil ?_
      refine ⟨rfl, fun st pe => ?_⟩
      refine Wp.block ?_
      refine Wp.seq ?_
      refine Wp.draw (by kernel_rfl) ?_
      refine WpR.take (i := 0) rfl (by kernel_rfl) (by kernel_rfl) (by kernel_rfl) (Rdo.move rfl) rfl ?_
      refine WpR.take (i := 1) rfl (by kernel_rfl) (by kernel_rfl) (by kernel_rfl) (Rdo.nilCheck rfl) rfl ?_
      refine WpR.take (i := 2) rfl (by kernel_rfl) (by kernel_rfl) (by kernel_rfl) (Rdo.fieldAddr0 rfl) rfl ?_
      refine WpR.phaseL (m := 1) #[true, true, true, true, true, false] 2 _ rfl (by kernel_rfl) Tk.rfl_ ?_
      refine WpA.take (i := 3) rfl rfl (by kernel_rfl) (by kernel_rfl) (by kernel_rfl) (Rdo.load rfl (Lds.one rfl)) rfl ?_
      refine WpA.take (i := 4) rfl rfl (by kernel_rfl) (by kernel_rfl) (by kernel_rfl) (Rdo.load rfl (Lds.next (Lds.next (Lds.next (Lds.next (Lds.next (Lds.next (Lds.one rfl)))))))) rfl ?_
      refine WpA.stop (by kernel_rfl) ?_
      refine WpR.lst (by simp only [List.cons_append, List.nil_append, List.append_nil]; exact rfl) ?_
      refine WpR.take (i := 5) rfl (by kernel_rfl) (by kernel_rfl) (by kernel_rfl) (Rdo.eqVs rfl rfl) rfl ?_
      refine WpR.done (by kernel_rfl) ?_
      refine Thn.n ?_
      refine Wp.condL rfl (by first | rfl | assumption | (simp only [decide_eq_true_eq, decide_eq_false_iff_not, Bool.not_eq_true', Bool.not_eq_false', List.length_cons, List.length_nil]; first | assumption | omega) | (simp <;> done) | (simp <;> omega)) ?_
      refine Wp.skip ?_
      refine Blk.n ?_
      refine ⟨namL b tb mb t v1 v2 v3 v4 qs ps s nb2 nb3 nb4 nb5 (vi 0) (.pointer none) (vb false), Gh.trans (Gh.tk (by repeat (first | exact Tk.nil | apply Tk.cons (by repeat (first | exact Pk.here | apply Pk.next))))) (hsh _), ?_, rfl⟩
      intro z hz
      rw [List.length_append, List.length_singleton, List.take_add_one, hpi] at hz
      rcases List.mem_append.1 hz with hz | hz
      · exact hpre z hz
      · simp only [Option.toList_some, List.mem_singleton] at hz
        rw [hz]
        exact hn
  · rintro xs _ rfl ⟨hpre, rfl⟩
    have hno : nameAt ps s = none := by
      rw [tabE_length, List.take_of_length_le (by omega)] at hpre
      rw [List.findIdx?_eq_none_iff]
      intro p hp
      simpa using hpre p hp
    refine Blk.n ?_
    refine Thn.n ?_
    refine Wp.seq ?_
    refine Wp.draw (by kernel_rfl) ?_
    refine WpR.take (i := 0) rfl (by kernel_rfl) (by kernel_rfl) (by kernel_rfl) (Rdo.move rfl) rfl ?_
    refine WpR.take (i := 1) rfl (by kernel_rfl) (by kernel_rfl) (by kernel_rfl) (Rdo.nilCheck rfl) rfl ?_
    refine WpR.take (i := 2) rfl (by kernel_rfl) (by kernel_rfl) (by kernel_rfl) (Rdo.fieldAddr0 rfl) rfl ?_
    refine WpR.phaseL (m := 0) #[true, true, true, true, true, true, true, true, true, true, true] 8 _ rfl (by kernel_rfl) (Tk.cons (Pk.next (Pk.next (Pk.next (Pk.next Pk.here)))) (Tk.cons (Pk.next (Pk.next (Pk.next (Pk.next Pk.here)))) Tk.nil)) ?_
    refine WpA.take (i := 3) rfl rfl (by kernel_rfl) (by kernel_rfl) (by kernel_rfl) (Rdo.load rfl (Lds.next (Lds.one rfl))) rfl ?_
    refine WpA.take (i := 5) rfl rfl (by kernel_rfl) (by kernel_rfl) (by kernel_rfl) (Rdo.load rfl (Lds.one rfl)) rfl ?_
    refine WpA.take (i := 6) rfl rfl (by kernel_rfl) (by kernel_rfl) (by kernel_rfl) (Rdo.bld rfl (BldL.cons rfl (VC.s _) (by first | rfl | assumption | (simp <;> done)) (by repeat (first | exact LPut.nil _ | apply LPut.here | apply LPut.next)) (BldL.nil _))) rfl ?_
    refine PendA.start (hz := MK.bx rfl (VC.ag _)) (i := 7) rfl ?_
    refine PendA.one (hz := MK.bx rfl (VC.ag _)) (j := 4) rfl rfl (by kernel_rfl) (by kernel_rfl) (by kernel_rfl) rfl (by simp) rfl rfl (Stp.call (hl1) (by kernel_rfl) rfl (by repeat (first | exact Tk.nil | apply Tk.cons (by repeat (first | exact Pk.here | apply Pk.next)))) rfl ?_)
    rintro _ _ ⟨rfl, rfl⟩
    refine PendA.lst (by simp only [List.cons_append, List.nil_append]; exact rfl) ?_
    refine PendA.one (hz := MK.bx rfl (VC.ag _)) (j := 8) rfl rfl (by kernel_rfl) (by kernel_rfl) (by kernel_rfl) rfl (by simp) rfl rfl (Stp.storeV rfl rfl (VC.i _ _) rfl (Sts.next (Sts.next (Sts.next (Sts.next (Sts.next (Sts.lp (by repeat (first | exact LPut.nil _ | apply LPut.here | apply LPut.next)) (oneCells1 rfl))))))) ?_)
    refine PendA.made (hz := MK.bx rfl (VC.ag _)) rfl (by kernel_rfl) rfl (fun nb16 => ?_)
    refine WpA.one (i := 9) rfl (by kernel_rfl) (Stp.storeV rfl rfl (VC.p _) rfl (Sts.next (Sts.next (Sts.next (Sts.next (Sts.next (Sts.lp (by repeat (first | exact LPut.nil _ | apply LPut.here | apply LPut.next)) (oneCells1 rfl))))))) ?_)
    refine WpA.one (i := 10) rfl (by kernel_rfl) (Stp.storeV rfl rfl (VC.b _) rfl (Sts.next (Sts.next (Sts.next (Sts.next (Sts.lp (by repeat (first | exact LPut.nil _ | apply LPut.here | apply LPut.next)) (oneCells1 rfl)))))) ?_)
    refine WpA.stop (by kernel_rfl) ?_
    refine WpR.lst (by simp only [List.cons_append, List.nil_append]; exact rfl) ?_
    refine WpR.done (by kernel_rfl) ?_
    refine Thn.n ?_
    refine Wp.ret ?_
    refine Ret.now (by repeat (first | exact ResV.nil | apply ResV.tmp rfl | apply ResV.cell rfl (by repeat (first | exact Lds.one rfl | (apply Lds.all; (first | rfl | assumption | (simp <;> fail))) | exact Lds.ione0 | exact Lds.ione rfl | (apply Lds.iall; (first | rfl | assumption | (simp <;> fail))) | apply Lds.next)))) (Gh.tk (by repeat (first | exact Tk.nil | apply Tk.cons (by repeat (first | exact Pk.here | apply Pk.next))))) (.inr ⟨_, hno, rfl, rfl⟩)
  · rintro j pre l' ⟨rfl, i, q, h1, h2, rfl⟩
    refine Blk.r ?_
    refine Thn.r ?_
    refine Ret.now (by repeat (first | exact ResV.nil | apply ResV.tmp rfl | apply ResV.cell rfl (by repeat (first | exact Lds.one rfl | (apply Lds.all; (first | rfl | assumption | (simp <;> fail))) | exact Lds.ione0 | exact Lds.ione rfl | (apply Lds.iall; (first | rfl | assumption | (simp <;> fail))) | apply Lds.next)))) (Gh.tk (by repeat (first | exact Tk.nil | apply Tk.cons (by repeat (first | exact Pk.here | apply Pk.next))))) (.inl ⟨i, q, h1, h2, rfl, rfl⟩)
theorem named_in (b tb mb : Nat) (t : TypeId) (v1 v2 v3 v4 : Value) (qs : List Nat) (ps : List Prod) (s : List UInt8) (hq : qs.length = ps.length) (h8 : ps.length ≤ 8) (i q : Nat) (hi : nameAt ps s = some i) (hqi : qs[i]? = some q) :
    Trip Tryd.prog 53 [vp b 0, vs s] (tabL b tb mb t v1 v2 v3 v4 qs ps) (fun r l => r = .tuple #[vi i, vp q 0, vb true] ∧ l = tabL b tb mb t v1 v2 v3 v4 qs ps) := by
  refine Trip.mono (named_ok b tb mb t v1 v2 v3 v4 qs ps s hq h8) ?_
  rintro r l (⟨i', q', h1, h2, rfl, rfl⟩ | ⟨nb, h1, _, _⟩)
  · rw [hi] at h1; cases h1
    rw [hqi] at h2; cases h2
    exact ⟨rfl, rfl⟩
  · rw [hi] at h1; cases h1
theorem named_new (b tb mb : Nat) (t : TypeId) (v1 v2 v3 v4 : Value) (qs : List Nat) (ps : List Prod) (s : List UInt8) (hq : qs.length = ps.length) (h8 : ps.length ≤ 8) (hi : nameAt ps s = none) :
    Trip Tryd.prog 53 [vp b 0, vs s] (tabL b tb mb t v1 v2 v3 v4 qs ps)
      (fun r l => ∃ nb, r = .tuple #[vi ps.length, vp nb 0, vb false] ∧ l = cel nb 74 (prodC ⟨s, 0, 0, false, [], 0⟩ (.map none)) :: tabL b tb mb t v1 v2 v3 v4 qs ps) := by
  refine Trip.mono (named_ok b tb mb t v1 v2 v3 v4 qs ps s hq h8) ?_
  rintro r l (⟨i', q', h1, h2, rfl, rfl⟩ | ⟨nb, h1, h2, h3⟩)
  · rw [hi] at h1; cases h1
  · exact ⟨nb, h2, h3⟩
end Go.Proofs.YtccgdnocldmjeaaDoor
