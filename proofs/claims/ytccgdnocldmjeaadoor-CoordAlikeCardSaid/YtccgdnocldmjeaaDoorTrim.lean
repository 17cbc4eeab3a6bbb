/- strings.Trim with the small letters: what is left is nothing just where all are small letters. -/
import Derived.Test.YtccgdnocldmjeaaDoorSrt2
import Derived.Test.YtccgdnocldmjeaaDoorStr
namespace Go.Proofs.YtccgdnocldmjeaaDoor
open Go
set_option maxHeartbeats 4000000
set_option linter.unusedSimpArgs false
set_option linter.unusedVariables false
set_option maxRecDepth 20000

/-- A set of bytes, as the library keeps it. -/
def setC (p : Nat → Bool) : List Value := (List.range 256).map fun i => vb (p i)
theorem setC_len (p : Nat → Bool) : (setC p).length = 256 := by simp [setC]
theorem setC_at (p : Nat → Bool) (b : UInt8) : (setC p)[b.toNat]? = some (vb (p b.toNat)) := by
  have := b.toNat_lt
  simp [setC, this]
theorem setC_put (p : Nat → Bool) (b : UInt8) : lput (setC p) b.toNat [vb true] = setC (fun i => p i || decide (i = b.toNat)) := by
  have hb := b.toNat_lt
  rw [lput_step _ _ _ _ (by rw [setC_len]; exact hb), lput_nil]
  apply List.ext_getElem?
  intro j
  by_cases hj : b.toNat = j
  · subst hj
    rw [List.getElem?_set_self (by rw [setC_len]; exact hb), setC_at]
    simp
  · rw [List.getElem?_set_ne hj]
    by_cases hlt : j < 256
    · simp [setC, hlt, Ne.symm hj]
    · simp [setC, hlt]
theorem oneCells_setC (p : Nat → Bool) : oneCells (setC p) := by
  intro v hv
  obtain ⟨i, _, rfl⟩ := List.mem_map.1 hv
  rfl

theorem contains_ok (ab : Nat) (ta : TypeId) (p : Nat → Bool) (c : UInt8) : Trip Tryd.prog 89 [vp ab 0, .int .u8 c.toNat] [cel ab ta (setC p)] (fun r l => r = vb (p c.toNat) ∧ l = [cel ab ta (setC p)]) := by
  have hc := c.toNat_lt
  have h1 : (setC p)[0 + c.toNat * 1]? = some (vb (p c.toNat)) := by simpa using setC_at p c
  refine Trip.of_body Tryd.func89 rfl Tryd.ntmps89 Tryd.results89 rfl ?_
  refine Wp.seq ?_
  refine Wp.region ?_
  refine WpL.step (Stp.rd (Rdo.assign rfl) rfl ?_)
  refine WpL.nil ?_
  refine Thn.n ?_
  refine Wp.seq ?_
  refine Wp.region ?_
  refine WpL.step (Stp.rd (Rdo.move rfl) rfl ?_)
  refine WpL.step (Stp.rd (Rdo.move rfl) rfl ?_)
  refine WpL.step (Stp.rd (Rdo.nilCheck rfl) rfl ?_)
  refine WpL.step (Stp.rd (Rdo.indexArr rfl rfl (by omega)) rfl ?_)
  refine WpL.step (Stp.rd (Rdo.load rfl (Lds.one (by assumption))) rfl ?_)
  refine WpL.step (Stp.rd (Rdo.assign rfl) rfl ?_)
  refine WpL.nil ?_
  refine Thn.n ?_
  refine Wp.ret ?_
  refine Ret.now (ResV.tmp rfl ResV.nil) (Gh.tk (by repeat (first | exact Tk.nil | apply Tk.cons (by repeat (first | exact Pk.here | apply Pk.next))))) ⟨rfl, rfl⟩

theorem trimLeft_ok (ab : Nat) (ta : TypeId) (p : Nat → Bool) (s : List UInt8) (hs : s.length ≤ 1099511627776) : Trip Tryd.prog 70 [vs s, vp ab 0] [cel ab ta (setC p)]
    (fun r l => r = vs (s.dropWhile fun b => p b.toNat) ∧ l = [cel ab ta (setC p)]) := by
  refine Trip.of_body Tryd.func70 rfl Tryd.ntmps70 Tryd.results70 rfl ?_
  refine Wp.seq ?_
  refine Wp.region ?_
  refine WpL.step (Stp.rd (Rdo.assign rfl) rfl ?_)
  refine WpL.nil ?_
  refine Thn.n ?_
  refine Wp.seq ?_
  refine Wp.block ?_
  refine Wp.loopE (fun k e h => ∃ t : List UInt8, t.length = k ∧ t.length ≤ s.length ∧ (t.dropWhile fun b => p b.toNat) = (s.dropWhile fun b => p b.toNat) ∧ e = [(0, vs t), (1, vp ab 0)] ∧ h = [cel ab ta (setC p)]) s.length
    (e0 := [(0, vs s), (1, vp ab 0)]) (l0 := [cel ab ta (setC p)]) (by repeat (first | exact trivial | refine ⟨rfl, ?_⟩)) (by repeat (first | exact trivial | refine ⟨rfl, ?_⟩)) Gh.rfl_ ⟨s, rfl, by omega, rfl, rfl, rfl⟩ ?_
  rintro k e h ⟨t, hk, hts, hd, rfl, rfl⟩
  cases t with
  | nil =>
    refine Wp.seq ?_
    refine Wp.seq ?_
    refine Wp.region ?_
    refine WpL.step (Stp.rd (Rdo.move rfl) rfl ?_)
    refine WpL.step (Stp.rd (Rdo.lenVs rfl) rfl ?_)
    refine WpL.step (Stp.rd (Rdo.gti rfl rfl) rfl ?_)
    refine WpL.nil ?_
    refine Thn.n ?_
    refine Wp.condF rfl ?_
    refine Wp.exit ?_
    refine Thn.x ?_
    refine Thn.x ?_
    refine Blk.here ?_
    refine Thn.n ?_
    refine Wp.seq ?_
    refine Wp.region ?_
    refine WpL.step (Stp.rd (Rdo.move rfl) rfl ?_)
    refine WpL.step (Stp.rd (Rdo.assign rfl) rfl ?_)
    refine WpL.nil ?_
    refine Thn.n ?_
    refine Wp.ret ?_
    refine Ret.now (ResV.tmp rfl ResV.nil) (Gh.tk (by repeat (first | exact Tk.nil | apply Tk.cons (by repeat (first | exact Pk.here | apply Pk.next))))) ⟨(by first | rfl | (simp [packed] <;> done) | (simp_all [packed] <;> done)), rfl⟩
    all_goals exact Ret.now (ResV.tmp rfl ResV.nil) Gh.rfl_ ⟨by simp only [packed]; rw [← hd]; rfl, rfl⟩
  | cons b t =>
    have h1 : (b :: t)[0]? = some b := rfl
    simp at hk hts
    cases hb : p b.toNat with
    | true =>
      refine Wp.seq ?_
      refine Wp.seq ?_
      refine Wp.region ?_
      refine WpL.step (Stp.rd (Rdo.move rfl) rfl ?_)
      refine WpL.step (Stp.rd (Rdo.lenVs rfl) rfl ?_)
      refine WpL.step (Stp.rd (Rdo.gti rfl rfl) rfl ?_)
      refine WpL.nil ?_
      refine Thn.n ?_
      refine Wp.condK rfl (by first | rfl | assumption | (simp only [decide_eq_true_eq, decide_eq_false_iff_not, Bool.not_eq_true', Bool.not_eq_false', List.length_cons, List.length_nil]; first | assumption | omega) | (simp <;> done) | (simp <;> omega)) ?_
      refine Wp.skip ?_
      refine Thn.n ?_
      refine Wp.block ?_
      refine Wp.seq ?_
      refine Wp.seq ?_
      refine Wp.region ?_
      refine WpL.step (Stp.rd (Rdo.move rfl) rfl ?_)
      refine WpL.step (Stp.rd (Rdo.move rfl) rfl ?_)
      refine WpL.step (Stp.rd (Rdo.indexVs rfl rfl (by assumption)) rfl ?_)
      refine WpL.step (Stp.call (contains_ok _ _ _ _) (by kernel_rfl) rfl (by repeat (first | exact Tk.nil | apply Tk.cons (by repeat (first | exact Pk.here | apply Pk.next)))) rfl ?_)
      rintro _ _ ⟨rfl, rfl⟩
      refine WpL.lst (by simp only [List.cons_append, List.nil_append]; exact rfl) ?_
      refine WpL.step (Stp.rd (Rdo.not rfl) rfl ?_)
      refine WpL.nil ?_
      refine Thn.n ?_
      refine Wp.condL rfl (by first | rfl | assumption | (simp only [decide_eq_true_eq, decide_eq_false_iff_not, Bool.not_eq_true', Bool.not_eq_false', List.length_cons, List.length_nil]; first | assumption | omega) | (simp <;> done) | (simp <;> omega)) ?_
      refine Wp.skip ?_
      refine Thn.n ?_
      refine Wp.region ?_
      refine WpL.step (Stp.rd (Rdo.move rfl) rfl ?_)
      refine WpL.step (Stp.rd (Rdo.strFrom rfl rfl (by first | omega | (simp <;> omega))) rfl ?_)
      refine WpL.step (Stp.rd (Rdo.assign rfl) rfl ?_)
      refine WpL.nil ?_
      refine Blk.n ?_
      refine Thn.n ?_
      exact ⟨t.length, _, _, by omega, ⟨t, rfl, by omega, by rw [← hd, List.dropWhile_cons, if_pos hb], rfl, rfl⟩, (by repeat (first | exact trivial | refine ⟨rfl, ?_⟩)), Gh.rfl_⟩
    | false =>
      refine Wp.seq ?_
      refine Wp.seq ?_
      refine Wp.region ?_
      refine WpL.step (Stp.rd (Rdo.move rfl) rfl ?_)
      refine WpL.step (Stp.rd (Rdo.lenVs rfl) rfl ?_)
      refine WpL.step (Stp.rd (Rdo.gti rfl rfl) rfl ?_)
      refine WpL.nil ?_
      refine Thn.n ?_
      refine Wp.condK rfl (by first | rfl | assumption | (simp only [decide_eq_true_eq, decide_eq_false_iff_not, Bool.not_eq_true', Bool.not_eq_false', List.length_cons, List.length_nil]; first | assumption | omega) | (simp <;> done) | (simp <;> omega)) ?_
      refine Wp.skip ?_
      refine Thn.n ?_
      refine Wp.block ?_
      refine Wp.seq ?_
      refine Wp.seq ?_
      refine Wp.region ?_
      refine WpL.step (Stp.rd (Rdo.move rfl) rfl ?_)
      refine WpL.step (Stp.rd (Rdo.move rfl) rfl ?_)
      refine WpL.step (Stp.rd (Rdo.indexVs rfl rfl (by assumption)) rfl ?_)
      refine WpL.step (Stp.call (contains_ok _ _ _ _) (by kernel_rfl) rfl (by repeat (first | exact Tk.nil | apply Tk.cons (by repeat (first | exact Pk.here | apply Pk.next)))) rfl ?_)
      rintro _ _ ⟨rfl, rfl⟩
      refine WpL.lst (by simp only [List.cons_append, List.nil_append]; exact rfl) ?_
      refine WpL.step (Stp.rd (Rdo.not rfl) rfl ?_)
      refine WpL.nil ?_
      refine Thn.n ?_
      refine Wp.condK rfl (by first | rfl | assumption | (simp only [decide_eq_true_eq, decide_eq_false_iff_not, Bool.not_eq_true', Bool.not_eq_false', List.length_cons, List.length_nil]; first | assumption | omega) | (simp <;> done) | (simp <;> omega)) ?_
      refine Wp.exit ?_
      refine Thn.x ?_
      refine Blk.other rfl ?_
      refine Thn.x ?_
      refine Blk.here ?_
      refine Thn.n ?_
      refine Wp.seq ?_
      refine Wp.region ?_
      refine WpL.step (Stp.rd (Rdo.move rfl) rfl ?_)
      refine WpL.step (Stp.rd (Rdo.assign rfl) rfl ?_)
      refine WpL.nil ?_
      refine Thn.n ?_
      refine Wp.ret ?_
      refine Ret.now (ResV.tmp rfl ResV.nil) (Gh.tk (by repeat (first | exact Tk.nil | apply Tk.cons (by repeat (first | exact Pk.here | apply Pk.next))))) ⟨(by first | rfl | (simp [packed] <;> done) | (simp_all [packed] <;> done)), rfl⟩
      all_goals exact Ret.now (ResV.tmp rfl ResV.nil) Gh.rfl_ ⟨by simp only [packed]; rw [← hd, List.dropWhile_cons, hb]; rfl, rfl⟩

theorem trimRight_ok (ab : Nat) (ta : TypeId) (p : Nat → Bool) (s : List UInt8) (hs : s.length ≤ 1099511627776) : Trip Tryd.prog 71 [vs s, vp ab 0] [cel ab ta (setC p)]
    (fun r l => r = vs (s.reverse.dropWhile fun b => p b.toNat).reverse ∧ l = [cel ab ta (setC p)]) := by
  refine Trip.of_body Tryd.func71 rfl Tryd.ntmps71 Tryd.results71 rfl ?_
  refine Wp.seq ?_
  refine Wp.region ?_
  refine WpL.step (Stp.rd (Rdo.assign rfl) rfl ?_)
  refine WpL.nil ?_
  refine Thn.n ?_
  refine Wp.seq ?_
  refine Wp.block ?_
  refine Wp.loopE (fun k e h => ∃ t : List UInt8, t.length = k ∧ t.length ≤ s.length ∧ (t.reverse.dropWhile fun b => p b.toNat) = (s.reverse.dropWhile fun b => p b.toNat) ∧ e = [(0, vs t), (1, vp ab 0)] ∧ h = [cel ab ta (setC p)]) s.length
    (e0 := [(0, vs s), (1, vp ab 0)]) (l0 := [cel ab ta (setC p)]) (by repeat (first | exact trivial | refine ⟨rfl, ?_⟩)) (by repeat (first | exact trivial | refine ⟨rfl, ?_⟩)) Gh.rfl_ ⟨s, rfl, by omega, rfl, rfl, rfl⟩ ?_
  rintro k e h ⟨t, hk, hts, hd, rfl, rfl⟩
  rcases List.eq_nil_or_concat t with rfl | ⟨t, b, rfl⟩
  · refine Wp.seq ?_
    refine Wp.seq ?_
    refine Wp.region ?_
    refine WpL.step (Stp.rd (Rdo.move rfl) rfl ?_)
    refine WpL.step (Stp.rd (Rdo.lenVs rfl) rfl ?_)
    refine WpL.step (Stp.rd (Rdo.gti rfl rfl) rfl ?_)
    refine WpL.nil ?_
    refine Thn.n ?_
    refine Wp.condF rfl ?_
    refine Wp.exit ?_
    refine Thn.x ?_
    refine Thn.x ?_
    refine Blk.here ?_
    refine Thn.n ?_
    refine Wp.seq ?_
    refine Wp.region ?_
    refine WpL.step (Stp.rd (Rdo.move rfl) rfl ?_)
    refine WpL.step (Stp.rd (Rdo.assign rfl) rfl ?_)
    refine WpL.nil ?_
    refine Thn.n ?_
    refine Wp.ret ?_
    refine Ret.now (ResV.tmp rfl ResV.nil) (Gh.tk (by repeat (first | exact Tk.nil | apply Tk.cons (by repeat (first | exact Pk.here | apply Pk.next))))) ⟨(by first | rfl | (simp [packed] <;> done) | (simp_all [packed] <;> done)), rfl⟩
    all_goals exact Ret.now (ResV.tmp rfl ResV.nil) Gh.rfl_ ⟨by simp only [packed]; rw [← hd]; rfl, rfl⟩
  · have h1 : (t.concat b)[t.length]? = some b := by simp
    have hl : (t.concat b).length = t.length + 1 := by simp
    have h2 : ((t.concat b).length : Int) - 1 = (t.length : Int) := by omega
    rw [hl] at hk hts
    rw [List.concat_eq_append, List.reverse_append] at hd
    have h3 : ([b].reverse ++ t.reverse) = b :: t.reverse := rfl
    rw [h3, List.dropWhile_cons] at hd
    cases hb : p b.toNat with
    | true =>
      refine Wp.seq ?_
      refine Wp.seq ?_
      refine Wp.region ?_
      refine WpL.step (Stp.rd (Rdo.move rfl) rfl ?_)
      refine WpL.step (Stp.rd (Rdo.lenVs rfl) rfl ?_)
      refine WpL.step (Stp.rd (Rdo.gti rfl rfl) rfl ?_)
      refine WpL.nil ?_
      refine Thn.n ?_
      refine Wp.condK rfl (by first | rfl | assumption | (simp only [decide_eq_true_eq, decide_eq_false_iff_not, Bool.not_eq_true', Bool.not_eq_false', List.length_cons, List.length_nil]; first | assumption | omega) | (simp <;> done) | (simp <;> omega)) ?_
      refine Wp.skip ?_
      refine Thn.n ?_
      refine Wp.block ?_
      refine Wp.seq ?_
      refine Wp.seq ?_
      refine Wp.region ?_
      refine WpL.step (Stp.rd (Rdo.move rfl) rfl ?_)
      refine WpL.step (Stp.rd (Rdo.move rfl) rfl ?_)
      refine WpL.step (Stp.rd (Rdo.move rfl) rfl ?_)
      refine WpL.step (Stp.rd (Rdo.lenVs rfl) rfl ?_)
      refine WpL.step (Stp.rd (Rdo.subE rfl rfl (by assumption) (by omega)) rfl ?_)
      refine WpL.step (Stp.rd (Rdo.indexVs rfl rfl (by assumption)) rfl ?_)
      refine WpL.step (Stp.call (contains_ok _ _ _ _) (by kernel_rfl) rfl (by repeat (first | exact Tk.nil | apply Tk.cons (by repeat (first | exact Pk.here | apply Pk.next)))) rfl ?_)
      rintro _ _ ⟨rfl, rfl⟩
      refine WpL.lst (by simp only [List.cons_append, List.nil_append]; exact rfl) ?_
      refine WpL.step (Stp.rd (Rdo.not rfl) rfl ?_)
      refine WpL.nil ?_
      refine Thn.n ?_
      refine Wp.condL rfl (by first | rfl | assumption | (simp only [decide_eq_true_eq, decide_eq_false_iff_not, Bool.not_eq_true', Bool.not_eq_false', List.length_cons, List.length_nil]; first | assumption | omega) | (simp <;> done) | (simp <;> omega)) ?_
      refine Wp.skip ?_
      refine Thn.n ?_
      refine Wp.region ?_
      refine WpL.step (Stp.rd (Rdo.move rfl) rfl ?_)
      refine WpL.step (Stp.rd (Rdo.move rfl) rfl ?_)
      refine WpL.step (Stp.rd (Rdo.lenVs rfl) rfl ?_)
      refine WpL.step (Stp.rd (Rdo.subE rfl rfl (by assumption) (by omega)) rfl ?_)
      refine WpL.step (Stp.rd (Rdo.strTo rfl rfl (by first | omega | (simp <;> omega))) rfl ?_)
      refine WpL.step (Stp.rd (Rdo.assign rfl) rfl ?_)
      refine WpL.nil ?_
      refine Blk.n ?_
      refine Thn.n ?_
      refine ⟨t.length, _, _, by omega, ⟨t, rfl, by omega, ?_, rfl, rfl⟩, ?_, Gh.rfl_⟩
      · rw [← hd, if_pos hb]
      · have e1 : (t.concat b).take t.length = t := by rw [List.concat_eq_append]; exact List.take_left
        rw [e1]
        exact (by repeat (first | exact trivial | refine ⟨rfl, ?_⟩))
    | false =>
      refine Wp.seq ?_
      refine Wp.seq ?_
      refine Wp.region ?_
      refine WpL.step (Stp.rd (Rdo.move rfl) rfl ?_)
      refine WpL.step (Stp.rd (Rdo.lenVs rfl) rfl ?_)
      refine WpL.step (Stp.rd (Rdo.gti rfl rfl) rfl ?_)
      refine WpL.nil ?_
      refine Thn.n ?_
      refine Wp.condK rfl (by first | rfl | assumption | (simp only [decide_eq_true_eq, decide_eq_false_iff_not, Bool.not_eq_true', Bool.not_eq_false', List.length_cons, List.length_nil]; first | assumption | omega) | (simp <;> done) | (simp <;> omega)) ?_
      refine Wp.skip ?_
      refine Thn.n ?_
      refine Wp.block ?_
      refine Wp.seq ?_
      refine Wp.seq ?_
      refine Wp.region ?_
      refine WpL.step (Stp.rd (Rdo.move rfl) rfl ?_)
      refine WpL.step (Stp.rd (Rdo.move rfl) rfl ?_)
      refine WpL.step (Stp.rd (Rdo.move rfl) rfl ?_)
      refine WpL.step (Stp.rd (Rdo.lenVs rfl) rfl ?_)
      refine WpL.step (Stp.rd (Rdo.subE rfl rfl (by assumption) (by omega)) rfl ?_)
      refine WpL.step (Stp.rd (Rdo.indexVs rfl rfl (by assumption)) rfl ?_)
      refine WpL.step (Stp.call (contains_ok _ _ _ _) (by kernel_rfl) rfl (by repeat (first | exact Tk.nil | apply Tk.cons (by repeat (first | exact Pk.here | apply Pk.next)))) rfl ?_)
      rintro _ _ ⟨rfl, rfl⟩
      refine WpL.lst (by simp only [List.cons_append, List.nil_append]; exact rfl) ?_
      refine WpL.step (Stp.rd (Rdo.not rfl) rfl ?_)
      refine WpL.nil ?_
      refine Thn.n ?_
      refine Wp.condK rfl (by first | rfl | assumption | (simp only [decide_eq_true_eq, decide_eq_false_iff_not, Bool.not_eq_true', Bool.not_eq_false', List.length_cons, List.length_nil]; first | assumption | omega) | (simp <;> done) | (simp <;> omega)) ?_
      refine Wp.exit ?_
      refine Thn.x ?_
      refine Blk.other rfl ?_
      refine Thn.x ?_
      refine Blk.here ?_
      refine Thn.n ?_
      refine Wp.seq ?_
      refine Wp.region ?_
      refine WpL.step (Stp.rd (Rdo.move rfl) rfl ?_)
      refine WpL.step (Stp.rd (Rdo.assign rfl) rfl ?_)
      refine WpL.nil ?_
      refine Thn.n ?_
      refine Wp.ret ?_
      all_goals exact Ret.now (ResV.tmp rfl ResV.nil) Gh.rfl_ ⟨by simp only [packed]; rw [← hd, hb]; simp, rfl⟩

/-- The bytes that are in a set, as makeASCIISet makes it. -/
def inSet (cs : List UInt8) : Nat → Bool := fun i => cs.any fun c => decide (i = c.toNat)

theorem inSet_nil : setC (inSet []) = List.replicate 256 (vb false) := by
  show (List.range 256).map (fun _ => vb false) = _
  rw [List.map_const', List.length_range]
theorem inSet_snoc (cs : List UInt8) (c : UInt8) : lput (setC (inSet cs)) c.toNat [vb true] = setC (inSet (cs ++ [c])) := by
  rw [setC_put]
  congr 1
  funext i
  simp [inSet]

theorem makeSet_ok (cs : List UInt8) (hcs : ∀ c ∈ cs, c.toNat < 128) (hl : cs.length ≤ 1000) : Trip Tryd.prog 69 [vs cs] [] (fun r l => r = .tuple #[.agg (setC (inSet cs)).toArray, vb true] ∧ l = []) := by
  refine Trip.of_body Tryd.func69 rfl Tryd.ntmps69 Tryd.results69 rfl ?_
  refine Wp.seq ?_
  refine Wp.region ?_
  (refine WpL.step (Stp.alloc rfl ?_); intro nb2)
  refine WpL.step (Stp.rd (Rdo.assign rfl) rfl ?_)
  refine WpL.nil ?_
  refine Thn.n ?_
  refine Wp.seq ?_
  refine Wp.seq ?_
  refine Wp.region ?_
  refine WpL.step (Stp.rd (Rdo.assign rfl) rfl ?_)
  refine WpL.nil ?_
  refine Thn.n ?_
  refine Wp.block ?_
  rw [← inSet_nil]
  refine Wp.loopE (fun k e h => ∃ i : Nat, i + k = cs.length ∧ e = [(0, vs cs), (2, vp nb2 0), (4, vi i)] ∧ h = [cel nb2 130 (setC (inSet (cs.take i)))]) cs.length
    (e0 := [(0, vs cs), (2, vp nb2 0), (4, vi (0 : Nat))]) (l0 := [cel nb2 130 (setC (inSet []))]) (by repeat (first | exact trivial | refine ⟨rfl, ?_⟩)) (by repeat (first | exact trivial | refine ⟨rfl, ?_⟩)) Gh.rfl_ ⟨0, by omega, rfl, rfl⟩ ?_
  rintro k e h ⟨i, hik, rfl, rfl⟩
  by_cases hi : i < cs.length
  · have h1 : cs[i]? = some cs[i] := List.getElem?_eq_getElem hi
    have hc := hcs cs[i] (List.getElem_mem hi)
    have hlen := setC_len (inSet (cs.take i))
    refine Wp.seq ?_
    refine Wp.seq ?_
    refine Wp.region ?_
    refine WpL.step (Stp.rd (Rdo.move rfl) rfl ?_)
    refine WpL.step (Stp.rd (Rdo.move rfl) rfl ?_)
    refine WpL.step (Stp.rd (Rdo.lenVs rfl) rfl ?_)
    refine WpL.step (Stp.rd (Rdo.lti rfl rfl) rfl ?_)
    refine WpL.nil ?_
    refine Thn.n ?_
    refine Wp.condK rfl (by first | rfl | assumption | (simp only [decide_eq_true_eq, decide_eq_false_iff_not, Bool.not_eq_true', Bool.not_eq_false', List.length_cons, List.length_nil]; first | assumption | omega) | (simp <;> done) | (simp <;> omega)) ?_
    refine Wp.skip ?_
    refine Thn.n ?_
    refine Wp.seq ?_
    refine Wp.block ?_
    refine Wp.seq ?_
    refine Wp.region ?_
    refine WpL.step (Stp.rd (Rdo.move rfl) rfl ?_)
    refine WpL.step (Stp.rd (Rdo.move rfl) rfl ?_)
    refine WpL.step (Stp.rd (Rdo.indexVs rfl rfl (by assumption)) rfl ?_)
    refine WpL.step (Stp.rd (Rdo.assign rfl) rfl ?_)
    refine WpL.nil ?_
    refine Thn.n ?_
    refine Wp.seq ?_
    refine Wp.seq ?_
    refine Wp.region ?_
    refine WpL.step (Stp.rd (Rdo.move rfl) rfl ?_)
    refine WpL.step (Stp.rd (Rdo.gei rfl rfl) rfl ?_)
    refine WpL.nil ?_
    refine Thn.n ?_
    refine Wp.condL rfl (by first | rfl | assumption | (simp only [decide_eq_true_eq, decide_eq_false_iff_not, Bool.not_eq_true', Bool.not_eq_false', List.length_cons, List.length_nil]; first | assumption | omega) | (simp <;> done) | (simp <;> omega)) ?_
    refine Wp.skip ?_
    refine Thn.n ?_
    refine Wp.region ?_
    refine WpL.step (Stp.rd (Rdo.move rfl) rfl ?_)
    refine WpL.step (Stp.rd (Rdo.indexArr rfl rfl (by omega)) rfl ?_)
    refine WpL.step (Stp.storeV rfl rfl (VC.b _) rfl (Sts.here (oneCells1 rfl) (by rw [hlen]; simp; omega)) ?_)
    rw [show 0 + cs[i].toNat * 1 = cs[i].toNat by omega, inSet_snoc, ← List.take_succ_eq_append_getElem hi]
    refine WpL.nil ?_
    refine Blk.n ?_
    refine Thn.n ?_
    refine Wp.region ?_
    refine WpL.step (Stp.rd (Rdo.move rfl) rfl ?_)
    refine WpL.step (Stp.rd (Rdo.succ rfl rfl (by omega)) rfl ?_)
    refine WpL.step (Stp.rd (Rdo.assign rfl) rfl ?_)
    refine WpL.nil ?_
    refine Thn.n ?_
    exact ⟨k - 1, _, _, by omega, ⟨i + 1, by omega, rfl, rfl⟩, (by repeat (first | exact trivial | refine ⟨rfl, ?_⟩)), Gh.rfl_⟩
  · have hlen := setC_len (inSet (cs.take i))
    have ho := oneCells_setC (inSet (cs.take i))
    refine Wp.seq ?_
    refine Wp.seq ?_
    refine Wp.region ?_
    refine WpL.step (Stp.rd (Rdo.move rfl) rfl ?_)
    refine WpL.step (Stp.rd (Rdo.move rfl) rfl ?_)
    refine WpL.step (Stp.rd (Rdo.lenVs rfl) rfl ?_)
    refine WpL.step (Stp.rd (Rdo.lti rfl rfl) rfl ?_)
    refine WpL.nil ?_
    refine Thn.n ?_
    refine Wp.condL rfl (by first | rfl | assumption | (simp only [decide_eq_true_eq, decide_eq_false_iff_not, Bool.not_eq_true', Bool.not_eq_false', List.length_cons, List.length_nil]; first | assumption | omega) | (simp <;> done) | (simp <;> omega)) ?_
    refine Wp.exit ?_
    refine Thn.x ?_
    refine Thn.x ?_
    refine Blk.here ?_
    refine Thn.n ?_
    refine Wp.seq ?_
    refine Wp.region ?_
    refine WpL.step (Stp.rd (Rdo.load rfl (by apply Lds.all; (first | rfl | assumption | (simp <;> fail)))) rfl ?_)
    refine WpL.step (Stp.storeV rfl rfl (VC.ag _) (by first | rfl | assumption | (simp <;> done)) (by repeat (first | (apply Sts.all; (focus (first | rfl | assumption | (simp <;> done))); (focus (first | exact oneCells1 rfl | assumption | exact oneCells1 (by assumption) | ((repeat (first | assumption | exact oneCells_nil | exact oneCells_bytesC _ | (apply oneCells_cons; (focus (first | rfl | assumption))) | apply oneCells_append)); done) | (simp [oneCells, Value.oneCell'] <;> done)))) | (apply Sts.lp (by repeat (first | exact LPut.nil _ | apply LPut.here | apply LPut.next)); (focus (first | exact oneCells1 rfl | assumption | exact oneCells1 (by assumption) | ((repeat (first | assumption | exact oneCells_nil | exact oneCells_bytesC _ | (apply oneCells_cons; (focus (first | rfl | assumption))) | apply oneCells_append)); done) | (simp [oneCells, Value.oneCell'] <;> done)))) | (refine Sts.row1 (by first | assumption | omega | (simp <;> omega)) (by first | rfl | assumption)) | (refine Sts.rowP (by assumption) (by first | rfl | assumption | (simp <;> done)) (by rfl) (by (first | exact oneCells1 rfl | assumption | exact oneCells1 (by assumption) | ((repeat (first | assumption | exact oneCells_nil | exact oneCells_bytesC _ | (apply oneCells_cons; (focus (first | rfl | assumption))) | apply oneCells_append)); done) | (simp [oneCells, Value.oneCell'] <;> done)))) | apply Sts.next)) ?_)
    refine WpL.step (Stp.rd (Rdo.assign rfl) rfl ?_)
    refine WpL.nil ?_
    refine Thn.n ?_
    refine Wp.ret ?_
    have hfull : cs.take i = cs := List.take_of_length_le (by omega)
    exact Ret.now (ResV.cell rfl (by apply Lds.all; exact hlen) (ResV.tmp rfl ResV.nil)) (Gh.drop Pk.here) ⟨by rw [hfull]; rfl, rfl⟩

/-- The small letters. -/
def letters : List UInt8 := [97, 98, 99, 100, 101, 102, 103, 104, 105, 106, 107, 108, 109, 110, 111, 112, 113, 114, 115, 116, 117, 118, 119, 120, 121, 122]
def small (b : UInt8) : Bool := decide (97 ≤ b.toNat) && decide (b.toNat ≤ 122)
theorem inSet_letters (b : UInt8) : inSet letters b.toNat = small b := by
  have h : ∀ n : Nat, n < 256 → inSet letters n = (decide (97 ≤ n) && decide (n ≤ 122)) := by decide +kernel
  exact h b.toNat b.toNat_lt

theorem dropWhile_nil {p : UInt8 → Bool} : ∀ {l : List UInt8}, l.dropWhile p = [] ↔ ∀ b ∈ l, p b = true
  | [] => by simp
  | a :: l => by
    rw [List.dropWhile_cons]
    by_cases ha : p a = true
    · simp [ha, dropWhile_nil (l := l)]
    · simp [ha]
theorem mem_dropWhile {p : UInt8 → Bool} {l : List UInt8} {b : UInt8} (hb : b ∈ l) (hp : p b = false) : b ∈ l.dropWhile p := by
  induction l with
  | nil => simp at hb
  | cons a l ih =>
    rw [List.dropWhile_cons]
    by_cases ha : p a = true
    · rw [if_pos ha]
      rcases List.mem_cons.1 hb with rfl | hb
      · rw [ha] at hp; cases hp
      · exact ih hb
    · rw [if_neg ha]; exact hb
theorem trimmed_nil (s : List UInt8) : ((s.reverse.dropWhile small).reverse.dropWhile small = []) ↔ ∀ b ∈ s, small b = true := by
  rw [dropWhile_nil]
  constructor
  · intro h b hb
    cases hs : small b with
    | true => rfl
    | false =>
      have h1 : b ∈ (s.reverse.dropWhile small).reverse := List.mem_reverse.2 (mem_dropWhile (List.mem_reverse.2 hb) hs)
      rw [h b h1] at hs
      cases hs
  · intro h b hb
    exact h b (List.mem_reverse.1 ((List.dropWhile_sublist small).subset (List.mem_reverse.1 hb)))

theorem trim_ok (s : List UInt8) (hs : s.length ≤ 1099511627776) : Trip Tryd.prog 47 [vs s, vs letters] [] (fun r l => ∃ t : List UInt8, r = vs t ∧ (t = [] ↔ ∀ b ∈ s, small b = true) ∧ l = []) := by
  by_cases h0 : s = []
  · subst h0
    refine Trip.of_body Tryd.func47 rfl Tryd.ntmps47 Tryd.results47 rfl ?_
    refine Wp.seq ?_
    refine Wp.region ?_
    refine WpL.step (Stp.rd (Rdo.assign rfl) rfl ?_)
    refine WpL.nil ?_
    refine Thn.n ?_
    refine Wp.seq ?_
    refine Wp.seq ?_
    refine Wp.region ?_
    refine WpL.step (Stp.rd (Rdo.move rfl) rfl ?_)
    refine WpL.step (Stp.rd (Rdo.eqVs rfl rfl) rfl ?_)
    refine WpL.step (Stp.rd (Rdo.move rfl) rfl ?_)
    refine WpL.pass rfl rfl rfl rfl ?_
    refine WpL.pass rfl rfl rfl rfl ?_
    refine WpL.step (Stp.rd (Rdo.pick_t rfl rfl) rfl ?_)
    refine WpL.nil ?_
    refine Thn.n ?_
    refine Wp.condT rfl ?_
    refine Wp.seq ?_
    refine Wp.region ?_
    refine WpL.step (Stp.rd (Rdo.move rfl) rfl ?_)
    refine WpL.step (Stp.rd (Rdo.assign rfl) rfl ?_)
    refine WpL.nil ?_
    refine Thn.n ?_
    refine Wp.ret ?_
    refine Thn.r ?_
    refine Ret.now (ResV.tmp rfl ResV.nil) (Gh.tk (by repeat (first | exact Tk.nil | apply Tk.cons (by repeat (first | exact Pk.here | apply Pk.next))))) ⟨_, ⟨rfl, ⟨(by first | assumption | omega | (simp <;> done) | (simp <;> omega)), rfl⟩⟩⟩
  · have hl : letters.length = 26 := rfl
    have hn : letters ≠ [] := by decide
    have hc : ∀ c ∈ letters, c.toNat < 128 := by decide
    have hlen := setC_len (inSet letters)
    have ho := oneCells_setC (inSet letters)
    have hz : (List.replicate 256 (Value.bool false)).length = 256 := by simp
    have hr : (s.reverse.dropWhile fun b => inSet letters b.toNat).reverse.length ≤ 1099511627776 := by
      have := (List.dropWhile_sublist (fun b => inSet letters b.toNat) (l := s.reverse)).length_le
      simp at this ⊢
      omega
    refine Trip.of_body Tryd.func47 rfl Tryd.ntmps47 Tryd.results47 rfl ?_
    refine Wp.seq ?_
    refine Wp.region ?_
    refine WpL.step (Stp.rd (Rdo.assign rfl) rfl ?_)
    refine WpL.nil ?_
    refine Thn.n ?_
    refine Wp.seq ?_
    refine Wp.seq ?_
    refine Wp.region ?_
    refine WpL.step (Stp.rd (Rdo.move rfl) rfl ?_)
    refine WpL.step (Stp.rd (Rdo.eqVs rfl rfl) rfl ?_)
    refine WpL.step (Stp.rd (Rdo.move rfl) rfl ?_)
    refine WpL.gF rfl rfl (by first | rfl | assumption | (simp only [decide_eq_true_eq, decide_eq_false_iff_not, Bool.not_eq_true', Bool.not_eq_false', List.length_cons, List.length_nil]; first | assumption | omega) | (simp <;> done) | (simp <;> omega)) ?_
    refine WpL.want rfl rfl rfl (Stp.rd (Rdo.move rfl) rfl ?_)
    refine WpL.want rfl rfl rfl (Stp.rd (Rdo.eqVs rfl rfl) rfl ?_)
    refine WpL.step (Stp.rd (Rdo.pick_f rfl rfl) rfl ?_)
    refine WpL.nil ?_
    refine Thn.n ?_
    refine Wp.condF rfl ?_
    refine Wp.skip ?_
    refine Thn.n ?_
    refine Wp.seq ?_
    refine Wp.seq ?_
    refine Wp.region ?_
    refine WpL.step (Stp.rd (Rdo.move rfl) rfl ?_)
    refine WpL.step (Stp.rd (Rdo.lenVs rfl) rfl ?_)
    refine WpL.step (Stp.rd (Rdo.eqi rfl rfl) rfl ?_)
    refine WpL.step (Stp.rd (Rdo.move rfl) rfl ?_)
    refine WpL.pass rfl rfl rfl rfl ?_
    refine WpL.pass rfl rfl rfl rfl ?_
    refine WpL.pass rfl rfl rfl rfl ?_
    refine WpL.step (Stp.rd (Rdo.pick_f rfl rfl) rfl ?_)
    refine WpL.nil ?_
    refine Thn.n ?_
    refine Wp.condF rfl ?_
    refine Wp.skip ?_
    refine Thn.n ?_
    refine Wp.seq ?_
    refine Wp.seq ?_
    refine Wp.region ?_
    refine WpL.step (Stp.rd (Rdo.move rfl) rfl ?_)
    refine WpL.step (Stp.call (makeSet_ok _ (by first | rfl | assumption | omega | (simp <;> done) | (simp <;> omega) | (simp [IntKind.bits]; omega) | simp_all) (by first | rfl | assumption | omega | (simp <;> done) | (simp <;> omega) | (simp [IntKind.bits]; omega) | simp_all)) (by kernel_rfl) rfl (by repeat (first | exact Tk.nil | apply Tk.cons (by repeat (first | exact Pk.here | apply Pk.next)))) rfl ?_)
    rintro _ _ ⟨rfl, rfl⟩
    refine WpL.lst (by simp only [List.cons_append, List.nil_append]; exact rfl) ?_
    refine WpL.step (Stp.rd (Rdo.move rfl) rfl ?_)
    refine WpL.step (Stp.rd (Rdo.extract rfl rfl) rfl ?_)
    refine WpL.step (Stp.rd (Rdo.extract rfl rfl) rfl ?_)
    (refine WpL.step (Stp.alloc rfl ?_); intro nb46)
    refine WpL.step (Stp.storeV rfl rfl (VC.ag _) (by first | rfl | assumption | (simp <;> done)) (by repeat (first | (apply Sts.all; (focus (first | rfl | assumption | (simp <;> done))); (focus (first | exact oneCells1 rfl | assumption | exact oneCells1 (by assumption) | ((repeat (first | assumption | exact oneCells_nil | exact oneCells_bytesC _ | (apply oneCells_cons; (focus (first | rfl | assumption))) | apply oneCells_append)); done) | (simp [oneCells, Value.oneCell'] <;> done)))) | (apply Sts.lp (by repeat (first | exact LPut.nil _ | apply LPut.here | apply LPut.next)); (focus (first | exact oneCells1 rfl | assumption | exact oneCells1 (by assumption) | ((repeat (first | assumption | exact oneCells_nil | exact oneCells_bytesC _ | (apply oneCells_cons; (focus (first | rfl | assumption))) | apply oneCells_append)); done) | (simp [oneCells, Value.oneCell'] <;> done)))) | (refine Sts.row1 (by first | assumption | omega | (simp <;> omega)) (by first | rfl | assumption)) | (refine Sts.rowP (by assumption) (by first | rfl | assumption | (simp <;> done)) (by rfl) (by (first | exact oneCells1 rfl | assumption | exact oneCells1 (by assumption) | ((repeat (first | assumption | exact oneCells_nil | exact oneCells_bytesC _ | (apply oneCells_cons; (focus (first | rfl | assumption))) | apply oneCells_append)); done) | (simp [oneCells, Value.oneCell'] <;> done)))) | apply Sts.next)) ?_)
    refine WpL.step (Stp.rd (Rdo.assign rfl) rfl ?_)
    refine WpL.nil ?_
    refine Thn.n ?_
    refine Wp.seq ?_
    refine Wp.region ?_
    refine WpL.step (Stp.rd (Rdo.move rfl) rfl ?_)
    refine WpL.nil ?_
    refine Thn.n ?_
    refine Wp.condT rfl ?_
    refine Wp.seq ?_
    refine Wp.region ?_
    refine WpL.step (Stp.rd (Rdo.move rfl) rfl ?_)
    refine WpL.step (Stp.call (trimRight_ok _ _ _ _ (by first | rfl | assumption | omega | (simp <;> done) | (simp <;> omega) | (simp [IntKind.bits]; omega) | simp_all)) (by kernel_rfl) rfl (by repeat (first | exact Tk.nil | apply Tk.cons (by repeat (first | exact Pk.here | apply Pk.next)))) rfl ?_)
    rintro _ _ ⟨rfl, rfl⟩
    refine WpL.lst (by simp only [List.cons_append, List.nil_append]; exact rfl) ?_
    refine WpL.step (Stp.call (trimLeft_ok _ _ _ _ (by first | rfl | assumption | omega | (simp <;> done) | (simp <;> omega) | (simp [IntKind.bits]; omega) | simp_all)) (by kernel_rfl) rfl (by repeat (first | exact Tk.nil | apply Tk.cons (by repeat (first | exact Pk.here | apply Pk.next)))) rfl ?_)
    rintro _ _ ⟨rfl, rfl⟩
    refine WpL.lst (by simp only [List.cons_append, List.nil_append]; exact rfl) ?_
    refine WpL.step (Stp.rd (Rdo.assign rfl) rfl ?_)
    refine WpL.nil ?_
    refine Thn.n ?_
    refine Wp.ret ?_
    refine Thn.r ?_
    refine Ret.now (ResV.tmp rfl ResV.nil) (Gh.drop Pk.here) ⟨_, rfl, ?_, rfl⟩
    have hp : (fun b : UInt8 => inSet letters b.toNat) = small := funext inSet_letters
    rw [hp]
    exact trimmed_nil s
end Go.Proofs.YtccgdnocldmjeaaDoor
