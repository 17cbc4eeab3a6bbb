/- Sorting of numbers: a few are sorted; an iterator's numbers, collected and sorted. -/
import Derived.Test.YtccgdnocldmjeaaDoorSrt
namespace Go.Proofs.YtccgdnocldmjeaaDoor
open Go
set_option maxHeartbeats 4000000
set_option linter.unusedSimpArgs false
set_option linter.unusedVariables false
set_option maxRecDepth 20000

theorem pdq_ok (xs : List Int) (v : Value) (lim : Int) (hn : xs.length ≤ 12) :
    Trip Tryd.prog 59 [v, vi 0, vi xs.length, vi lim] [rowA 3 1 v xs.length (xs.map vi)]
      (fun r l => r = .tuple #[] ∧ ∃ ys : List Int, ys.Perm xs ∧ ys.Pairwise (· ≤ ·) ∧ l = [rowA 3 1 v xs.length (ys.map vi)]) := by
  refine Trip.of_body Tryd.func59 rfl Tryd.ntmps59 Tryd.results59 rfl ?_
  refine Wp.seq ?_
  refine Wp.region ?_
  refine WpL.step (Stp.rd (Rdo.assign rfl) rfl ?_)
  refine WpL.nil ?_
  refine Thn.n ?_
  refine Wp.seq ?_
  refine Wp.region ?_
  refine WpL.step (Stp.rd (Rdo.assign rfl) rfl ?_)
  refine WpL.nil ?_
  refine Thn.n ?_
  refine Wp.block ?_
  refine Wp.loopOnce ?_
  refine Wp.block ?_
  refine Wp.seq ?_
  refine Wp.region ?_
  refine WpL.step (Stp.rd (Rdo.move rfl) rfl ?_)
  refine WpL.step (Stp.rd (Rdo.move rfl) rfl ?_)
  refine WpL.step (Stp.rd (Rdo.sub64 rfl rfl (by omega)) rfl ?_)
  refine WpL.step (Stp.rd (Rdo.assign rfl) rfl ?_)
  refine WpL.nil ?_
  refine Thn.n ?_
  refine Wp.seq ?_
  refine Wp.seq ?_
  refine Wp.region ?_
  refine WpL.step (Stp.rd (Rdo.move rfl) rfl ?_)
  refine WpL.step (Stp.rd (Rdo.lei rfl rfl) rfl ?_)
  refine WpL.nil ?_
  refine Thn.n ?_
  refine Wp.condK rfl (by first | rfl | assumption | (simp only [decide_eq_true_eq, decide_eq_false_iff_not, Bool.not_eq_true', Bool.not_eq_false', List.length_cons, List.length_nil]; first | assumption | omega) | (simp <;> done) | (simp <;> omega)) ?_
  refine Wp.seq ?_
  refine Wp.region ?_
  refine WpL.step (Stp.rd (Rdo.move rfl) rfl ?_)
  refine WpL.step (Stp.rd (Rdo.move rfl) rfl ?_)
  refine WpL.step (Stp.rd (Rdo.move rfl) rfl ?_)
  refine WpL.step (Stp.call (insertion_ok _ _ (by first | rfl | assumption | omega | (simp <;> done) | (simp <;> omega) | (simp [IntKind.bits]; omega) | simp_all)) (by kernel_rfl) rfl (by repeat (first | exact Tk.nil | apply Tk.cons (by repeat (first | exact Pk.here | apply Pk.next)))) rfl ?_)
  rintro _ _ ⟨rfl, ⟨v23_0, ⟨hv23_1, ⟨hv23_2, rfl⟩⟩⟩⟩
  refine WpL.lst (by simp only [List.cons_append, List.nil_append]; exact rfl) ?_
  refine WpL.nil ?_
  refine Thn.n ?_
  refine Wp.ret ?_
  refine Thn.r ?_
  refine Blk.r ?_
  refine Thn.r ?_
  refine Blk.r ?_
  refine Ret.now ResV.nil (Gh.tk (by repeat (first | exact Tk.nil | apply Tk.cons (by repeat (first | exact Pk.here | apply Pk.next))))) ⟨rfl, ⟨_, ⟨(by first | assumption | omega | (simp <;> done) | (simp <;> omega)), ⟨(by first | assumption | omega | (simp <;> done) | (simp <;> omega)), rfl⟩⟩⟩⟩

theorem sort_ok (xs : List Int) (v : Value) (hn : xs.length ≤ 12) :
    Trip Tryd.prog 42 [v] [rowA 3 1 v xs.length (xs.map vi)]
      (fun r l => r = .tuple #[] ∧ ∃ ys : List Int, ys.Perm xs ∧ ys.Pairwise (· ≤ ·) ∧ l = [rowA 3 1 v xs.length (ys.map vi)]) := by
  refine Trip.get Pk.here (fun r => rowA_shape) ?_
  rintro ⟨a0, c0, rfl⟩
  refine Trip.of_body Tryd.func42 rfl Tryd.ntmps42 Tryd.results42 rfl ?_
  refine Wp.seq ?_
  refine Wp.region ?_
  refine WpL.step (Stp.rd (Rdo.move rfl) rfl ?_)
  refine WpL.step (Stp.rd (Rdo.lenSlice rfl) rfl ?_)
  refine WpL.step (Stp.rd (Rdo.assign rfl) rfl ?_)
  refine WpL.nil ?_
  refine Thn.n ?_
  refine Wp.region ?_
  refine WpL.step (Stp.rd (Rdo.move rfl) rfl ?_)
  refine WpL.step (Stp.rd (Rdo.move rfl) rfl ?_)
  refine WpL.step (Stp.rd (Rdo.move rfl) rfl ?_)
  refine WpL.step (Stp.rd (Rdo.convInt rfl) rfl ?_)
  refine WpL.step (Stp.call (bitsLen_ok _ (by first | rfl | assumption | omega | (simp <;> done) | (simp <;> omega) | (simp [IntKind.bits]; omega) | simp_all)) (by kernel_rfl) rfl (by repeat (first | exact Tk.nil | apply Tk.cons (by repeat (first | exact Pk.here | apply Pk.next)))) rfl ?_)
  rintro _ _ ⟨v13_0, ⟨rfl, rfl⟩⟩
  refine WpL.lst (by simp only [List.cons_append, List.nil_append]; exact rfl) ?_
  refine WpL.step (Stp.call (pdq_ok _ _ _ (by first | rfl | assumption | omega | (simp <;> done) | (simp <;> omega) | (simp [IntKind.bits]; omega) | simp_all)) (by kernel_rfl) rfl (by repeat (first | exact Tk.nil | apply Tk.cons (by repeat (first | exact Pk.here | apply Pk.next)))) rfl ?_)
  rintro _ _ ⟨rfl, ⟨v16_0, ⟨hv16_1, ⟨hv16_2, rfl⟩⟩⟩⟩
  refine WpL.lst (by simp only [List.cons_append, List.nil_append]; exact rfl) ?_
  refine WpL.nil ?_
  refine Ret.end_ ResV.nil (Gh.tk (by repeat (first | exact Tk.nil | apply Tk.cons (by repeat (first | exact Pk.here | apply Pk.next))))) ⟨rfl, ⟨_, ⟨(by first | assumption | omega | (simp <;> done) | (simp <;> omega)), ⟨(by first | assumption | omega | (simp <;> done) | (simp <;> omega)), rfl⟩⟩⟩⟩

/-- Numbers that rise, out of numbers. -/
theorem sorted_unique {xs ys : List Int} (h : xs.Perm ys) (hx : xs.Pairwise (· ≤ ·)) (hy : ys.Pairwise (· ≤ ·)) : xs = ys :=
  List.Perm.eq_of_pairwise (fun a b _ _ h1 h2 => Int.le_antisymm h1 h2) hx hy h

theorem appendSeq_ok (gf : FuncId) (cap : List Value) (own : List HP) (S : List Int → Prop) (hS : ∀ xs, S xs → xs.length ≤ 12) (hf : callable Tryd.prog gf = true) (hit : IterOK Tryd.prog gf cap (fun k : Int => [vi k]) [] own S) :
    Trip Tryd.prog 58 [vnil, .func (.func gf) #[] cap.toArray] own
      (fun r l => ∃ xs, S xs ∧ l = rowA 3 1 r xs.length (xs.map vi) :: own) := by
  refine Trip.of_body Tryd.func58 rfl Tryd.ntmps58 Tryd.results58 rfl ?_
  refine Wp.seq ?_
  refine Wp.region ?_
  (refine WpL.step (Stp.boxV rfl (VC.sl _ _ _) rfl ?_); intro nb2)
  refine WpL.step (Stp.rd (Rdo.assign rfl) rfl ?_)
  refine WpL.nil ?_
  refine Thn.n ?_
  refine Wp.seq ?_
  refine Wp.seq ?_
  refine Wp.region ?_
  refine WpL.step (Stp.rd (Rdo.move rfl) rfl ?_)
  refine WpL.nil ?_
  refine Thn.n ?_
  refine Wp.block ?_
  refine Wp.rangeFunc (ps := [7]) rfl hf hit (fun _ => rfl) rfl (fun pre l => ∃ v, l = [cel nb2 41 [v], rowA 3 1 v pre.length (pre.map vi)]) (fun _ _ _ => False)
    (l0 := [cel nb2 41 [vnil], rowA 3 1 vnil 0 []]) (Gh.trans (Gh.nil 3 1) (Gh.perm (List.Perm.swap _ _ _))) ⟨vnil, rfl⟩ (Bor.nil _) ?_ ?_ ?_
  · rintro lp rec pre x rest _ hs ⟨v, rfl⟩ st pe
    have hlen := hS _ hs
    simp at hlen
    refine Wp.region ?_
    refine WpL.step (Stp.rd (Rdo.assign rfl) rfl ?_)
    refine WpL.nil ?_
    refine ⟨rfl, fun st pe => ?_⟩
    refine Wp.block ?_
    refine Wp.region ?_
    refine WpL.step (Stp.rd (Rdo.load rfl (Lds.one rfl)) rfl ?_)
    refine WpL.step (Stp.rd (Rdo.move rfl) rfl ?_)
    (refine WpL.step (Stp.sliceV rfl rfl (VCs.cons (VC.i _ _) (by first | rfl | assumption | (simp <;> done)) VCs.nil) (by simp only [List.cons_append, List.nil_append, List.append_nil]; exact rfl) rfl rfl ?_); intro nb4)
    (refine WpL.step (Stp.appendP rfl rfl (Pk.next (Pk.next Pk.here)) (Src.cel (by first | rfl | (simp <;> done) | (simp <;> omega))) (by first | rfl | (simp <;> done) | (simp <;> omega)) (by first | assumption | exact oneCells1 rfl | exact oneCells1 (by assumption) | exact oneCells_bytesC _ | exact oneCells_votesC _ | (simp [oneCells, Value.oneCell'] <;> done)) (by first | omega | (simp <;> omega)) (by first | omega | (simp <;> omega)) rfl (by first | rfl | (simp <;> done)) ?_); intro na5 nc5)
    refine WpL.step (Stp.storeV rfl rfl (VC.sl _ _ _) rfl (Sts.next (Sts.next (Sts.lp (by repeat (first | exact LPut.nil _ | apply LPut.here | apply LPut.next)) (oneCells1 rfl)))) ?_)
    refine WpL.nil ?_
    refine Blk.n ?_
    exact ⟨_, Gh.tk (Tk.cons (Pk.next (Pk.next Pk.here)) (Tk.cons Pk.here Tk.nil)), _, by rw [List.length_append, List.map_append]; rfl⟩
  · rintro xs _ hs ⟨v, rfl⟩
    refine Blk.n ?_
    refine Thn.n ?_
    refine Wp.seq ?_
    refine Wp.region ?_
    refine WpL.step (Stp.rd (Rdo.load rfl (Lds.one rfl)) rfl ?_)
    refine WpL.step (Stp.rd (Rdo.assign rfl) rfl ?_)
    refine WpL.nil ?_
    refine Thn.n ?_
    refine Wp.ret ?_
    exact Ret.now (ResV.tmp rfl ResV.nil) (Gh.drop Pk.here) ⟨xs, hs, rfl⟩
  · intro j pre l' h
    exact h.elim

theorem collect_ok (gf : FuncId) (cap : List Value) (own : List HP) (S : List Int → Prop) (hS : ∀ xs, S xs → xs.length ≤ 12) (hf : callable Tryd.prog gf = true) (hit : IterOK Tryd.prog gf cap (fun k : Int => [vi k]) [] own S) :
    Trip Tryd.prog 41 [.func (.func gf) #[] cap.toArray] own
      (fun r l => ∃ xs, S xs ∧ l = rowA 3 1 r xs.length (xs.map vi) :: own) := by
  refine Trip.of_body Tryd.func41 rfl Tryd.ntmps41 Tryd.results41 rfl ?_
  refine Wp.seq ?_
  refine Wp.region ?_
  refine WpL.step (Stp.rd (Rdo.assign rfl) rfl ?_)
  refine WpL.nil ?_
  refine Thn.n ?_
  refine Wp.seq ?_
  refine Wp.region ?_
  refine WpL.step (Stp.rd (Rdo.move rfl) rfl ?_)
  refine WpL.step (Stp.call (appendSeq_ok gf cap own S hS hf hit) (by kernel_rfl) rfl Tk.rfl_ rfl ?_)
  rintro r _ ⟨xs, hs, rfl⟩
  refine WpL.lst (List.append_nil _) ?_
  refine WpL.step (Stp.rd (Rdo.assign rfl) rfl ?_)
  refine WpL.nil ?_
  refine Thn.n ?_
  refine Wp.ret ?_
  exact Ret.now (ResV.tmp rfl ResV.nil) Gh.rfl_ ⟨xs, hs, rfl⟩

/-- The numbers of an iterator, sorted: whatever the order in which they come. -/
theorem sorted_ok (gf : FuncId) (cap : List Value) (own : List HP) (ks : List Int) (hks : ks.length ≤ 12) (hsort : ks.Pairwise (· ≤ ·)) (hf : callable Tryd.prog gf = true) (hit : IterOK Tryd.prog gf cap (fun k : Int => [vi k]) [] own (fun xs => xs.Perm ks)) :
    Trip Tryd.prog 28 [.func (.func gf) #[] cap.toArray] own
      (fun r l => l = rowA 3 1 r ks.length (ks.map vi) :: own) := by
  refine Trip.of_body Tryd.func28 rfl Tryd.ntmps28 Tryd.results28 rfl ?_
  refine Wp.seq ?_
  refine Wp.region ?_
  refine WpL.step (Stp.rd (Rdo.assign rfl) rfl ?_)
  refine WpL.nil ?_
  refine Thn.n ?_
  refine Wp.seq ?_
  refine Wp.region ?_
  refine WpL.step (Stp.rd (Rdo.move rfl) rfl ?_)
  refine WpL.step (Stp.call (collect_ok gf cap own _ (fun xs h => by rw [h.length_eq]; exact hks) hf hit) (by kernel_rfl) rfl Tk.rfl_ rfl ?_)
  rintro r _ ⟨xs, hs, rfl⟩
  refine WpL.lst (List.append_nil _) ?_
  refine WpL.step (Stp.rd (Rdo.assign rfl) rfl ?_)
  refine WpL.nil ?_
  refine Thn.n ?_
  refine Wp.seq ?_
  refine Wp.region ?_
  refine WpL.step (Stp.rd (Rdo.move rfl) rfl ?_)
  refine WpL.step (Stp.call (sort_ok xs r (by rw [hs.length_eq]; exact hks)) (by kernel_rfl) rfl (Tk.cons Pk.here Tk.nil) rfl ?_)
  rintro _ _ ⟨rfl, ys, h1, h2, rfl⟩
  have e1 : ys = ks := sorted_unique (h1.trans hs) h2 hsort
  subst e1
  rw [h1.length_eq.symm]
  refine WpL.lst (by simp only [List.cons_append, List.nil_append]; exact rfl) ?_
  refine WpL.nil ?_
  refine Thn.n ?_
  refine Wp.seq ?_
  refine Wp.region ?_
  refine WpL.step (Stp.rd (Rdo.move rfl) rfl ?_)
  refine WpL.step (Stp.rd (Rdo.assign rfl) rfl ?_)
  refine WpL.nil ?_
  refine Thn.n ?_
  refine Wp.ret ?_
  exact Ret.now (ResV.tmp rfl ResV.nil) Gh.rfl_ rfl

theorem complete_ {l m : List Int} (hl : l.Nodup) (hm : m.Nodup) (hs : ∀ y ∈ l, y ∈ m) : ∃ rest, (l ++ rest).Perm m := by
  refine ⟨m.filter (fun y => decide (y ∉ l)), (List.perm_ext_iff_of_nodup ?_ hm).2 fun a => ?_⟩
  · rw [List.nodup_append]
    refine ⟨hl, hm.filter _, fun a ha b hb e => ?_⟩
    have := (List.mem_filter.1 hb).2
    simp only [decide_eq_true_eq] at this
    exact this (e ▸ ha)
  · by_cases ha : a ∈ l
    · simp [ha, hs a ha]
    · simp [ha]
end Go.Proofs.YtccgdnocldmjeaaDoor
