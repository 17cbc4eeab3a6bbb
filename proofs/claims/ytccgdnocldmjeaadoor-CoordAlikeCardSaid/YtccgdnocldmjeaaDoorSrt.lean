/- Sorting of numbers, as the library does it for a few; an iterator's numbers, collected and sorted. -/
import Derived.Test.YtccgdnocldmjeaaDoorK
import Derived.Test.YtccgdnocldmjeaaDoorStr
import Derived.Test.YtccgdnocldmjeaaDoorTy
import Derived.KernelRfl
namespace Go.Proofs.YtccgdnocldmjeaaDoor
open Go
set_option maxHeartbeats 4000000
set_option linter.unusedSimpArgs false
set_option linter.unusedVariables false
set_option maxRecDepth 20000

theorem cmpIsNaN_ok (x : Int) : Trip Tryd.prog 101 [vi x] [] (fun r l => r = vb false ∧ l = []) := by
  refine Trip.of_body Tryd.func101 rfl Tryd.ntmps101 Tryd.results101 rfl ?_
  refine Wp.seq ?_
  refine Wp.region ?_
  refine WpL.step (Stp.rd (Rdo.assign rfl) rfl ?_)
  refine WpL.nil ?_
  refine Thn.n ?_
  refine Wp.seq ?_
  refine Wp.region ?_
  refine WpL.step (Stp.rd (Rdo.move rfl) rfl ?_)
  refine WpL.step (Stp.rd (Rdo.move rfl) rfl ?_)
  refine WpL.step (Stp.rd (Rdo.nei rfl rfl) rfl ?_)
  refine WpL.step (Stp.rd (Rdo.assign rfl) rfl ?_)
  refine WpL.nil ?_
  refine Thn.n ?_
  refine Wp.ret ?_
  refine Ret.now (ResV.tmp rfl ResV.nil) (Gh.tk (by repeat (first | exact Tk.nil | apply Tk.cons (by repeat (first | exact Pk.here | apply Pk.next))))) ⟨(by first | rfl | (simp [packed] <;> done) | (simp_all [packed] <;> done)), rfl⟩
theorem cmpLess_ok (x y : Int) : Trip Tryd.prog 83 [vi x, vi y] [] (fun r l => r = vb (decide (x < y)) ∧ l = []) := by
  refine Trip.of_body Tryd.func83 rfl Tryd.ntmps83 Tryd.results83 rfl ?_
  refine Wp.seq ?_
  refine Wp.region ?_
  refine WpL.step (Stp.rd (Rdo.assign rfl) rfl ?_)
  refine WpL.nil ?_
  refine Thn.n ?_
  refine Wp.seq ?_
  refine Wp.region ?_
  refine WpL.step (Stp.rd (Rdo.move rfl) rfl ?_)
  refine WpL.step (Stp.call (cmpIsNaN_ok _) (by kernel_rfl) rfl (by repeat (first | exact Tk.nil | apply Tk.cons (by repeat (first | exact Pk.here | apply Pk.next)))) rfl ?_)
  rintro _ _ ⟨rfl, rfl⟩
  refine WpL.lst (by simp only [List.cons_append, List.nil_append]; exact rfl) ?_
  refine WpL.step (Stp.rd (Rdo.move rfl) rfl ?_)
  refine WpL.pass rfl rfl rfl rfl ?_
  refine WpL.pass rfl rfl rfl rfl ?_
  refine WpL.pass rfl rfl rfl rfl ?_
  refine WpL.step (Stp.rd (Rdo.pick_f rfl rfl) rfl ?_)
  refine WpL.step (Stp.rd (Rdo.move rfl) rfl ?_)
  refine WpL.want rfl rfl rfl (Stp.rd (Rdo.move rfl) rfl ?_)
  refine WpL.want rfl rfl rfl (Stp.rd (Rdo.move rfl) rfl ?_)
  refine WpL.want rfl rfl rfl (Stp.rd (Rdo.lti rfl rfl) rfl ?_)
  refine WpL.step (Stp.rd (Rdo.pick_f rfl rfl) rfl ?_)
  refine WpL.step (Stp.rd (Rdo.assign rfl) rfl ?_)
  refine WpL.nil ?_
  refine Thn.n ?_
  refine Wp.ret ?_
  refine Ret.now (ResV.tmp rfl ResV.nil) (Gh.tk (by repeat (first | exact Tk.nil | apply Tk.cons (by repeat (first | exact Pk.here | apply Pk.next))))) ⟨rfl, rfl⟩

theorem bitsLen64_ok (x : Nat) (hx : x < 256) : Trip Tryd.prog 87 [.int .u64 x] [] (fun r l => ∃ k, r = vi k ∧ l = []) := by
  refine Trip.of_body Tryd.func87 rfl Tryd.ntmps87 Tryd.results87 rfl ?_
  refine Wp.seq ?_
  refine Wp.region ?_
  refine WpL.step (Stp.rd (Rdo.assign rfl) rfl ?_)
  refine WpL.nil ?_
  refine Thn.n ?_
  refine Wp.seq ?_
  refine Wp.seq ?_
  refine Wp.region ?_
  refine WpL.step (Stp.rd (Rdo.move rfl) rfl ?_)
  refine WpL.step (Stp.rd (Rdo.gei rfl rfl) rfl ?_)
  refine WpL.nil ?_
  refine Thn.n ?_
  refine Wp.condL rfl (by first | rfl | assumption | (simp only [decide_eq_true_eq, decide_eq_false_iff_not, Bool.not_eq_true', Bool.not_eq_false', List.length_cons, List.length_nil]; first | assumption | omega) | (simp <;> done) | (simp <;> omega)) ?_
  refine Wp.skip ?_
  refine Thn.n ?_
  refine Wp.seq ?_
  refine Wp.seq ?_
  refine Wp.region ?_
  refine WpL.step (Stp.rd (Rdo.move rfl) rfl ?_)
  refine WpL.step (Stp.rd (Rdo.gei rfl rfl) rfl ?_)
  refine WpL.nil ?_
  refine Thn.n ?_
  refine Wp.condL rfl (by first | rfl | assumption | (simp only [decide_eq_true_eq, decide_eq_false_iff_not, Bool.not_eq_true', Bool.not_eq_false', List.length_cons, List.length_nil]; first | assumption | omega) | (simp <;> done) | (simp <;> omega)) ?_
  refine Wp.skip ?_
  refine Thn.n ?_
  refine Wp.seq ?_
  refine Wp.seq ?_
  refine Wp.region ?_
  refine WpL.step (Stp.rd (Rdo.move rfl) rfl ?_)
  refine WpL.step (Stp.rd (Rdo.gei rfl rfl) rfl ?_)
  refine WpL.nil ?_
  refine Thn.n ?_
  refine Wp.condL rfl (by first | rfl | assumption | (simp only [decide_eq_true_eq, decide_eq_false_iff_not, Bool.not_eq_true', Bool.not_eq_false', List.length_cons, List.length_nil]; first | assumption | omega) | (simp <;> done) | (simp <;> omega)) ?_
  refine Wp.skip ?_
  refine Thn.n ?_
  refine Wp.seq ?_
  refine Wp.region ?_
  refine WpL.step (Stp.rd (Rdo.move rfl) rfl ?_)
  refine WpL.step (Stp.rd (Rdo.move rfl) rfl ?_)
  refine WpL.step (Stp.rd (Rdo.convInt rfl) rfl ?_)
  have hw : (IntKind.u8.wrap (x : Int)) = (x : Int) := wrap_in (by simp [IntKind.min, IntKind.signed]) (by simp [IntKind.max, IntKind.signed, IntKind.bits]; omega)
  rw [hw]
  refine WpL.step (Stp.rd (Rdo.indexStr rfl rfl (getElem?_pos _ _ ?_)) rfl ?_)
  · exact hx
  refine WpL.step (Stp.rd (Rdo.convInt rfl) rfl ?_)
  refine WpL.step (Stp.rd (Rdo.add rfl rfl) rfl ?_)
  refine WpL.step (Stp.rd (Rdo.assign rfl) rfl ?_)
  refine WpL.nil ?_
  refine Thn.n ?_
  refine Wp.ret ?_
  refine Ret.now (ResV.tmp rfl ResV.nil) (Gh.tk (by repeat (first | exact Tk.nil | apply Tk.cons (by repeat (first | exact Pk.here | apply Pk.next))))) ⟨_, ⟨rfl, rfl⟩⟩

theorem bitsLen_ok (x : Nat) (hx : x < 256) : Trip Tryd.prog 60 [.int .u64 x] [] (fun r l => ∃ k, r = vi k ∧ l = []) := by
  refine Trip.of_body Tryd.func60 rfl Tryd.ntmps60 Tryd.results60 rfl ?_
  refine Wp.seq ?_
  refine Wp.region ?_
  refine WpL.step (Stp.rd (Rdo.assign rfl) rfl ?_)
  refine WpL.nil ?_
  refine Thn.n ?_
  refine Wp.seq ?_
  refine Wp.condF rfl ?_
  refine Wp.skip ?_
  refine Thn.n ?_
  refine Wp.seq ?_
  refine Wp.region ?_
  refine WpL.step (Stp.rd (Rdo.move rfl) rfl ?_)
  refine WpL.step (Stp.call (bitsLen64_ok _ (by first | rfl | assumption | omega | (simp <;> done) | (simp <;> omega) | (simp [IntKind.bits]; omega) | simp_all)) (by kernel_rfl) rfl (by repeat (first | exact Tk.nil | apply Tk.cons (by repeat (first | exact Pk.here | apply Pk.next)))) rfl ?_)
  rintro _ _ ⟨v13_0, ⟨rfl, rfl⟩⟩
  refine WpL.lst (by simp only [List.cons_append, List.nil_append]; exact rfl) ?_
  refine WpL.step (Stp.rd (Rdo.assign rfl) rfl ?_)
  refine WpL.nil ?_
  refine Thn.n ?_
  refine Wp.ret ?_
  refine Ret.now (ResV.tmp rfl ResV.nil) (Gh.tk (by repeat (first | exact Tk.nil | apply Tk.cons (by repeat (first | exact Pk.here | apply Pk.next))))) ⟨_, ⟨rfl, rfl⟩⟩

/-! ### Insertion sort -/

theorem map_at {α β : Type} (f : α → β) (A : List α) (x : α) (B : List α) : ((A ++ x :: B).map f)[A.length]? = some (f x) := by simp

theorem insertion_ok (xs : List Int) (v : Value) (hn : xs.length ≤ 1099511627776) :
    Trip Tryd.prog 77 [v, vi 0, vi xs.length] [rowA 3 1 v xs.length (xs.map vi)]
      (fun r l => r = .tuple #[] ∧ ∃ ys : List Int, ys.Perm xs ∧ ys.Pairwise (· ≤ ·) ∧ l = [rowA 3 1 v xs.length (ys.map vi)]) := by
  generalize hN : xs.length = N
  rw [hN] at hn
  refine Trip.of_body Tryd.func77 rfl Tryd.ntmps77 Tryd.results77 rfl ?_
  refine Wp.seq ?_
  refine Wp.region ?_
  refine WpL.step (Stp.rd (Rdo.move rfl) rfl ?_)
  refine WpL.step (Stp.rd (Rdo.add64 rfl rfl (by first | omega | (dsimp only; omega))) rfl ?_)
  refine WpL.step (Stp.rd (Rdo.assign rfl) rfl ?_)
  refine WpL.nil ?_
  refine Thn.n ?_
  refine Wp.block ?_
  refine Wp.loopE (fun k e h => ∃ (i : Nat) (cur : List Int), 1 ≤ i ∧ (i + k = N ∨ (k = 0 ∧ N ≤ i)) ∧ cur.Perm xs ∧ (cur.take i).Pairwise (· ≤ ·) ∧ e = [(0, v), (1, vi 0), (2, vi N), (6, vi i)] ∧ h = [rowA 3 1 v N (cur.map vi)]) (N - 1)
    (e0 := [(0, v), (1, vi 0), (2, vi N), (6, vi (1 : Nat))]) (l0 := [rowA 3 1 v N (xs.map vi)]) (by repeat (first | exact trivial | refine ⟨rfl, ?_⟩)) (by repeat (first | exact trivial | refine ⟨rfl, ?_⟩)) (Gh.tk (by repeat (first | exact Tk.nil | apply Tk.cons (by repeat (first | exact Pk.here | apply Pk.next))))) ⟨1, xs, by omega, by omega, List.Perm.refl _, by cases xs <;> simp, rfl, rfl⟩ ?_
  rintro k e h ⟨i, cur, hi1, hik, hperm, hsort, rfl, rfl⟩
  have hcl : cur.length = N := by rw [hperm.length_eq, hN]
  by_cases hi : i < N
  · refine Wp.get Pk.here (fun r => rowA_at i hi) ?_
    rintro ⟨b, o, cap, rfl⟩
    refine Wp.seq ?_
    refine Wp.seq ?_
    refine Wp.region ?_
    refine WpL.step (Stp.rd (Rdo.move rfl) rfl ?_)
    refine WpL.step (Stp.rd (Rdo.move rfl) rfl ?_)
    refine WpL.step (Stp.rd (Rdo.lti rfl rfl) rfl ?_)
    refine WpL.nil ?_
    refine Thn.n ?_
    refine Wp.condK rfl (by first | rfl | assumption | (simp only [decide_eq_true_eq, decide_eq_false_iff_not, Bool.not_eq_true', Bool.not_eq_false', List.length_cons, List.length_nil]; first | assumption | omega) | (simp <;> done) | (simp <;> omega)) ?_
    refine Wp.skip ?_
    refine Thn.n ?_
    refine Wp.seq ?_
    refine Wp.block ?_
    refine Wp.seq ?_
    refine Wp.region ?_
    refine WpL.step (Stp.rd (Rdo.move rfl) rfl ?_)
    refine WpL.step (Stp.rd (Rdo.assign rfl) rfl ?_)
    refine WpL.nil ?_
    refine Thn.n ?_
    refine Wp.block ?_
    obtain ⟨x, hx⟩ : ∃ x, cur[i]? = some x := ⟨cur[i]'(by omega), List.getElem?_eq_getElem (by omega)⟩
    refine Wp.loopE (fun j e h => ∃ (A B : List Int), A.length = j ∧ j + B.length = i ∧ cur.take i = A ++ B ∧ (∀ y ∈ B, x < y) ∧
        e = [(0, .slice (some ⟨b, o, none⟩) N cap), (1, vi 0), (2, vi N), (6, vi i), (7, vi j)] ∧ h = [rowA 3 1 (.slice (some ⟨b, o, none⟩) N cap) N ((A ++ x :: (B ++ cur.drop (i + 1))).map vi)]) i
      (e0 := [(0, .slice (some ⟨b, o, none⟩) N cap), (1, vi 0), (2, vi N), (6, vi i), (7, vi i)]) (l0 := [rowA 3 1 (.slice (some ⟨b, o, none⟩) N cap) N (cur.map vi)]) (by repeat (first | exact trivial | refine ⟨rfl, ?_⟩)) (by repeat (first | exact trivial | refine ⟨rfl, ?_⟩)) (Gh.tk (by repeat (first | exact Tk.nil | apply Tk.cons (by repeat (first | exact Pk.here | apply Pk.next)))))
      ⟨cur.take i, [], by simp; omega, by simp, by simp, by simp, rfl, by
        have e1 : cur.take i ++ x :: ([] ++ cur.drop (i + 1)) = cur := by
          obtain ⟨hi', rfl⟩ := List.getElem?_eq_some_iff.1 hx
          rw [List.nil_append, ← List.drop_eq_getElem_cons hi', List.take_append_drop]
        rw [e1]⟩ ?_
    rintro j e h ⟨A, B, hA, hj, htake, hlt, rfl, rfl⟩
    have hperm2 : (A ++ x :: (B ++ cur.drop (i + 1))).Perm xs := by
      refine List.Perm.trans ?_ hperm
      obtain ⟨hi', rfl⟩ := List.getElem?_eq_some_iff.1 hx
      have e1 : cur = cur.take i ++ cur[i] :: cur.drop (i + 1) := by rw [← List.drop_eq_getElem_cons hi', List.take_append_drop]
      conv => rhs; rw [e1, htake]
      simp only [List.append_assoc]
      exact List.Perm.append_left A List.perm_middle.symm
    have hdone : (∀ y ∈ A, y ≤ x) → ((A ++ x :: (B ++ cur.drop (i + 1))).take (i + 1)).Pairwise (· ≤ ·) := by
      intro hAx
      have e1 : (A ++ x :: (B ++ cur.drop (i + 1))).take (i + 1) = A ++ x :: B := by
        rw [show A ++ x :: (B ++ cur.drop (i + 1)) = (A ++ x :: B) ++ cur.drop (i + 1) by simp]
        exact List.take_left' (by simp; omega)
      rw [e1]
      rw [htake, List.pairwise_append] at hsort
      obtain ⟨h1, h2, h3⟩ := hsort
      rw [List.pairwise_append]
      refine ⟨h1, List.pairwise_cons.2 ⟨fun y hy => Int.le_of_lt (hlt y hy), h2⟩, fun a ha b hb => ?_⟩
      rcases List.mem_cons.1 hb with rfl | hb
      · exact hAx a ha
      · exact h3 a ha b hb
    have hlen2 : (A ++ x :: (B ++ cur.drop (i + 1))).length = N := by rw [hperm2.length_eq, hN]
    rcases List.eq_nil_or_concat A with rfl | ⟨A', y, rfl⟩
    · have hj0 : j = 0 := by simpa using hA.symm
      subst hj0
      refine Wp.seq ?_
      refine Wp.seq ?_
      refine Wp.draw (by kernel_rfl) ?_
      refine WpR.take (i := 0) rfl (by kernel_rfl) (by kernel_rfl) (by kernel_rfl) (Rdo.move rfl) rfl ?_
      refine WpR.take (i := 1) rfl (by kernel_rfl) (by kernel_rfl) (by kernel_rfl) (Rdo.move rfl) rfl ?_
      refine WpR.take (i := 2) rfl (by kernel_rfl) (by kernel_rfl) (by kernel_rfl) (Rdo.gti rfl rfl) rfl ?_
      refine WpR.take (i := 3) rfl (by kernel_rfl) (by kernel_rfl) (by kernel_rfl) (Rdo.move rfl) rfl ?_
      refine WpR.pass (i := 4) rfl rfl rfl rfl (by kernel_rfl) (by kernel_rfl) (by kernel_rfl) rfl ?_
      refine WpR.pass (i := 5) rfl rfl rfl rfl (by kernel_rfl) (by kernel_rfl) (by kernel_rfl) rfl ?_
      refine WpR.pass (i := 6) rfl rfl rfl rfl (by kernel_rfl) (by kernel_rfl) (by kernel_rfl) rfl ?_
      refine WpR.pass (i := 7) rfl rfl rfl rfl (by kernel_rfl) (by kernel_rfl) (by kernel_rfl) rfl ?_
      refine WpR.pass (i := 8) rfl rfl rfl rfl (by kernel_rfl) (by kernel_rfl) (by kernel_rfl) rfl ?_
      refine WpR.pass (i := 9) rfl rfl rfl rfl (by kernel_rfl) (by kernel_rfl) (by kernel_rfl) rfl ?_
      refine WpR.pass (i := 10) rfl rfl rfl rfl (by kernel_rfl) (by kernel_rfl) (by kernel_rfl) rfl ?_
      refine WpR.pass (i := 11) rfl rfl rfl rfl (by kernel_rfl) (by kernel_rfl) (by kernel_rfl) rfl ?_
      refine WpR.pass (i := 12) rfl rfl rfl rfl (by kernel_rfl) (by kernel_rfl) (by kernel_rfl) rfl ?_
      refine WpR.pass (i := 13) rfl rfl rfl rfl (by kernel_rfl) (by kernel_rfl) (by kernel_rfl) rfl ?_
      refine WpR.take (i := 14) rfl (by kernel_rfl) (by kernel_rfl) (by kernel_rfl) (Rdo.pick_f rfl rfl) rfl ?_
      refine WpR.done (by kernel_rfl) ?_
      refine Thn.n ?_
      refine Wp.condF rfl ?_
      refine Wp.exit ?_
      refine Thn.x ?_
      refine Thn.x ?_
      refine Blk.here ?_
      refine Blk.n ?_
      refine Thn.n ?_
      refine Wp.region ?_
      refine WpL.step (Stp.rd (Rdo.move rfl) rfl ?_)
      refine WpL.step (Stp.rd (Rdo.succ rfl rfl (by omega)) rfl ?_)
      refine WpL.step (Stp.rd (Rdo.assign rfl) rfl ?_)
      refine WpL.nil ?_
      refine Thn.n ?_
      refine ⟨k - 1, _, _, by omega, ⟨i + 1, _, by omega, by omega, hperm2, hdone (by simp), rfl, rfl⟩, (by repeat (first | exact trivial | refine ⟨rfl, ?_⟩)), Gh.tk (by repeat (first | exact Tk.nil | apply Tk.cons (by repeat (first | exact Pk.here | apply Pk.next))))⟩
    · obtain ⟨j', rfl⟩ : ∃ j', j = j' + 1 := ⟨A'.length, by simpa using hA.symm⟩
      have hA' : A'.length = j' := by simpa using hA
      have l1 : ((A'.concat y ++ x :: (B ++ cur.drop (i + 1))).map vi)[j' + 1]? = some (vi x) := by simp [hA', List.getElem?_append_right]
      have l2 : ((A'.concat y ++ x :: (B ++ cur.drop (i + 1))).map vi)[j']? = some (vi y) := by simp [hA', List.getElem?_append_right]
      have hll : ((A'.concat y ++ x :: (B ++ cur.drop (i + 1))).map vi).length = N := by rw [List.length_map, hlen2]
      by_cases hxy : x < y
      · refine Wp.seq ?_
        refine Wp.seq ?_
        refine Wp.draw (by kernel_rfl) ?_
        refine WpR.take (i := 0) rfl (by kernel_rfl) (by kernel_rfl) (by kernel_rfl) (Rdo.move rfl) rfl ?_
        refine WpR.take (i := 1) rfl (by kernel_rfl) (by kernel_rfl) (by kernel_rfl) (Rdo.move rfl) rfl ?_
        refine WpR.take (i := 2) rfl (by kernel_rfl) (by kernel_rfl) (by kernel_rfl) (Rdo.gti rfl rfl) rfl ?_
        refine WpR.take (i := 3) rfl (by kernel_rfl) (by kernel_rfl) (by kernel_rfl) (Rdo.move rfl) rfl ?_
        refine WpR.tT 19 rfl (by first | rfl | assumption | (simp only [decide_eq_true_eq, decide_eq_false_iff_not, Bool.not_eq_true', Bool.not_eq_false', List.length_cons, List.length_nil]; first | assumption | omega) | (simp <;> done) | (simp <;> omega)) ?_
        refine WpR.want (i := 4) rfl rfl rfl rfl (by kernel_rfl) (by kernel_rfl) (by kernel_rfl) (Rdo.move rfl) rfl ?_
        refine WpR.want (i := 5) rfl rfl rfl rfl (by kernel_rfl) (by kernel_rfl) (by kernel_rfl) (Rdo.move rfl) rfl ?_
        refine WpR.want (i := 6) rfl rfl rfl rfl (by kernel_rfl) (by kernel_rfl) (by kernel_rfl) (Rdo.indexSlice rfl rfl (by omega)) rfl ?_
        refine WpR.want (i := 8) rfl rfl rfl rfl (by kernel_rfl) (by kernel_rfl) (by kernel_rfl) (Rdo.move rfl) rfl ?_
        refine WpR.want (i := 9) rfl rfl rfl rfl (by kernel_rfl) (by kernel_rfl) (by kernel_rfl) (Rdo.move rfl) rfl ?_
        refine WpR.want (i := 10) rfl rfl rfl rfl (by kernel_rfl) (by kernel_rfl) (by kernel_rfl) (Rdo.pred rfl rfl (by omega)) rfl ?_
        refine WpR.want (i := 11) rfl rfl rfl rfl (by kernel_rfl) (by kernel_rfl) (by kernel_rfl) (Rdo.indexSlice rfl rfl (by omega)) rfl ?_
        refine WpR.phaseL (m := 0) #[true, true, true, true, true, true, true, true, true, true, true, true, true, true, true] 4 _ rfl (by kernel_rfl) (Tk.cons Pk.here Tk.nil) ?_
        refine WpA.want (i := 7) rfl rfl rfl rfl rfl (by kernel_rfl) (by kernel_rfl) (by kernel_rfl) (Rdo.load rfl (Lds.row1 (by assumption))) rfl ?_
        refine WpA.want (i := 12) rfl rfl rfl rfl rfl (by kernel_rfl) (by kernel_rfl) (by kernel_rfl) (Rdo.load rfl (Lds.row1 (by assumption))) rfl ?_
        refine WpA.oneG (i := 13) rfl rfl rfl rfl (by kernel_rfl) (Stp.call (cmpLess_ok _ _) (by kernel_rfl) rfl (by repeat (first | exact Tk.nil | apply Tk.cons (by repeat (first | exact Pk.here | apply Pk.next)))) rfl ?_)
        rintro _ _ ⟨rfl, rfl⟩
        refine WpA.lst (by simp only [List.cons_append, List.nil_append]; exact rfl) ?_
        refine WpA.take (i := 14) rfl rfl (by kernel_rfl) (by kernel_rfl) (by kernel_rfl) (Rdo.pick_t rfl rfl) rfl ?_
        refine WpA.stop (by kernel_rfl) ?_
        refine WpR.lst (by simp only [List.cons_append, List.nil_append]; exact rfl) ?_
        refine WpR.done (by kernel_rfl) ?_
        refine Thn.n ?_
        refine Wp.condK rfl (by first | rfl | assumption | (simp only [decide_eq_true_eq, decide_eq_false_iff_not, Bool.not_eq_true', Bool.not_eq_false', List.length_cons, List.length_nil]; first | assumption | omega) | (simp <;> done) | (simp <;> omega)) ?_
        refine Wp.skip ?_
        refine Thn.n ?_
        refine Wp.seq ?_
        refine Wp.block ?_
        refine Wp.draw (by kernel_rfl) ?_
        refine WpR.take (i := 0) rfl (by kernel_rfl) (by kernel_rfl) (by kernel_rfl) (Rdo.move rfl) rfl ?_
        refine WpR.take (i := 1) rfl (by kernel_rfl) (by kernel_rfl) (by kernel_rfl) (Rdo.move rfl) rfl ?_
        refine WpR.take (i := 2) rfl (by kernel_rfl) (by kernel_rfl) (by kernel_rfl) (Rdo.move rfl) rfl ?_
        refine WpR.take (i := 3) rfl (by kernel_rfl) (by kernel_rfl) (by kernel_rfl) (Rdo.move rfl) rfl ?_
        refine WpR.take (i := 4) rfl (by kernel_rfl) (by kernel_rfl) (by kernel_rfl) (Rdo.pred rfl rfl (by omega)) rfl ?_
        refine WpR.take (i := 5) rfl (by kernel_rfl) (by kernel_rfl) (by kernel_rfl) (Rdo.move rfl) rfl ?_
        refine WpR.take (i := 6) rfl (by kernel_rfl) (by kernel_rfl) (by kernel_rfl) (Rdo.move rfl) rfl ?_
        refine WpR.take (i := 7) rfl (by kernel_rfl) (by kernel_rfl) (by kernel_rfl) (Rdo.pred rfl rfl (by omega)) rfl ?_
        refine WpR.take (i := 8) rfl (by kernel_rfl) (by kernel_rfl) (by kernel_rfl) (Rdo.indexSlice rfl rfl (by omega)) rfl ?_
        refine WpR.take (i := 10) rfl (by kernel_rfl) (by kernel_rfl) (by kernel_rfl) (Rdo.move rfl) rfl ?_
        refine WpR.take (i := 11) rfl (by kernel_rfl) (by kernel_rfl) (by kernel_rfl) (Rdo.move rfl) rfl ?_
        refine WpR.take (i := 12) rfl (by kernel_rfl) (by kernel_rfl) (by kernel_rfl) (Rdo.indexSlice rfl rfl (by omega)) rfl ?_
        refine WpR.phaseL (m := 4) #[true, true, true, true, true, true, true, true, true, true, true, true, true, true, false, false, false, false] 2 _ rfl (by kernel_rfl) Tk.rfl_ ?_
        refine WpA.take (i := 9) rfl rfl (by kernel_rfl) (by kernel_rfl) (by kernel_rfl) (Rdo.load rfl (Lds.row1 (by assumption))) rfl ?_
        refine WpA.take (i := 13) rfl rfl (by kernel_rfl) (by kernel_rfl) (by kernel_rfl) (Rdo.load rfl (Lds.row1 (by assumption))) rfl ?_
        refine WpA.stop (by kernel_rfl) ?_
        refine WpR.lst (by simp only [List.cons_append, List.nil_append, List.append_nil]; exact rfl) ?_
        refine WpR.take (i := 14) rfl (by kernel_rfl) (by kernel_rfl) (by kernel_rfl) (Rdo.indexSlice rfl rfl (by omega)) rfl ?_
        refine WpR.one (i := 15) rfl (by kernel_rfl) (Stp.storeV rfl rfl (VC.i _ _) (by first | rfl | assumption | (simp <;> done)) (by repeat (first | (apply Sts.all; (focus (first | rfl | assumption | (simp <;> done))); (focus (first | exact oneCells1 rfl | assumption | exact oneCells1 (by assumption) | ((repeat (first | assumption | exact oneCells_nil | exact oneCells_bytesC _ | (apply oneCells_cons; (focus (first | rfl | assumption))) | apply oneCells_append)); done) | (simp [oneCells, Value.oneCell'] <;> done)))) | (apply Sts.lp (by repeat (first | exact LPut.nil _ | apply LPut.here | apply LPut.next)); (focus (first | exact oneCells1 rfl | assumption | exact oneCells1 (by assumption) | ((repeat (first | assumption | exact oneCells_nil | exact oneCells_bytesC _ | (apply oneCells_cons; (focus (first | rfl | assumption))) | apply oneCells_append)); done) | (simp [oneCells, Value.oneCell'] <;> done)))) | (refine Sts.row1 (by first | assumption | omega | (simp <;> omega)) (by first | rfl | assumption)) | (refine Sts.rowP (by assumption) (by first | rfl | assumption | (simp <;> done)) (by rfl) (by (first | exact oneCells1 rfl | assumption | exact oneCells1 (by assumption) | ((repeat (first | assumption | exact oneCells_nil | exact oneCells_bytesC _ | (apply oneCells_cons; (focus (first | rfl | assumption))) | apply oneCells_append)); done) | (simp [oneCells, Value.oneCell'] <;> done)))) | apply Sts.next)) ?_)
        refine WpR.take (i := 16) rfl (by kernel_rfl) (by kernel_rfl) (by kernel_rfl) (Rdo.indexSlice rfl rfl (by omega)) rfl ?_
        refine WpR.one (i := 17) rfl (by kernel_rfl) (Stp.storeV rfl rfl (VC.i _ _) (by first | rfl | assumption | (simp <;> done)) (by repeat (first | (apply Sts.all; (focus (first | rfl | assumption | (simp <;> done))); (focus (first | exact oneCells1 rfl | assumption | exact oneCells1 (by assumption) | ((repeat (first | assumption | exact oneCells_nil | exact oneCells_bytesC _ | (apply oneCells_cons; (focus (first | rfl | assumption))) | apply oneCells_append)); done) | (simp [oneCells, Value.oneCell'] <;> done)))) | (apply Sts.lp (by repeat (first | exact LPut.nil _ | apply LPut.here | apply LPut.next)); (focus (first | exact oneCells1 rfl | assumption | exact oneCells1 (by assumption) | ((repeat (first | assumption | exact oneCells_nil | exact oneCells_bytesC _ | (apply oneCells_cons; (focus (first | rfl | assumption))) | apply oneCells_append)); done) | (simp [oneCells, Value.oneCell'] <;> done)))) | (refine Sts.row1 (by first | assumption | omega | (simp <;> omega)) (by first | rfl | assumption)) | (refine Sts.rowP (by assumption) (by first | rfl | assumption | (simp <;> done)) (by rfl) (by (first | exact oneCells1 rfl | assumption | exact oneCells1 (by assumption) | ((repeat (first | assumption | exact oneCells_nil | exact oneCells_bytesC _ | (apply oneCells_cons; (focus (first | rfl | assumption))) | apply oneCells_append)); done) | (simp [oneCells, Value.oneCell'] <;> done)))) | apply Sts.next)) ?_)
        refine WpR.done (by kernel_rfl) ?_
        refine Blk.n ?_
        refine Thn.n ?_
        refine Wp.region ?_
        refine WpL.step (Stp.rd (Rdo.move rfl) rfl ?_)
        refine WpL.step (Stp.rd (Rdo.pred rfl rfl (by omega)) rfl ?_)
        refine WpL.step (Stp.rd (Rdo.assign rfl) rfl ?_)
        refine WpL.nil ?_
        refine Thn.n ?_
        refine ⟨j', _, _, by omega, ⟨A', y :: B, hA', by simp; omega, by rw [htake]; simp, ?_, rfl, rfl⟩, (by repeat (first | exact trivial | refine ⟨rfl, ?_⟩)), ?_⟩
        · intro z hz
          rcases List.mem_cons.1 hz with rfl | hz
          · exact hxy
          · exact hlt z hz
        · have e2 : (((A'.concat y ++ x :: (B ++ cur.drop (i + 1))).map vi).set (j' + 1) (vi y)).set j' (vi x) = (A' ++ x :: (y :: B ++ cur.drop (i + 1))).map vi := by
            subst hA'
            simp [List.set_append]
          rw [e2]
          exact Gh.tk (by repeat (first | exact Tk.nil | apply Tk.cons (by repeat (first | exact Pk.here | apply Pk.next))))
      · refine Wp.seq ?_
        refine Wp.seq ?_
        refine Wp.draw (by kernel_rfl) ?_
        refine WpR.take (i := 0) rfl (by kernel_rfl) (by kernel_rfl) (by kernel_rfl) (Rdo.move rfl) rfl ?_
        refine WpR.take (i := 1) rfl (by kernel_rfl) (by kernel_rfl) (by kernel_rfl) (Rdo.move rfl) rfl ?_
        refine WpR.take (i := 2) rfl (by kernel_rfl) (by kernel_rfl) (by kernel_rfl) (Rdo.gti rfl rfl) rfl ?_
        refine WpR.take (i := 3) rfl (by kernel_rfl) (by kernel_rfl) (by kernel_rfl) (Rdo.move rfl) rfl ?_
        refine WpR.tT 19 rfl (by first | rfl | assumption | (simp only [decide_eq_true_eq, decide_eq_false_iff_not, Bool.not_eq_true', Bool.not_eq_false', List.length_cons, List.length_nil]; first | assumption | omega) | (simp <;> done) | (simp <;> omega)) ?_
        refine WpR.want (i := 4) rfl rfl rfl rfl (by kernel_rfl) (by kernel_rfl) (by kernel_rfl) (Rdo.move rfl) rfl ?_
        refine WpR.want (i := 5) rfl rfl rfl rfl (by kernel_rfl) (by kernel_rfl) (by kernel_rfl) (Rdo.move rfl) rfl ?_
        refine WpR.want (i := 6) rfl rfl rfl rfl (by kernel_rfl) (by kernel_rfl) (by kernel_rfl) (Rdo.indexSlice rfl rfl (by omega)) rfl ?_
        refine WpR.want (i := 8) rfl rfl rfl rfl (by kernel_rfl) (by kernel_rfl) (by kernel_rfl) (Rdo.move rfl) rfl ?_
        refine WpR.want (i := 9) rfl rfl rfl rfl (by kernel_rfl) (by kernel_rfl) (by kernel_rfl) (Rdo.move rfl) rfl ?_
        refine WpR.want (i := 10) rfl rfl rfl rfl (by kernel_rfl) (by kernel_rfl) (by kernel_rfl) (Rdo.pred rfl rfl (by omega)) rfl ?_
        refine WpR.want (i := 11) rfl rfl rfl rfl (by kernel_rfl) (by kernel_rfl) (by kernel_rfl) (Rdo.indexSlice rfl rfl (by omega)) rfl ?_
        refine WpR.phaseL (m := 0) #[true, true, true, true, true, true, true, true, true, true, true, true, true, true, true] 4 _ rfl (by kernel_rfl) (Tk.cons Pk.here Tk.nil) ?_
        refine WpA.want (i := 7) rfl rfl rfl rfl rfl (by kernel_rfl) (by kernel_rfl) (by kernel_rfl) (Rdo.load rfl (Lds.row1 (by assumption))) rfl ?_
        refine WpA.want (i := 12) rfl rfl rfl rfl rfl (by kernel_rfl) (by kernel_rfl) (by kernel_rfl) (Rdo.load rfl (Lds.row1 (by assumption))) rfl ?_
        refine WpA.oneG (i := 13) rfl rfl rfl rfl (by kernel_rfl) (Stp.call (cmpLess_ok _ _) (by kernel_rfl) rfl (by repeat (first | exact Tk.nil | apply Tk.cons (by repeat (first | exact Pk.here | apply Pk.next)))) rfl ?_)
        rintro _ _ ⟨rfl, rfl⟩
        refine WpA.lst (by simp only [List.cons_append, List.nil_append]; exact rfl) ?_
        refine WpA.take (i := 14) rfl rfl (by kernel_rfl) (by kernel_rfl) (by kernel_rfl) (Rdo.pick_t rfl rfl) rfl ?_
        refine WpA.stop (by kernel_rfl) ?_
        refine WpR.lst (by simp only [List.cons_append, List.nil_append]; exact rfl) ?_
        refine WpR.done (by kernel_rfl) ?_
        refine Thn.n ?_
        refine Wp.condL rfl (by first | rfl | assumption | (simp only [decide_eq_true_eq, decide_eq_false_iff_not, Bool.not_eq_true', Bool.not_eq_false', List.length_cons, List.length_nil]; first | assumption | omega) | (simp <;> done) | (simp <;> omega)) ?_
        refine Wp.exit ?_
        refine Thn.x ?_
        refine Thn.x ?_
        refine Blk.here ?_
        refine Blk.n ?_
        refine Thn.n ?_
        refine Wp.region ?_
        refine WpL.step (Stp.rd (Rdo.move rfl) rfl ?_)
        refine WpL.step (Stp.rd (Rdo.succ rfl rfl (by omega)) rfl ?_)
        refine WpL.step (Stp.rd (Rdo.assign rfl) rfl ?_)
        refine WpL.nil ?_
        refine Thn.n ?_
        refine ⟨k - 1, _, _, by omega, ⟨i + 1, _, by omega, by omega, hperm2, hdone ?_, rfl, rfl⟩, (by repeat (first | exact trivial | refine ⟨rfl, ?_⟩)), Gh.tk (by repeat (first | exact Tk.nil | apply Tk.cons (by repeat (first | exact Pk.here | apply Pk.next))))⟩
        intro z hz
        have hz' : z ∈ A' ∨ z = y := by simpa using hz
        rw [htake, List.pairwise_append] at hsort
        obtain ⟨h1, h2, h3⟩ := hsort
        rw [List.concat_eq_append, List.pairwise_append] at h1
        rcases hz' with hz' | rfl
        · have := h1.2.2 z hz' y (by simp)
          omega
        · omega
  · refine Wp.seq ?_
    refine Wp.seq ?_
    refine Wp.region ?_
    refine WpL.step (Stp.rd (Rdo.move rfl) rfl ?_)
    refine WpL.step (Stp.rd (Rdo.move rfl) rfl ?_)
    refine WpL.step (Stp.rd (Rdo.lti rfl rfl) rfl ?_)
    refine WpL.nil ?_
    refine Thn.n ?_
    refine Wp.condL rfl (by first | rfl | assumption | (simp only [decide_eq_true_eq, decide_eq_false_iff_not, Bool.not_eq_true', Bool.not_eq_false', List.length_cons, List.length_nil]; first | assumption | omega) | (simp <;> done) | (simp <;> omega)) ?_
    refine Wp.exit ?_
    refine Thn.x ?_
    refine Thn.x ?_
    refine Blk.here ?_
    refine Ret.end_ ResV.nil (Gh.tk (by repeat (first | exact Tk.nil | apply Tk.cons (by repeat (first | exact Pk.here | apply Pk.next))))) ⟨rfl, cur, hperm, ?_, rfl⟩
    rwa [List.take_of_length_le (by omega)] at hsort
end Go.Proofs.YtccgdnocldmjeaaDoor
