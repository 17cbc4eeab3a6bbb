/- ClientBounds, walked. -/
import Derived.Test.YtaacdekfeljpeaaDoorCl8
import Derived.Test.YtaacdekfeljpeaaDoorCvt
import Derived.Test.YtaacdekfeljpeaaDoorTop
namespace Go.Proofs.YtaacdekfeljpeaaDoor
open Go
set_option maxHeartbeats 4000000
set_option linter.unusedSimpArgs false
set_option linter.unusedVariables false
set_option maxRecDepth 20000

/-- Init, Told, Begin, Record where what may be is. -/
theorem bounds_good (number part : Int) (name : List UInt8) (hg : (CliS.new number name).good) :
    ∃ k1 k2 k3 k4 : CliS, ∃ o3 : Go.Proofs.YtaacdekfeljpeaaDoor.Op, ∃ e3 e4 : Int, ∃ r4 : Rec,
      (∀ b, Trip Tryd.prog 12 [vp b 0] [cliA b (CliS.new number name)] (fun v l => v = .tuple #[.agg #[vi 1, vi number, vi 0, vs name, vi 0, vi 0, vi 0, vi 0, vb false], vi 0] ∧ l = [cliA b k1])) ∧
      (∀ b, Trip Tryd.prog 13 [vp b 0, vi 0, .agg #[vi 0, vi 0, vi 0]] [cliA b k1] (fun v l => v = vi 0 ∧ l = [cliA b k2])) ∧
      (∀ b, Trip Tryd.prog 15 [vp b 0, vi part] [cliA b k2] (fun v l => v = .tuple #[.agg (opC o3).toArray, vi e3] ∧ l = [cliA b k3])) ∧
      (∀ b, Trip Tryd.prog 16 [vp b 0, vi part, .slice none 0 0] [cliA b k3] (fun x l => ∃ a c, x = .tuple #[.agg (recC r4 (.slice a r4.value.length c)).toArray, vi e4] ∧ l = [cliA b k4])) ∧
      (((0 ≤ part ∧ part ≤ 3) ∧ e3 = 0 ∧ e4 = 0) ∨ (¬ (0 ≤ part ∧ part ≤ 3) ∧ e3 = 1 ∧ e4 = 6)) := by
  obtain ⟨k0, hk0⟩ : ∃ k, k = CliS.new number name := ⟨_, rfl⟩
  obtain ⟨k1, hk1⟩ : ∃ k : CliS, k = { k0 with next := 1, asked := 0 } := ⟨_, rfl⟩
  obtain ⟨k2, hk2⟩ : ∃ k : CliS, k = { k1 with known := true, producer := 0, epoch := 0, asked := -1, last := 0, opn := false, parts := List.replicate 4 part0 } := ⟨_, rfl⟩
  have s1 := fun b => init_ok b k0 (by rw [hk0]; exact Int.le_refl 0) (by have := hg.2.2.2.1; rw [hk0]; show name.length ≤ _; have h8 : name.length ≤ 8 := this; omega)
  rw [show k0.init = (k1, ⟨1, number, 0, name, 0, 0, 0, 0, false⟩, 0) by
    rw [CliS.init_good k0 (by rw [hk0]; exact hg) (by rw [hk0]; exact (by decide : ¬ (0 : Int) > 1048576)), hk1, hk0]; rfl] at s1
  have s2 := fun b => told_ok b k1 0 ⟨0, 0, 0⟩
  rw [show k1.told 0 ⟨0, 0, 0⟩ = (k2, 0) by rw [hk2, hk1, hk0]; rfl] at s2
  have s3 := fun b => begin_ok b k2 part (by rw [hk2, hk1]; exact (by decide : (0 : Int) ≤ 1)) (by rw [hk2]; exact Int.le_refl 0) (by rw [hk2]; exact (by decide : (0 : Int) ≤ 1000000))
  refine ⟨k1, k2, (k2.begin_ part).1, ((k2.begin_ part).1.record part []).1, (k2.begin_ part).2.1, (k2.begin_ part).2.2, ((k2.begin_ part).1.record part []).2.2, ((k2.begin_ part).1.record part []).2.1, by rw [← hk0]; exact s1, s2, s3, fun b => ?_, ?_⟩
  · have hpart : ∀ p ∈ (k2.begin_ part).1.parts, p.out = none ∧ 0 ≤ p.next := by
      unfold CliS.begin_
      have h0 : ∀ p ∈ k2.parts, p = part0 := by rw [hk2]; intro p hp; exact List.eq_of_mem_replicate hp
      have h1 : k2.part part = part0 := by
        unfold CliS.part
        cases hx : k2.parts[part.toNat]? with
        | none => rfl
        | some p => exact h0 p (List.mem_of_getElem? hx)
      have h2 : ∀ p ∈ k2.parts, p.out = none ∧ 0 ≤ p.next := fun p hp => by rw [h0 p hp]; exact ⟨rfl, Int.le_refl 0⟩
      repeat' split
      all_goals try exact h2
      intro p hp
      rcases List.mem_or_eq_of_mem_set hp with hp | rfl
      · exact h2 p hp
      · rw [h1]; exact ⟨rfl, Int.le_refl 0⟩
    have hq : ((k2.begin_ part).1.part part).out = none ∧ 0 ≤ ((k2.begin_ part).1.part part).next := by
      unfold CliS.part
      cases hx : (k2.begin_ part).1.parts[part.toNat]? with
      | none => exact ⟨rfl, Int.le_refl 0⟩
      | some p => exact hpart p (List.mem_of_getElem? hx)
    have h := record_ok b (k2.begin_ part).1 part (.slice none 0 0) [] (fun r hr => by rw [hq.1] at hr; cases hr) hq.2
    refine Trip.gh (Gh.trans (Gh.noBytes (a := none) (c := 0)) (Gh.perm (List.Perm.swap _ _ _))) (Trip.viaG h Tk.rfl_ ?_)
    rintro x l ⟨v', rfl, rfl⟩ F w hl
    obtain ⟨a, c, rfl⟩ := hl.fact shape_bytes
    exact ⟨_, ⟨a, c, rfl, rfl⟩, (Gh.tk (by repeat (first | exact Tk.nil | apply Tk.cons (by repeat (first | exact Pk.here | apply Pk.next))))).use hl⟩
  · have hk : k2.known = true := by rw [hk2]
    have hlast : k2.last = 0 := by rw [hk2]
    have hnext : k2.next = 1 := by rw [hk2, hk1]
    have hparts : k2.parts = List.replicate 4 part0 := by rw [hk2]
    by_cases hp : 0 ≤ part ∧ part ≤ 3
    · refine .inl ⟨hp, ?_⟩
      rw [CliS.begin_good k2 part hk (by omega) (by rw [hlast]; simp) (by omega)]
      refine ⟨rfl, ?_⟩
      unfold CliS.record
      have hpp : ∀ p : PartS, CliS.part { k2 with next := k2.next + 1, last := k2.cur, opn := true, parts := k2.parts.set part.toNat p } part = p := by
        intro p
        unfold CliS.part
        simp only
        rw [List.getElem?_set_self (by rw [hparts, List.length_replicate]; omega)]
        rfl
      rw [if_neg (by omega), hpp, if_neg (by simp)]
      have h1 : k2.part part = part0 := by
        unfold CliS.part
        cases hx : k2.parts[part.toNat]? with
        | none => rfl
        | some p => rw [hparts] at hx; exact List.eq_of_mem_replicate (List.mem_of_getElem? hx)
      rw [h1]
      rfl
    · refine .inr ⟨hp, ?_⟩
      have hb : k2.begin_ part = (k2, op0, 1) := by
        unfold CliS.begin_
        rw [if_neg (by rw [hk]; simp), if_pos (by omega)]
      rw [hb]
      refine ⟨rfl, ?_⟩
      unfold CliS.record
      rw [if_pos (by omega)]

theorem init_bad (number : Int) (name : List UInt8) (hl : name.length ≤ 60) (hg : ¬ (CliS.new number name).good) (b : Nat) :
    Trip Tryd.prog 12 [vp b 0] [cliA b (CliS.new number name)] (fun v l => v = .tuple #[.agg (opC op0).toArray, vi 1] ∧ l = [cliA b (CliS.new number name)]) := by
  have h := init_ok b (CliS.new number name) (Int.le_refl 0) (by show name.length ≤ _; omega)
  rw [show (CliS.new number name).init = (CliS.new number name, op0, 1) by unfold CliS.init; rw [if_neg hg]] at h
  exact h

theorem all_take {p : UInt8 → Bool} {l : List UInt8} {i : Nat} {c : UInt8} (h : l[i]? = some c) : (l.take (i + 1)).all p = ((l.take i).all p && p c) := by
  rw [List.take_add_one, h, List.all_append]
  simp

abbrev bndE (number part : Int) (name : List UInt8) (b : Nat) (g : Bool) (i : Nat) : Env := [(0, vi number), (1, vs name), (2, vi part), (6, vb false), (7, vp b 0), (8, vb g), (9, vi i)]

theorem boundsLaw_ok (number part : Int) (name : List UInt8) : Trip Tryd.prog 4 [vi number, vs name, vi part] [] (fun v l => v = vb true) := by
  by_cases h1 : 60 < (name.length : Int)
  · refine Trip.of_body Tryd.func4 rfl Tryd.ntmps4 Tryd.results4 rfl ?_
    refine Wp.seq ?_
    refine Wp.region ?_
    refine WpL.step (Stp.rd (Rdo.assign rfl) rfl ?_)
    refine WpL.nil ?_
    refine Thn.n ?_
    refine Wp.seq ?_
    refine Wp.seq ?_
    refine Wp.region ?_
    refine WpL.step (Stp.rd (Rdo.move rfl) rfl ?_)
    refine WpL.step (Stp.rd (Rdo.lenVs rfl) rfl ?_)
    refine WpL.step (Stp.rd (Rdo.gti rfl rfl) rfl ?_)
    refine WpL.nil ?_
    refine Thn.n ?_
    refine Wp.condK rfl (by first | rfl | assumption | (simp only [decide_eq_true_eq, decide_eq_false_iff_not, Bool.not_eq_true', Bool.not_eq_false', List.length_cons, List.length_nil]; first | assumption | omega) | (simp <;> done) | (simp <;> omega)) ?_
    refine Wp.seq ?_
    refine Wp.region ?_
    refine WpL.step (Stp.rd (Rdo.assign rfl) rfl ?_)
    refine WpL.nil ?_
    refine Thn.n ?_
    refine Wp.ret ?_
    refine Thn.r ?_
    refine Ret.now (ResV.tmp rfl ResV.nil) (Gh.tk (by repeat (first | exact Tk.nil | apply Tk.cons (by repeat (first | exact Pk.here | apply Pk.next))))) rfl
  have hl60 : name.length ≤ 60 := by omega
  by_cases hA : 0 ≤ number ∧ number ≤ 15 ∧ 1 ≤ name.length ∧ name.length ≤ 8
  · obtain ⟨a1, a2, a3, a4⟩ := hA
    have a3' : (1 : Int) ≤ (name.length : Int) := by omega
    have a4' : (name.length : Int) ≤ 8 := by omega
    refine Trip.of_body Tryd.func4 rfl Tryd.ntmps4 Tryd.results4 rfl ?_
    refine Wp.seq ?_
    refine Wp.region ?_
    refine WpL.step (Stp.rd (Rdo.assign rfl) rfl ?_)
    refine WpL.nil ?_
    refine Thn.n ?_
    refine Wp.seq ?_
    refine Wp.seq ?_
    refine Wp.region ?_
    refine WpL.step (Stp.rd (Rdo.move rfl) rfl ?_)
    refine WpL.step (Stp.rd (Rdo.lenVs rfl) rfl ?_)
    refine WpL.step (Stp.rd (Rdo.gti rfl rfl) rfl ?_)
    refine WpL.nil ?_
    refine Thn.n ?_
    refine Wp.condL rfl (by first | rfl | assumption | (simp only [decide_eq_true_eq, decide_eq_false_iff_not, Bool.not_eq_true', Bool.not_eq_false', List.length_cons, List.length_nil]; first | assumption | omega) | (simp <;> done) | (simp <;> omega)) ?_
    refine Wp.skip ?_
    refine Thn.n ?_
    refine Wp.seq ?_
    refine Wp.region ?_
    refine WpL.step (Stp.rd (Rdo.move rfl) rfl ?_)
    refine WpL.step (Stp.rd (Rdo.move rfl) rfl ?_)
    refine WpL.step (Stp.call (new_ok _ _) (by kernel_rfl) rfl (by repeat (first | exact Tk.nil | apply Tk.cons (by repeat (first | exact Pk.here | apply Pk.next)))) rfl ?_)
    rintro _ _ ⟨v21_0, ⟨rfl, rfl⟩⟩
    refine WpL.lst (by simp only [List.cons_append, List.nil_append]; exact rfl) ?_
    refine WpL.step (Stp.rd (Rdo.assign rfl) rfl ?_)
    refine WpL.nil ?_
    refine Thn.n ?_
    refine Wp.seq ?_
    refine Wp.seq ?_
    refine Wp.region ?_
    refine WpL.step (Stp.rd (Rdo.move rfl) rfl ?_)
    refine WpL.step (Stp.rd (Rdo.eqnil rfl rfl) rfl ?_)
    refine WpL.nil ?_
    refine Thn.n ?_
    refine Wp.condF rfl ?_
    refine Wp.skip ?_
    refine Thn.n ?_
    refine Wp.seq ?_
    refine Wp.region ?_
    refine WpL.step (Stp.rd (Rdo.move rfl) rfl ?_)
    refine WpL.step (Stp.rd (Rdo.gei rfl rfl) rfl ?_)
    refine WpL.step (Stp.rd (Rdo.move rfl) rfl ?_)
    refine WpL.gT rfl rfl (by first | rfl | assumption | (simp only [decide_eq_true_eq, decide_eq_false_iff_not, Bool.not_eq_true', Bool.not_eq_false', List.length_cons, List.length_nil]; first | assumption | omega) | (simp <;> done) | (simp <;> omega)) ?_
    refine WpL.want rfl rfl rfl (Stp.rd (Rdo.move rfl) rfl ?_)
    refine WpL.want rfl rfl rfl (Stp.rd (Rdo.lei rfl rfl) rfl ?_)
    refine WpL.step (Stp.rd (Rdo.pick_t rfl rfl) rfl ?_)
    refine WpL.step (Stp.rd (Rdo.move rfl) rfl ?_)
    refine WpL.gT rfl rfl (by first | rfl | assumption | (simp only [decide_eq_true_eq, decide_eq_false_iff_not, Bool.not_eq_true', Bool.not_eq_false', List.length_cons, List.length_nil]; first | assumption | omega) | (simp <;> done) | (simp <;> omega)) ?_
    refine WpL.want rfl rfl rfl (Stp.rd (Rdo.move rfl) rfl ?_)
    refine WpL.want rfl rfl rfl (Stp.rd (Rdo.lenVs rfl) rfl ?_)
    refine WpL.want rfl rfl rfl (Stp.rd (Rdo.gei rfl rfl) rfl ?_)
    refine WpL.step (Stp.rd (Rdo.pick_t rfl rfl) rfl ?_)
    refine WpL.step (Stp.rd (Rdo.move rfl) rfl ?_)
    refine WpL.gT rfl rfl (by first | rfl | assumption | (simp only [decide_eq_true_eq, decide_eq_false_iff_not, Bool.not_eq_true', Bool.not_eq_false', List.length_cons, List.length_nil]; first | assumption | omega) | (simp <;> done) | (simp <;> omega)) ?_
    refine WpL.want rfl rfl rfl (Stp.rd (Rdo.move rfl) rfl ?_)
    refine WpL.want rfl rfl rfl (Stp.rd (Rdo.lenVs rfl) rfl ?_)
    refine WpL.want rfl rfl rfl (Stp.rd (Rdo.lei rfl rfl) rfl ?_)
    refine WpL.step (Stp.rd (Rdo.pick_t rfl rfl) rfl ?_)
    refine WpL.step (Stp.rd (Rdo.assign rfl) rfl ?_)
    refine WpL.nil ?_
    refine Thn.n ?_
    refine Wp.seq ?_
    refine Wp.seq ?_
    refine Wp.region ?_
    refine WpL.step (Stp.rd (Rdo.assign rfl) rfl ?_)
    refine WpL.nil ?_
    refine Thn.n ?_
    refine Wp.block ?_
    refine Wp.loopE (fun k e h => ∃ i : Nat, i + k = name.length ∧ e = bndE number part name v21_0 ((name.take i).all small) i ∧ h = [cliA v21_0 (CliS.new number name)]) name.length
      (e0 := bndE number part name v21_0 true 0) (l0 := [cliA v21_0 (CliS.new number name)]) (by repeat (first | exact trivial | refine ⟨rfl, ?_⟩ | refine ⟨congrArg some (congrArg Value.bool (decide_eq_true (by first | assumption | omega))), ?_⟩ | refine ⟨congrArg some (congrArg Value.bool (decide_eq_false (by first | assumption | omega))), ?_⟩)) (by repeat (first | exact trivial | refine ⟨rfl, ?_⟩)) Gh.rfl_ ⟨0, by simp, rfl, rfl⟩ ?_
    rintro k e h ⟨i, hik, rfl, rfl⟩
    by_cases hi : i < name.length
    · obtain ⟨c, hc⟩ : ∃ c, name[i]? = some c := ⟨name[i], List.getElem?_eq_getElem hi⟩
      have hat := all_take (p := small) hc
      have hc256 : c.toNat < 256 := c.toNat_lt
      cases hb : (name.take i).all small
      · rw [hb] at hat
        refine Wp.seq ?_
        refine Wp.seq ?_
        refine Wp.region ?_
        refine WpL.step (Stp.rd (Rdo.move rfl) rfl ?_)
        refine WpL.step (Stp.rd (Rdo.move rfl) rfl ?_)
        refine WpL.step (Stp.rd (Rdo.lenVs rfl) rfl ?_)
        refine WpL.step (Stp.rd (Rdo.lti rfl rfl) rfl ?_)
        refine WpL.nil ?_
        refine Thn.n ?_
        refine Wp.condK rfl (by first | rfl | assumption | (simp only [decide_eq_true_eq, decide_eq_false_iff_not, Bool.not_eq_true', Bool.not_eq_false', List.length_cons, List.length_nil]; first | assumption | omega) | (simp <;> done) | (simp <;> omega)) ?_
        refine Wp.skip ?_
        refine Thn.n ?_
        refine Wp.seq ?_
        refine Wp.block ?_
        refine Wp.region ?_
        refine WpL.step (Stp.rd (Rdo.move rfl) rfl ?_)
        refine WpL.step (Stp.rd (Rdo.move rfl) rfl ?_)
        refine WpL.pass rfl rfl rfl rfl ?_
        refine WpL.pass rfl rfl rfl rfl ?_
        refine WpL.pass rfl rfl rfl rfl ?_
        refine WpL.pass rfl rfl rfl rfl ?_
        refine WpL.step (Stp.rd (Rdo.pick_f rfl rfl) rfl ?_)
        refine WpL.step (Stp.rd (Rdo.move rfl) rfl ?_)
        refine WpL.pass rfl rfl rfl rfl ?_
        refine WpL.pass rfl rfl rfl rfl ?_
        refine WpL.pass rfl rfl rfl rfl ?_
        refine WpL.pass rfl rfl rfl rfl ?_
        refine WpL.step (Stp.rd (Rdo.pick_f rfl rfl) rfl ?_)
        refine WpL.step (Stp.rd (Rdo.assign rfl) rfl ?_)
        refine WpL.nil ?_
        refine Blk.n ?_
        refine Thn.n ?_
        refine Wp.region ?_
        refine WpL.step (Stp.rd (Rdo.move rfl) rfl ?_)
        refine WpL.step (Stp.rd (Rdo.succ rfl rfl (by omega)) rfl ?_)
        refine WpL.step (Stp.rd (Rdo.assign rfl) rfl ?_)
        refine WpL.nil ?_
        refine Thn.n ?_
        refine ⟨k - 1, _, _, by omega, ⟨i + 1, by omega, rfl, rfl⟩, ?_, Gh.tk (by repeat (first | exact Tk.nil | apply Tk.cons (by repeat (first | exact Pk.here | apply Pk.next))))⟩
        rw [hat]
        exact (by repeat (first | exact trivial | refine ⟨rfl, ?_⟩))
      · rw [hb] at hat
        by_cases x1 : 97 ≤ c.toNat
        · have x1' : (97 : Int) ≤ (c.toNat : Int) := by omega
          by_cases x2 : c.toNat ≤ 122
          · have x2' : (c.toNat : Int) ≤ 122 := by omega
            refine Wp.seq ?_
            refine Wp.seq ?_
            refine Wp.region ?_
            refine WpL.step (Stp.rd (Rdo.move rfl) rfl ?_)
            refine WpL.step (Stp.rd (Rdo.move rfl) rfl ?_)
            refine WpL.step (Stp.rd (Rdo.lenVs rfl) rfl ?_)
            refine WpL.step (Stp.rd (Rdo.lti rfl rfl) rfl ?_)
            refine WpL.nil ?_
            refine Thn.n ?_
            refine Wp.condK rfl (by first | rfl | assumption | (simp only [decide_eq_true_eq, decide_eq_false_iff_not, Bool.not_eq_true', Bool.not_eq_false', List.length_cons, List.length_nil]; first | assumption | omega) | (simp <;> done) | (simp <;> omega)) ?_
            refine Wp.skip ?_
            refine Thn.n ?_
            refine Wp.seq ?_
            refine Wp.block ?_
            refine Wp.region ?_
            refine WpL.step (Stp.rd (Rdo.move rfl) rfl ?_)
            refine WpL.step (Stp.rd (Rdo.move rfl) rfl ?_)
            refine WpL.want rfl rfl rfl (Stp.rd (Rdo.move rfl) rfl ?_)
            refine WpL.want rfl rfl rfl (Stp.rd (Rdo.move rfl) rfl ?_)
            refine WpL.want rfl rfl rfl (Stp.rd (Rdo.indexVs rfl rfl (by assumption)) rfl ?_)
            refine WpL.want rfl rfl rfl (Stp.rd (Rdo.gei rfl rfl) rfl ?_)
            refine WpL.step (Stp.rd (Rdo.pick_t rfl rfl) rfl ?_)
            refine WpL.step (Stp.rd (Rdo.move rfl) rfl ?_)
            refine WpL.gT rfl rfl (by first | rfl | assumption | (simp only [decide_eq_true_eq, decide_eq_false_iff_not, Bool.not_eq_true', Bool.not_eq_false', List.length_cons, List.length_nil]; first | assumption | omega) | (simp <;> done) | (simp <;> omega)) ?_
            refine WpL.want rfl rfl rfl (Stp.rd (Rdo.move rfl) rfl ?_)
            refine WpL.want rfl rfl rfl (Stp.rd (Rdo.move rfl) rfl ?_)
            refine WpL.want rfl rfl rfl (Stp.rd (Rdo.indexVs rfl rfl (by assumption)) rfl ?_)
            refine WpL.want rfl rfl rfl (Stp.rd (Rdo.lei rfl rfl) rfl ?_)
            refine WpL.step (Stp.rd (Rdo.pick_t rfl rfl) rfl ?_)
            refine WpL.step (Stp.rd (Rdo.assign rfl) rfl ?_)
            refine WpL.nil ?_
            refine Blk.n ?_
            refine Thn.n ?_
            refine Wp.region ?_
            refine WpL.step (Stp.rd (Rdo.move rfl) rfl ?_)
            refine WpL.step (Stp.rd (Rdo.succ rfl rfl (by omega)) rfl ?_)
            refine WpL.step (Stp.rd (Rdo.assign rfl) rfl ?_)
            refine WpL.nil ?_
            refine Thn.n ?_
            refine ⟨k - 1, _, _, by omega, ⟨i + 1, by omega, rfl, rfl⟩, ?_, Gh.tk (by repeat (first | exact Tk.nil | apply Tk.cons (by repeat (first | exact Pk.here | apply Pk.next))))⟩
            rw [hat, show small c = true by unfold small; simp [x1, x2]]
            exact (by repeat (first | exact trivial | refine ⟨rfl, ?_⟩ | refine ⟨congrArg some (congrArg Value.bool (decide_eq_true (by first | assumption | omega))), ?_⟩ | refine ⟨congrArg some (congrArg Value.bool (decide_eq_false (by first | assumption | omega))), ?_⟩))
          · have x2' : ¬ (c.toNat : Int) ≤ 122 := by omega
            refine Wp.seq ?_
            refine Wp.seq ?_
            refine Wp.region ?_
            refine WpL.step (Stp.rd (Rdo.move rfl) rfl ?_)
            refine WpL.step (Stp.rd (Rdo.move rfl) rfl ?_)
            refine WpL.step (Stp.rd (Rdo.lenVs rfl) rfl ?_)
            refine WpL.step (Stp.rd (Rdo.lti rfl rfl) rfl ?_)
            refine WpL.nil ?_
            refine Thn.n ?_
            refine Wp.condK rfl (by first | rfl | assumption | (simp only [decide_eq_true_eq, decide_eq_false_iff_not, Bool.not_eq_true', Bool.not_eq_false', List.length_cons, List.length_nil]; first | assumption | omega) | (simp <;> done) | (simp <;> omega)) ?_
            refine Wp.skip ?_
            refine Thn.n ?_
            refine Wp.seq ?_
            refine Wp.block ?_
            refine Wp.region ?_
            refine WpL.step (Stp.rd (Rdo.move rfl) rfl ?_)
            refine WpL.step (Stp.rd (Rdo.move rfl) rfl ?_)
            refine WpL.want rfl rfl rfl (Stp.rd (Rdo.move rfl) rfl ?_)
            refine WpL.want rfl rfl rfl (Stp.rd (Rdo.move rfl) rfl ?_)
            refine WpL.want rfl rfl rfl (Stp.rd (Rdo.indexVs rfl rfl (by assumption)) rfl ?_)
            refine WpL.want rfl rfl rfl (Stp.rd (Rdo.gei rfl rfl) rfl ?_)
            refine WpL.step (Stp.rd (Rdo.pick_t rfl rfl) rfl ?_)
            refine WpL.step (Stp.rd (Rdo.move rfl) rfl ?_)
            refine WpL.gT rfl rfl (by first | rfl | assumption | (simp only [decide_eq_true_eq, decide_eq_false_iff_not, Bool.not_eq_true', Bool.not_eq_false', List.length_cons, List.length_nil]; first | assumption | omega) | (simp <;> done) | (simp <;> omega)) ?_
            refine WpL.want rfl rfl rfl (Stp.rd (Rdo.move rfl) rfl ?_)
            refine WpL.want rfl rfl rfl (Stp.rd (Rdo.move rfl) rfl ?_)
            refine WpL.want rfl rfl rfl (Stp.rd (Rdo.indexVs rfl rfl (by assumption)) rfl ?_)
            refine WpL.want rfl rfl rfl (Stp.rd (Rdo.lei rfl rfl) rfl ?_)
            refine WpL.step (Stp.rd (Rdo.pick_t rfl rfl) rfl ?_)
            refine WpL.step (Stp.rd (Rdo.assign rfl) rfl ?_)
            refine WpL.nil ?_
            refine Blk.n ?_
            refine Thn.n ?_
            refine Wp.region ?_
            refine WpL.step (Stp.rd (Rdo.move rfl) rfl ?_)
            refine WpL.step (Stp.rd (Rdo.succ rfl rfl (by omega)) rfl ?_)
            refine WpL.step (Stp.rd (Rdo.assign rfl) rfl ?_)
            refine WpL.nil ?_
            refine Thn.n ?_
            refine ⟨k - 1, _, _, by omega, ⟨i + 1, by omega, rfl, rfl⟩, ?_, Gh.tk (by repeat (first | exact Tk.nil | apply Tk.cons (by repeat (first | exact Pk.here | apply Pk.next))))⟩
            rw [hat, show small c = false by unfold small; simp [x2]]
            exact (by repeat (first | exact trivial | refine ⟨rfl, ?_⟩ | refine ⟨congrArg some (congrArg Value.bool (decide_eq_true (by first | assumption | omega))), ?_⟩ | refine ⟨congrArg some (congrArg Value.bool (decide_eq_false (by first | assumption | omega))), ?_⟩))
        · have x1' : ¬ (97 : Int) ≤ (c.toNat : Int) := by omega
          refine Wp.seq ?_
          refine Wp.seq ?_
          refine Wp.region ?_
          refine WpL.step (Stp.rd (Rdo.move rfl) rfl ?_)
          refine WpL.step (Stp.rd (Rdo.move rfl) rfl ?_)
          refine WpL.step (Stp.rd (Rdo.lenVs rfl) rfl ?_)
          refine WpL.step (Stp.rd (Rdo.lti rfl rfl) rfl ?_)
          refine WpL.nil ?_
          refine Thn.n ?_
          refine Wp.condK rfl (by first | rfl | assumption | (simp only [decide_eq_true_eq, decide_eq_false_iff_not, Bool.not_eq_true', Bool.not_eq_false', List.length_cons, List.length_nil]; first | assumption | omega) | (simp <;> done) | (simp <;> omega)) ?_
          refine Wp.skip ?_
          refine Thn.n ?_
          refine Wp.seq ?_
          refine Wp.block ?_
          refine Wp.region ?_
          refine WpL.step (Stp.rd (Rdo.move rfl) rfl ?_)
          refine WpL.step (Stp.rd (Rdo.move rfl) rfl ?_)
          refine WpL.want rfl rfl rfl (Stp.rd (Rdo.move rfl) rfl ?_)
          refine WpL.want rfl rfl rfl (Stp.rd (Rdo.move rfl) rfl ?_)
          refine WpL.want rfl rfl rfl (Stp.rd (Rdo.indexVs rfl rfl (by assumption)) rfl ?_)
          refine WpL.want rfl rfl rfl (Stp.rd (Rdo.gei rfl rfl) rfl ?_)
          refine WpL.step (Stp.rd (Rdo.pick_t rfl rfl) rfl ?_)
          refine WpL.step (Stp.rd (Rdo.move rfl) rfl ?_)
          refine WpL.gF rfl rfl (by first | rfl | assumption | (simp only [decide_eq_true_eq, decide_eq_false_iff_not, Bool.not_eq_true', Bool.not_eq_false', List.length_cons, List.length_nil]; first | assumption | omega) | (simp <;> done) | (simp <;> omega)) ?_
          refine WpL.pass rfl rfl rfl rfl ?_
          refine WpL.pass rfl rfl rfl rfl ?_
          refine WpL.pass rfl rfl rfl rfl ?_
          refine WpL.pass rfl rfl rfl rfl ?_
          refine WpL.step (Stp.rd (Rdo.pick_f rfl rfl) rfl ?_)
          refine WpL.step (Stp.rd (Rdo.assign rfl) rfl ?_)
          refine WpL.nil ?_
          refine Blk.n ?_
          refine Thn.n ?_
          refine Wp.region ?_
          refine WpL.step (Stp.rd (Rdo.move rfl) rfl ?_)
          refine WpL.step (Stp.rd (Rdo.succ rfl rfl (by omega)) rfl ?_)
          refine WpL.step (Stp.rd (Rdo.assign rfl) rfl ?_)
          refine WpL.nil ?_
          refine Thn.n ?_
          refine ⟨k - 1, _, _, by omega, ⟨i + 1, by omega, rfl, rfl⟩, ?_, Gh.tk (by repeat (first | exact Tk.nil | apply Tk.cons (by repeat (first | exact Pk.here | apply Pk.next))))⟩
          rw [hat, show small c = false by unfold small; simp [x1]]
          exact (by repeat (first | exact trivial | refine ⟨rfl, ?_⟩ | refine ⟨congrArg some (congrArg Value.bool (decide_eq_true (by first | assumption | omega))), ?_⟩ | refine ⟨congrArg some (congrArg Value.bool (decide_eq_false (by first | assumption | omega))), ?_⟩))
    · have hin : i = name.length := by omega
      subst hin
      rw [List.take_length]
      cases hs : name.all small
      · have hng : ¬ (CliS.new number name).good := fun hg => by
          have h2 : name.all small = true := List.all_eq_true.2 hg.2.2.2.2
          rw [hs] at h2
          cases h2
        have sb := init_bad number name hl60 hng
        refine Wp.seq ?_
        refine Wp.seq ?_
        refine Wp.region ?_
        refine WpL.step (Stp.rd (Rdo.move rfl) rfl ?_)
        refine WpL.step (Stp.rd (Rdo.move rfl) rfl ?_)
        refine WpL.step (Stp.rd (Rdo.lenVs rfl) rfl ?_)
        refine WpL.step (Stp.rd (Rdo.lti rfl rfl) rfl ?_)
        refine WpL.nil ?_
        refine Thn.n ?_
        refine Wp.condL rfl (by first | rfl | assumption | (simp only [decide_eq_true_eq, decide_eq_false_iff_not, Bool.not_eq_true', Bool.not_eq_false', List.length_cons, List.length_nil]; first | assumption | omega) | (simp <;> done) | (simp <;> omega)) ?_
        refine Wp.exit ?_
        refine Thn.x ?_
        refine Thn.x ?_
        refine Blk.here ?_
        refine Thn.n ?_
        refine Wp.seq ?_
        refine Wp.region ?_
        refine WpL.step (Stp.rd (Rdo.move rfl) rfl ?_)
        refine WpL.step (Stp.call (sb _) (by kernel_rfl) rfl (by repeat (first | exact Tk.nil | apply Tk.cons (by repeat (first | exact Pk.here | apply Pk.next)))) rfl ?_)
        rintro _ _ ⟨rfl, rfl⟩
        refine WpL.lst (by simp only [List.cons_append, List.nil_append]; exact rfl) ?_
        refine WpL.step (Stp.rd (Rdo.move rfl) rfl ?_)
        refine WpL.step (Stp.rd (Rdo.extract rfl rfl) rfl ?_)
        refine WpL.step (Stp.rd (Rdo.extract rfl rfl) rfl ?_)
        (refine WpL.step (Stp.alloc rfl ?_); intro nb24)
        refine WpL.step (Stp.storeV rfl rfl (VC.ag _) (by first | rfl | assumption | (simp <;> done)) (by repeat (first | (apply Sts.all; (focus (first | rfl | assumption | (simp <;> done))); (focus (first | exact oneCells1 rfl | assumption | exact oneCells1 (by assumption) | (simp [oneCells, Value.oneCell'] <;> done)))) | (apply Sts.lp (by repeat (first | exact LPut.nil _ | apply LPut.here | apply LPut.next)); (focus (first | exact oneCells1 rfl | assumption | exact oneCells1 (by assumption) | (simp [oneCells, Value.oneCell'] <;> done)))) | (refine Sts.row1 (by first | assumption | omega | (simp <;> omega)) (by first | rfl | assumption)) | apply Sts.next)) ?_)
        refine WpL.step (Stp.rd (Rdo.assign rfl) rfl ?_)
        refine WpL.nil ?_
        refine Thn.n ?_
        refine Wp.seq ?_
        refine Wp.seq ?_
        refine Wp.region ?_
        refine WpL.step (Stp.rd (Rdo.move rfl) rfl ?_)
        refine WpL.step (Stp.rd (Rdo.not rfl) rfl ?_)
        refine WpL.nil ?_
        refine Thn.n ?_
        refine Wp.condT rfl ?_
        refine Wp.seq ?_
        refine Wp.region ?_
        refine WpL.step (Stp.rd (Rdo.move rfl) rfl ?_)
        refine WpL.step (Stp.rd (Rdo.eqi rfl rfl) rfl ?_)
        refine WpL.step (Stp.rd (Rdo.move rfl) rfl ?_)
        refine WpL.want rfl rfl rfl (Stp.call (known_ok) (by kernel_rfl) rfl (by repeat (first | exact Tk.nil | apply Tk.cons (by repeat (first | exact Pk.here | apply Pk.next)))) rfl ?_)
        rintro _ _ rfl
        refine WpL.step (Stp.rd (Rdo.pick_t rfl rfl) rfl ?_)
        refine WpL.step (Stp.rd (Rdo.assign rfl) rfl ?_)
        refine WpL.nil ?_
        refine Thn.n ?_
        refine Wp.ret ?_
        refine Thn.r ?_
        refine Ret.now (ResV.tmp rfl ResV.nil) (Gh.tk (by repeat (first | exact Tk.nil | apply Tk.cons (by repeat (first | exact Pk.here | apply Pk.next))))) rfl
      · have hg : (CliS.new number name).good := ⟨a1, a2, by intro h0; have h0' : name = [] := h0; rw [h0'] at a3; simp at a3, a4, fun b hb => List.all_eq_true.1 hs b hb⟩
        obtain ⟨k1, k2, k3, k4, o3, e3, e4, r4, s1, s2, s3, s4, hor⟩ := bounds_good number part name hg
        rcases hor with ⟨⟨p1, p2⟩, rfl, rfl⟩ | ⟨hp, rfl, rfl⟩
        · refine Wp.seq ?_
          refine Wp.seq ?_
          refine Wp.region ?_
          refine WpL.step (Stp.rd (Rdo.move rfl) rfl ?_)
          refine WpL.step (Stp.rd (Rdo.move rfl) rfl ?_)
          refine WpL.step (Stp.rd (Rdo.lenVs rfl) rfl ?_)
          refine WpL.step (Stp.rd (Rdo.lti rfl rfl) rfl ?_)
          refine WpL.nil ?_
          refine Thn.n ?_
          refine Wp.condL rfl (by first | rfl | assumption | (simp only [decide_eq_true_eq, decide_eq_false_iff_not, Bool.not_eq_true', Bool.not_eq_false', List.length_cons, List.length_nil]; first | assumption | omega) | (simp <;> done) | (simp <;> omega)) ?_
          refine Wp.exit ?_
          refine Thn.x ?_
          refine Thn.x ?_
          refine Blk.here ?_
          refine Thn.n ?_
          refine Wp.seq ?_
          refine Wp.region ?_
          refine WpL.step (Stp.rd (Rdo.move rfl) rfl ?_)
          refine WpL.step (Stp.call (s1 _) (by kernel_rfl) rfl (by repeat (first | exact Tk.nil | apply Tk.cons (by repeat (first | exact Pk.here | apply Pk.next)))) rfl ?_)
          rintro _ _ ⟨rfl, rfl⟩
          refine WpL.lst (by simp only [List.cons_append, List.nil_append]; exact rfl) ?_
          refine WpL.step (Stp.rd (Rdo.move rfl) rfl ?_)
          refine WpL.step (Stp.rd (Rdo.extract rfl rfl) rfl ?_)
          refine WpL.step (Stp.rd (Rdo.extract rfl rfl) rfl ?_)
          (refine WpL.step (Stp.alloc rfl ?_); intro nb24)
          refine WpL.step (Stp.storeV rfl rfl (VC.ag _) (by first | rfl | assumption | (simp <;> done)) (by repeat (first | (apply Sts.all; (focus (first | rfl | assumption | (simp <;> done))); (focus (first | exact oneCells1 rfl | assumption | exact oneCells1 (by assumption) | (simp [oneCells, Value.oneCell'] <;> done)))) | (apply Sts.lp (by repeat (first | exact LPut.nil _ | apply LPut.here | apply LPut.next)); (focus (first | exact oneCells1 rfl | assumption | exact oneCells1 (by assumption) | (simp [oneCells, Value.oneCell'] <;> done)))) | (refine Sts.row1 (by first | assumption | omega | (simp <;> omega)) (by first | rfl | assumption)) | apply Sts.next)) ?_)
          refine WpL.step (Stp.rd (Rdo.assign rfl) rfl ?_)
          refine WpL.nil ?_
          refine Thn.n ?_
          refine Wp.seq ?_
          refine Wp.seq ?_
          refine Wp.region ?_
          refine WpL.step (Stp.rd (Rdo.move rfl) rfl ?_)
          refine WpL.step (Stp.rd (Rdo.not rfl) rfl ?_)
          refine WpL.nil ?_
          refine Thn.n ?_
          refine Wp.condF rfl ?_
          refine Wp.skip ?_
          refine Thn.n ?_
          refine Wp.seq ?_
          refine Wp.region ?_
          refine WpL.step (Stp.rd (Rdo.move rfl) rfl ?_)
          refine WpL.step (Stp.rd (Rdo.fieldAddr0 rfl) rfl ?_)
          refine WpL.step (Stp.rd (Rdo.load rfl (Lds.one rfl)) rfl ?_)
          refine WpL.step (Stp.rd (Rdo.bld rfl (BldL.nil _)) rfl ?_)
          refine WpL.step (Stp.call (s2 _) (by kernel_rfl) rfl (by repeat (first | exact Tk.nil | apply Tk.cons (by repeat (first | exact Pk.here | apply Pk.next)))) rfl ?_)
          rintro _ _ ⟨rfl, rfl⟩
          refine WpL.lst (by simp only [List.cons_append, List.nil_append]; exact rfl) ?_
          refine WpL.nil ?_
          refine Thn.n ?_
          refine Wp.seq ?_
          refine Wp.region ?_
          refine WpL.step (Stp.rd (Rdo.move rfl) rfl ?_)
          refine WpL.step (Stp.rd (Rdo.move rfl) rfl ?_)
          refine WpL.step (Stp.call (s3 _) (by kernel_rfl) rfl (by repeat (first | exact Tk.nil | apply Tk.cons (by repeat (first | exact Pk.here | apply Pk.next)))) rfl ?_)
          rintro _ _ ⟨rfl, rfl⟩
          refine WpL.lst (by simp only [List.cons_append, List.nil_append]; exact rfl) ?_
          refine WpL.step (Stp.rd (Rdo.move rfl) rfl ?_)
          refine WpL.step (Stp.rd (Rdo.extract rfl rfl) rfl ?_)
          refine WpL.step (Stp.rd (Rdo.extract rfl rfl) rfl ?_)
          (refine WpL.step (Stp.alloc rfl ?_); intro nb60)
          refine WpL.step (Stp.storeV rfl rfl (VC.ag _) (by first | rfl | assumption | (simp <;> done)) (by repeat (first | (apply Sts.all; (focus (first | rfl | assumption | (simp <;> done))); (focus (first | exact oneCells1 rfl | assumption | exact oneCells1 (by assumption) | (simp [oneCells, Value.oneCell'] <;> done)))) | (apply Sts.lp (by repeat (first | exact LPut.nil _ | apply LPut.here | apply LPut.next)); (focus (first | exact oneCells1 rfl | assumption | exact oneCells1 (by assumption) | (simp [oneCells, Value.oneCell'] <;> done)))) | (refine Sts.row1 (by first | assumption | omega | (simp <;> omega)) (by first | rfl | assumption)) | apply Sts.next)) ?_)
          refine WpL.step (Stp.rd (Rdo.assign rfl) rfl ?_)
          refine WpL.nil ?_
          refine Thn.n ?_
          refine Wp.seq ?_
          refine Wp.region ?_
          refine WpL.step (Stp.rd (Rdo.move rfl) rfl ?_)
          refine WpL.step (Stp.rd (Rdo.move rfl) rfl ?_)
          refine WpL.step (Stp.call (s4 _) (by kernel_rfl) rfl (by repeat (first | exact Tk.nil | apply Tk.cons (by repeat (first | exact Pk.here | apply Pk.next)))) rfl ?_)
          rintro _ _ ⟨v70_0, ⟨v70_1, ⟨rfl, rfl⟩⟩⟩
          refine WpL.lst (by simp only [List.cons_append, List.nil_append]; exact rfl) ?_
          refine WpL.step (Stp.rd (Rdo.move rfl) rfl ?_)
          refine WpL.step (Stp.rd (Rdo.extract rfl rfl) rfl ?_)
          refine WpL.step (Stp.rd (Rdo.extract rfl rfl) rfl ?_)
          (refine WpL.step (Stp.alloc rfl ?_); intro nb75)
          refine WpL.step (Stp.storeV rfl rfl (VC.ag _) (by first | rfl | assumption | (simp <;> done)) (by repeat (first | (apply Sts.all; (focus (first | rfl | assumption | (simp <;> done))); (focus (first | exact oneCells1 rfl | assumption | exact oneCells1 (by assumption) | (simp [oneCells, Value.oneCell'] <;> done)))) | (apply Sts.lp (by repeat (first | exact LPut.nil _ | apply LPut.here | apply LPut.next)); (focus (first | exact oneCells1 rfl | assumption | exact oneCells1 (by assumption) | (simp [oneCells, Value.oneCell'] <;> done)))) | (refine Sts.row1 (by first | assumption | omega | (simp <;> omega)) (by first | rfl | assumption)) | apply Sts.next)) ?_)
          refine WpL.step (Stp.rd (Rdo.assign rfl) rfl ?_)
          refine WpL.nil ?_
          refine Thn.n ?_
          refine Wp.seq ?_
          refine Wp.region ?_
          refine WpL.step (Stp.rd (Rdo.move rfl) rfl ?_)
          refine WpL.step (Stp.rd (Rdo.gei rfl rfl) rfl ?_)
          refine WpL.step (Stp.rd (Rdo.move rfl) rfl ?_)
          refine WpL.gT rfl rfl (by first | rfl | assumption | (simp only [decide_eq_true_eq, decide_eq_false_iff_not, Bool.not_eq_true', Bool.not_eq_false', List.length_cons, List.length_nil]; first | assumption | omega) | (simp <;> done) | (simp <;> omega)) ?_
          refine WpL.want rfl rfl rfl (Stp.rd (Rdo.move rfl) rfl ?_)
          refine WpL.want rfl rfl rfl (Stp.rd (Rdo.lei rfl rfl) rfl ?_)
          refine WpL.step (Stp.rd (Rdo.pick_t rfl rfl) rfl ?_)
          refine WpL.step (Stp.rd (Rdo.assign rfl) rfl ?_)
          refine WpL.nil ?_
          refine Thn.n ?_
          refine Wp.seq ?_
          refine Wp.region ?_
          refine WpL.step (Stp.rd (Rdo.move rfl) rfl ?_)
          refine WpL.step (Stp.rd (Rdo.eqi rfl rfl) rfl ?_)
          refine WpL.step (Stp.rd (Rdo.move rfl) rfl ?_)
          refine WpL.want rfl rfl rfl (Stp.rd (Rdo.move rfl) rfl ?_)
          refine WpL.want rfl rfl rfl (Stp.rd (Rdo.eqi rfl rfl) rfl ?_)
          refine WpL.want rfl rfl rfl (Stp.rd (Rdo.move rfl) rfl ?_)
          refine WpL.want rfl rfl rfl (Stp.rd (Rdo.eqb rfl rfl) rfl ?_)
          refine WpL.step (Stp.rd (Rdo.pick_t rfl rfl) rfl ?_)
          refine WpL.step (Stp.rd (Rdo.move rfl) rfl ?_)
          refine WpL.gT rfl rfl (by first | rfl | assumption | (simp only [decide_eq_true_eq, decide_eq_false_iff_not, Bool.not_eq_true', Bool.not_eq_false', List.length_cons, List.length_nil]; first | assumption | omega) | (simp <;> done) | (simp <;> omega)) ?_
          refine WpL.want rfl rfl rfl (Stp.rd (Rdo.move rfl) rfl ?_)
          refine WpL.want rfl rfl rfl (Stp.rd (Rdo.move rfl) rfl ?_)
          refine WpL.gT rfl rfl (by first | rfl | assumption | (simp only [decide_eq_true_eq, decide_eq_false_iff_not, Bool.not_eq_true', Bool.not_eq_false', List.length_cons, List.length_nil]; first | assumption | omega) | (simp <;> done) | (simp <;> omega)) ?_
          refine WpL.pass rfl rfl rfl rfl ?_
          refine WpL.pass rfl rfl rfl rfl ?_
          refine WpL.want rfl rfl rfl (Stp.rd (Rdo.pick_t rfl rfl) rfl ?_)
          refine WpL.step (Stp.rd (Rdo.pick_t rfl rfl) rfl ?_)
          refine WpL.step (Stp.rd (Rdo.move rfl) rfl ?_)
          refine WpL.want rfl rfl rfl (Stp.rd (Rdo.move rfl) rfl ?_)
          refine WpL.want rfl rfl rfl (Stp.rd (Rdo.eqi rfl rfl) rfl ?_)
          refine WpL.want rfl rfl rfl (Stp.rd (Rdo.move rfl) rfl ?_)
          refine WpL.want rfl rfl rfl (Stp.rd (Rdo.eqb rfl rfl) rfl ?_)
          refine WpL.step (Stp.rd (Rdo.pick_t rfl rfl) rfl ?_)
          refine WpL.step (Stp.rd (Rdo.move rfl) rfl ?_)
          refine WpL.gT rfl rfl (by first | rfl | assumption | (simp only [decide_eq_true_eq, decide_eq_false_iff_not, Bool.not_eq_true', Bool.not_eq_false', List.length_cons, List.length_nil]; first | assumption | omega) | (simp <;> done) | (simp <;> omega)) ?_
          refine WpL.want rfl rfl rfl (Stp.rd (Rdo.move rfl) rfl ?_)
          refine WpL.want rfl rfl rfl (Stp.rd (Rdo.move rfl) rfl ?_)
          refine WpL.gT rfl rfl (by first | rfl | assumption | (simp only [decide_eq_true_eq, decide_eq_false_iff_not, Bool.not_eq_true', Bool.not_eq_false', List.length_cons, List.length_nil]; first | assumption | omega) | (simp <;> done) | (simp <;> omega)) ?_
          refine WpL.pass rfl rfl rfl rfl ?_
          refine WpL.pass rfl rfl rfl rfl ?_
          refine WpL.want rfl rfl rfl (Stp.rd (Rdo.pick_t rfl rfl) rfl ?_)
          refine WpL.step (Stp.rd (Rdo.pick_t rfl rfl) rfl ?_)
          refine WpL.step (Stp.rd (Rdo.move rfl) rfl ?_)
          refine WpL.want rfl rfl rfl (Stp.call (known_ok) (by kernel_rfl) rfl (by repeat (first | exact Tk.nil | apply Tk.cons (by repeat (first | exact Pk.here | apply Pk.next)))) rfl ?_)
          rintro _ _ rfl
          refine WpL.step (Stp.rd (Rdo.pick_t rfl rfl) rfl ?_)
          refine WpL.step (Stp.rd (Rdo.assign rfl) rfl ?_)
          refine WpL.nil ?_
          refine Thn.n ?_
          refine Wp.ret ?_
          refine Ret.now (ResV.tmp rfl ResV.nil) (Gh.tk (by repeat (first | exact Tk.nil | apply Tk.cons (by repeat (first | exact Pk.here | apply Pk.next))))) rfl
        · by_cases p1 : 0 ≤ part
          · have p2 : ¬ part ≤ 3 := fun h => hp ⟨p1, h⟩
            refine Wp.seq ?_
            refine Wp.seq ?_
            refine Wp.region ?_
            refine WpL.step (Stp.rd (Rdo.move rfl) rfl ?_)
            refine WpL.step (Stp.rd (Rdo.move rfl) rfl ?_)
            refine WpL.step (Stp.rd (Rdo.lenVs rfl) rfl ?_)
            refine WpL.step (Stp.rd (Rdo.lti rfl rfl) rfl ?_)
            refine WpL.nil ?_
            refine Thn.n ?_
            refine Wp.condL rfl (by first | rfl | assumption | (simp only [decide_eq_true_eq, decide_eq_false_iff_not, Bool.not_eq_true', Bool.not_eq_false', List.length_cons, List.length_nil]; first | assumption | omega) | (simp <;> done) | (simp <;> omega)) ?_
            refine Wp.exit ?_
            refine Thn.x ?_
            refine Thn.x ?_
            refine Blk.here ?_
            refine Thn.n ?_
            refine Wp.seq ?_
            refine Wp.region ?_
            refine WpL.step (Stp.rd (Rdo.move rfl) rfl ?_)
            refine WpL.step (Stp.call (s1 _) (by kernel_rfl) rfl (by repeat (first | exact Tk.nil | apply Tk.cons (by repeat (first | exact Pk.here | apply Pk.next)))) rfl ?_)
            rintro _ _ ⟨rfl, rfl⟩
            refine WpL.lst (by simp only [List.cons_append, List.nil_append]; exact rfl) ?_
            refine WpL.step (Stp.rd (Rdo.move rfl) rfl ?_)
            refine WpL.step (Stp.rd (Rdo.extract rfl rfl) rfl ?_)
            refine WpL.step (Stp.rd (Rdo.extract rfl rfl) rfl ?_)
            (refine WpL.step (Stp.alloc rfl ?_); intro nb24)
            refine WpL.step (Stp.storeV rfl rfl (VC.ag _) (by first | rfl | assumption | (simp <;> done)) (by repeat (first | (apply Sts.all; (focus (first | rfl | assumption | (simp <;> done))); (focus (first | exact oneCells1 rfl | assumption | exact oneCells1 (by assumption) | (simp [oneCells, Value.oneCell'] <;> done)))) | (apply Sts.lp (by repeat (first | exact LPut.nil _ | apply LPut.here | apply LPut.next)); (focus (first | exact oneCells1 rfl | assumption | exact oneCells1 (by assumption) | (simp [oneCells, Value.oneCell'] <;> done)))) | (refine Sts.row1 (by first | assumption | omega | (simp <;> omega)) (by first | rfl | assumption)) | apply Sts.next)) ?_)
            refine WpL.step (Stp.rd (Rdo.assign rfl) rfl ?_)
            refine WpL.nil ?_
            refine Thn.n ?_
            refine Wp.seq ?_
            refine Wp.seq ?_
            refine Wp.region ?_
            refine WpL.step (Stp.rd (Rdo.move rfl) rfl ?_)
            refine WpL.step (Stp.rd (Rdo.not rfl) rfl ?_)
            refine WpL.nil ?_
            refine Thn.n ?_
            refine Wp.condF rfl ?_
            refine Wp.skip ?_
            refine Thn.n ?_
            refine Wp.seq ?_
            refine Wp.region ?_
            refine WpL.step (Stp.rd (Rdo.move rfl) rfl ?_)
            refine WpL.step (Stp.rd (Rdo.fieldAddr0 rfl) rfl ?_)
            refine WpL.step (Stp.rd (Rdo.load rfl (Lds.one rfl)) rfl ?_)
            refine WpL.step (Stp.rd (Rdo.bld rfl (BldL.nil _)) rfl ?_)
            refine WpL.step (Stp.call (s2 _) (by kernel_rfl) rfl (by repeat (first | exact Tk.nil | apply Tk.cons (by repeat (first | exact Pk.here | apply Pk.next)))) rfl ?_)
            rintro _ _ ⟨rfl, rfl⟩
            refine WpL.lst (by simp only [List.cons_append, List.nil_append]; exact rfl) ?_
            refine WpL.nil ?_
            refine Thn.n ?_
            refine Wp.seq ?_
            refine Wp.region ?_
            refine WpL.step (Stp.rd (Rdo.move rfl) rfl ?_)
            refine WpL.step (Stp.rd (Rdo.move rfl) rfl ?_)
            refine WpL.step (Stp.call (s3 _) (by kernel_rfl) rfl (by repeat (first | exact Tk.nil | apply Tk.cons (by repeat (first | exact Pk.here | apply Pk.next)))) rfl ?_)
            rintro _ _ ⟨rfl, rfl⟩
            refine WpL.lst (by simp only [List.cons_append, List.nil_append]; exact rfl) ?_
            refine WpL.step (Stp.rd (Rdo.move rfl) rfl ?_)
            refine WpL.step (Stp.rd (Rdo.extract rfl rfl) rfl ?_)
            refine WpL.step (Stp.rd (Rdo.extract rfl rfl) rfl ?_)
            (refine WpL.step (Stp.alloc rfl ?_); intro nb60)
            refine WpL.step (Stp.storeV rfl rfl (VC.ag _) (by first | rfl | assumption | (simp <;> done)) (by repeat (first | (apply Sts.all; (focus (first | rfl | assumption | (simp <;> done))); (focus (first | exact oneCells1 rfl | assumption | exact oneCells1 (by assumption) | (simp [oneCells, Value.oneCell'] <;> done)))) | (apply Sts.lp (by repeat (first | exact LPut.nil _ | apply LPut.here | apply LPut.next)); (focus (first | exact oneCells1 rfl | assumption | exact oneCells1 (by assumption) | (simp [oneCells, Value.oneCell'] <;> done)))) | (refine Sts.row1 (by first | assumption | omega | (simp <;> omega)) (by first | rfl | assumption)) | apply Sts.next)) ?_)
            refine WpL.step (Stp.rd (Rdo.assign rfl) rfl ?_)
            refine WpL.nil ?_
            refine Thn.n ?_
            refine Wp.seq ?_
            refine Wp.region ?_
            refine WpL.step (Stp.rd (Rdo.move rfl) rfl ?_)
            refine WpL.step (Stp.rd (Rdo.move rfl) rfl ?_)
            refine WpL.step (Stp.call (s4 _) (by kernel_rfl) rfl (by repeat (first | exact Tk.nil | apply Tk.cons (by repeat (first | exact Pk.here | apply Pk.next)))) rfl ?_)
            rintro _ _ ⟨v70_0, ⟨v70_1, ⟨rfl, rfl⟩⟩⟩
            refine WpL.lst (by simp only [List.cons_append, List.nil_append]; exact rfl) ?_
            refine WpL.step (Stp.rd (Rdo.move rfl) rfl ?_)
            refine WpL.step (Stp.rd (Rdo.extract rfl rfl) rfl ?_)
            refine WpL.step (Stp.rd (Rdo.extract rfl rfl) rfl ?_)
            (refine WpL.step (Stp.alloc rfl ?_); intro nb75)
            refine WpL.step (Stp.storeV rfl rfl (VC.ag _) (by first | rfl | assumption | (simp <;> done)) (by repeat (first | (apply Sts.all; (focus (first | rfl | assumption | (simp <;> done))); (focus (first | exact oneCells1 rfl | assumption | exact oneCells1 (by assumption) | (simp [oneCells, Value.oneCell'] <;> done)))) | (apply Sts.lp (by repeat (first | exact LPut.nil _ | apply LPut.here | apply LPut.next)); (focus (first | exact oneCells1 rfl | assumption | exact oneCells1 (by assumption) | (simp [oneCells, Value.oneCell'] <;> done)))) | (refine Sts.row1 (by first | assumption | omega | (simp <;> omega)) (by first | rfl | assumption)) | apply Sts.next)) ?_)
            refine WpL.step (Stp.rd (Rdo.assign rfl) rfl ?_)
            refine WpL.nil ?_
            refine Thn.n ?_
            refine Wp.seq ?_
            refine Wp.region ?_
            refine WpL.step (Stp.rd (Rdo.move rfl) rfl ?_)
            refine WpL.step (Stp.rd (Rdo.gei rfl rfl) rfl ?_)
            refine WpL.step (Stp.rd (Rdo.move rfl) rfl ?_)
            refine WpL.gT rfl rfl (by first | rfl | assumption | (simp only [decide_eq_true_eq, decide_eq_false_iff_not, Bool.not_eq_true', Bool.not_eq_false', List.length_cons, List.length_nil]; first | assumption | omega) | (simp <;> done) | (simp <;> omega)) ?_
            refine WpL.want rfl rfl rfl (Stp.rd (Rdo.move rfl) rfl ?_)
            refine WpL.want rfl rfl rfl (Stp.rd (Rdo.lei rfl rfl) rfl ?_)
            refine WpL.step (Stp.rd (Rdo.pick_t rfl rfl) rfl ?_)
            refine WpL.step (Stp.rd (Rdo.assign rfl) rfl ?_)
            refine WpL.nil ?_
            refine Thn.n ?_
            refine Wp.seq ?_
            refine Wp.region ?_
            refine WpL.step (Stp.rd (Rdo.move rfl) rfl ?_)
            refine WpL.step (Stp.rd (Rdo.eqi rfl rfl) rfl ?_)
            refine WpL.step (Stp.rd (Rdo.move rfl) rfl ?_)
            refine WpL.want rfl rfl rfl (Stp.rd (Rdo.move rfl) rfl ?_)
            refine WpL.want rfl rfl rfl (Stp.rd (Rdo.eqi rfl rfl) rfl ?_)
            refine WpL.want rfl rfl rfl (Stp.rd (Rdo.move rfl) rfl ?_)
            refine WpL.want rfl rfl rfl (Stp.rd (Rdo.eqb rfl rfl) rfl ?_)
            refine WpL.step (Stp.rd (Rdo.pick_t rfl rfl) rfl ?_)
            refine WpL.step (Stp.rd (Rdo.move rfl) rfl ?_)
            refine WpL.gT rfl rfl (by first | rfl | assumption | (simp only [decide_eq_true_eq, decide_eq_false_iff_not, Bool.not_eq_true', Bool.not_eq_false', List.length_cons, List.length_nil]; first | assumption | omega) | (simp <;> done) | (simp <;> omega)) ?_
            refine WpL.want rfl rfl rfl (Stp.rd (Rdo.move rfl) rfl ?_)
            refine WpL.want rfl rfl rfl (Stp.rd (Rdo.move rfl) rfl ?_)
            refine WpL.gF rfl rfl (by first | rfl | assumption | (simp only [decide_eq_true_eq, decide_eq_false_iff_not, Bool.not_eq_true', Bool.not_eq_false', List.length_cons, List.length_nil]; first | assumption | omega) | (simp <;> done) | (simp <;> omega)) ?_
            refine WpL.want rfl rfl rfl (Stp.rd (Rdo.move rfl) rfl ?_)
            refine WpL.want rfl rfl rfl (Stp.rd (Rdo.eqi rfl rfl) rfl ?_)
            refine WpL.want rfl rfl rfl (Stp.rd (Rdo.pick_f rfl rfl) rfl ?_)
            refine WpL.step (Stp.rd (Rdo.pick_t rfl rfl) rfl ?_)
            refine WpL.step (Stp.rd (Rdo.move rfl) rfl ?_)
            refine WpL.want rfl rfl rfl (Stp.rd (Rdo.move rfl) rfl ?_)
            refine WpL.want rfl rfl rfl (Stp.rd (Rdo.eqi rfl rfl) rfl ?_)
            refine WpL.want rfl rfl rfl (Stp.rd (Rdo.move rfl) rfl ?_)
            refine WpL.want rfl rfl rfl (Stp.rd (Rdo.eqb rfl rfl) rfl ?_)
            refine WpL.step (Stp.rd (Rdo.pick_t rfl rfl) rfl ?_)
            refine WpL.step (Stp.rd (Rdo.move rfl) rfl ?_)
            refine WpL.gT rfl rfl (by first | rfl | assumption | (simp only [decide_eq_true_eq, decide_eq_false_iff_not, Bool.not_eq_true', Bool.not_eq_false', List.length_cons, List.length_nil]; first | assumption | omega) | (simp <;> done) | (simp <;> omega)) ?_
            refine WpL.want rfl rfl rfl (Stp.rd (Rdo.move rfl) rfl ?_)
            refine WpL.want rfl rfl rfl (Stp.rd (Rdo.move rfl) rfl ?_)
            refine WpL.gF rfl rfl (by first | rfl | assumption | (simp only [decide_eq_true_eq, decide_eq_false_iff_not, Bool.not_eq_true', Bool.not_eq_false', List.length_cons, List.length_nil]; first | assumption | omega) | (simp <;> done) | (simp <;> omega)) ?_
            refine WpL.want rfl rfl rfl (Stp.rd (Rdo.move rfl) rfl ?_)
            refine WpL.want rfl rfl rfl (Stp.rd (Rdo.eqi rfl rfl) rfl ?_)
            refine WpL.want rfl rfl rfl (Stp.rd (Rdo.pick_f rfl rfl) rfl ?_)
            refine WpL.step (Stp.rd (Rdo.pick_t rfl rfl) rfl ?_)
            refine WpL.step (Stp.rd (Rdo.move rfl) rfl ?_)
            refine WpL.want rfl rfl rfl (Stp.call (known_ok) (by kernel_rfl) rfl (by repeat (first | exact Tk.nil | apply Tk.cons (by repeat (first | exact Pk.here | apply Pk.next)))) rfl ?_)
            rintro _ _ rfl
            refine WpL.step (Stp.rd (Rdo.pick_t rfl rfl) rfl ?_)
            refine WpL.step (Stp.rd (Rdo.assign rfl) rfl ?_)
            refine WpL.nil ?_
            refine Thn.n ?_
            refine Wp.ret ?_
            refine Ret.now (ResV.tmp rfl ResV.nil) (Gh.tk (by repeat (first | exact Tk.nil | apply Tk.cons (by repeat (first | exact Pk.here | apply Pk.next))))) rfl
          · refine Wp.seq ?_
            refine Wp.seq ?_
            refine Wp.region ?_
            refine WpL.step (Stp.rd (Rdo.move rfl) rfl ?_)
            refine WpL.step (Stp.rd (Rdo.move rfl) rfl ?_)
            refine WpL.step (Stp.rd (Rdo.lenVs rfl) rfl ?_)
            refine WpL.step (Stp.rd (Rdo.lti rfl rfl) rfl ?_)
            refine WpL.nil ?_
            refine Thn.n ?_
            refine Wp.condL rfl (by first | rfl | assumption | (simp only [decide_eq_true_eq, decide_eq_false_iff_not, Bool.not_eq_true', Bool.not_eq_false', List.length_cons, List.length_nil]; first | assumption | omega) | (simp <;> done) | (simp <;> omega)) ?_
            refine Wp.exit ?_
            refine Thn.x ?_
            refine Thn.x ?_
            refine Blk.here ?_
            refine Thn.n ?_
            refine Wp.seq ?_
            refine Wp.region ?_
            refine WpL.step (Stp.rd (Rdo.move rfl) rfl ?_)
            refine WpL.step (Stp.call (s1 _) (by kernel_rfl) rfl (by repeat (first | exact Tk.nil | apply Tk.cons (by repeat (first | exact Pk.here | apply Pk.next)))) rfl ?_)
            rintro _ _ ⟨rfl, rfl⟩
            refine WpL.lst (by simp only [List.cons_append, List.nil_append]; exact rfl) ?_
            refine WpL.step (Stp.rd (Rdo.move rfl) rfl ?_)
            refine WpL.step (Stp.rd (Rdo.extract rfl rfl) rfl ?_)
            refine WpL.step (Stp.rd (Rdo.extract rfl rfl) rfl ?_)
            (refine WpL.step (Stp.alloc rfl ?_); intro nb24)
            refine WpL.step (Stp.storeV rfl rfl (VC.ag _) (by first | rfl | assumption | (simp <;> done)) (by repeat (first | (apply Sts.all; (focus (first | rfl | assumption | (simp <;> done))); (focus (first | exact oneCells1 rfl | assumption | exact oneCells1 (by assumption) | (simp [oneCells, Value.oneCell'] <;> done)))) | (apply Sts.lp (by repeat (first | exact LPut.nil _ | apply LPut.here | apply LPut.next)); (focus (first | exact oneCells1 rfl | assumption | exact oneCells1 (by assumption) | (simp [oneCells, Value.oneCell'] <;> done)))) | (refine Sts.row1 (by first | assumption | omega | (simp <;> omega)) (by first | rfl | assumption)) | apply Sts.next)) ?_)
            refine WpL.step (Stp.rd (Rdo.assign rfl) rfl ?_)
            refine WpL.nil ?_
            refine Thn.n ?_
            refine Wp.seq ?_
            refine Wp.seq ?_
            refine Wp.region ?_
            refine WpL.step (Stp.rd (Rdo.move rfl) rfl ?_)
            refine WpL.step (Stp.rd (Rdo.not rfl) rfl ?_)
            refine WpL.nil ?_
            refine Thn.n ?_
            refine Wp.condF rfl ?_
            refine Wp.skip ?_
            refine Thn.n ?_
            refine Wp.seq ?_
            refine Wp.region ?_
            refine WpL.step (Stp.rd (Rdo.move rfl) rfl ?_)
            refine WpL.step (Stp.rd (Rdo.fieldAddr0 rfl) rfl ?_)
            refine WpL.step (Stp.rd (Rdo.load rfl (Lds.one rfl)) rfl ?_)
            refine WpL.step (Stp.rd (Rdo.bld rfl (BldL.nil _)) rfl ?_)
            refine WpL.step (Stp.call (s2 _) (by kernel_rfl) rfl (by repeat (first | exact Tk.nil | apply Tk.cons (by repeat (first | exact Pk.here | apply Pk.next)))) rfl ?_)
            rintro _ _ ⟨rfl, rfl⟩
            refine WpL.lst (by simp only [List.cons_append, List.nil_append]; exact rfl) ?_
            refine WpL.nil ?_
            refine Thn.n ?_
            refine Wp.seq ?_
            refine Wp.region ?_
            refine WpL.step (Stp.rd (Rdo.move rfl) rfl ?_)
            refine WpL.step (Stp.rd (Rdo.move rfl) rfl ?_)
            refine WpL.step (Stp.call (s3 _) (by kernel_rfl) rfl (by repeat (first | exact Tk.nil | apply Tk.cons (by repeat (first | exact Pk.here | apply Pk.next)))) rfl ?_)
            rintro _ _ ⟨rfl, rfl⟩
            refine WpL.lst (by simp only [List.cons_append, List.nil_append]; exact rfl) ?_
            refine WpL.step (Stp.rd (Rdo.move rfl) rfl ?_)
            refine WpL.step (Stp.rd (Rdo.extract rfl rfl) rfl ?_)
            refine WpL.step (Stp.rd (Rdo.extract rfl rfl) rfl ?_)
            (refine WpL.step (Stp.alloc rfl ?_); intro nb60)
            refine WpL.step (Stp.storeV rfl rfl (VC.ag _) (by first | rfl | assumption | (simp <;> done)) (by repeat (first | (apply Sts.all; (focus (first | rfl | assumption | (simp <;> done))); (focus (first | exact oneCells1 rfl | assumption | exact oneCells1 (by assumption) | (simp [oneCells, Value.oneCell'] <;> done)))) | (apply Sts.lp (by repeat (first | exact LPut.nil _ | apply LPut.here | apply LPut.next)); (focus (first | exact oneCells1 rfl | assumption | exact oneCells1 (by assumption) | (simp [oneCells, Value.oneCell'] <;> done)))) | (refine Sts.row1 (by first | assumption | omega | (simp <;> omega)) (by first | rfl | assumption)) | apply Sts.next)) ?_)
            refine WpL.step (Stp.rd (Rdo.assign rfl) rfl ?_)
            refine WpL.nil ?_
            refine Thn.n ?_
            refine Wp.seq ?_
            refine Wp.region ?_
            refine WpL.step (Stp.rd (Rdo.move rfl) rfl ?_)
            refine WpL.step (Stp.rd (Rdo.move rfl) rfl ?_)
            refine WpL.step (Stp.call (s4 _) (by kernel_rfl) rfl (by repeat (first | exact Tk.nil | apply Tk.cons (by repeat (first | exact Pk.here | apply Pk.next)))) rfl ?_)
            rintro _ _ ⟨v70_0, ⟨v70_1, ⟨rfl, rfl⟩⟩⟩
            refine WpL.lst (by simp only [List.cons_append, List.nil_append]; exact rfl) ?_
            refine WpL.step (Stp.rd (Rdo.move rfl) rfl ?_)
            refine WpL.step (Stp.rd (Rdo.extract rfl rfl) rfl ?_)
            refine WpL.step (Stp.rd (Rdo.extract rfl rfl) rfl ?_)
            (refine WpL.step (Stp.alloc rfl ?_); intro nb75)
            refine WpL.step (Stp.storeV rfl rfl (VC.ag _) (by first | rfl | assumption | (simp <;> done)) (by repeat (first | (apply Sts.all; (focus (first | rfl | assumption | (simp <;> done))); (focus (first | exact oneCells1 rfl | assumption | exact oneCells1 (by assumption) | (simp [oneCells, Value.oneCell'] <;> done)))) | (apply Sts.lp (by repeat (first | exact LPut.nil _ | apply LPut.here | apply LPut.next)); (focus (first | exact oneCells1 rfl | assumption | exact oneCells1 (by assumption) | (simp [oneCells, Value.oneCell'] <;> done)))) | (refine Sts.row1 (by first | assumption | omega | (simp <;> omega)) (by first | rfl | assumption)) | apply Sts.next)) ?_)
            refine WpL.step (Stp.rd (Rdo.assign rfl) rfl ?_)
            refine WpL.nil ?_
            refine Thn.n ?_
            refine Wp.seq ?_
            refine Wp.region ?_
            refine WpL.step (Stp.rd (Rdo.move rfl) rfl ?_)
            refine WpL.step (Stp.rd (Rdo.gei rfl rfl) rfl ?_)
            refine WpL.step (Stp.rd (Rdo.move rfl) rfl ?_)
            refine WpL.gF rfl rfl (by first | rfl | assumption | (simp only [decide_eq_true_eq, decide_eq_false_iff_not, Bool.not_eq_true', Bool.not_eq_false', List.length_cons, List.length_nil]; first | assumption | omega) | (simp <;> done) | (simp <;> omega)) ?_
            refine WpL.pass rfl rfl rfl rfl ?_
            refine WpL.pass rfl rfl rfl rfl ?_
            refine WpL.step (Stp.rd (Rdo.pick_f rfl rfl) rfl ?_)
            refine WpL.step (Stp.rd (Rdo.assign rfl) rfl ?_)
            refine WpL.nil ?_
            refine Thn.n ?_
            refine Wp.seq ?_
            refine Wp.region ?_
            refine WpL.step (Stp.rd (Rdo.move rfl) rfl ?_)
            refine WpL.step (Stp.rd (Rdo.eqi rfl rfl) rfl ?_)
            refine WpL.step (Stp.rd (Rdo.move rfl) rfl ?_)
            refine WpL.want rfl rfl rfl (Stp.rd (Rdo.move rfl) rfl ?_)
            refine WpL.want rfl rfl rfl (Stp.rd (Rdo.eqi rfl rfl) rfl ?_)
            refine WpL.want rfl rfl rfl (Stp.rd (Rdo.move rfl) rfl ?_)
            refine WpL.want rfl rfl rfl (Stp.rd (Rdo.eqb rfl rfl) rfl ?_)
            refine WpL.step (Stp.rd (Rdo.pick_t rfl rfl) rfl ?_)
            refine WpL.step (Stp.rd (Rdo.move rfl) rfl ?_)
            refine WpL.want rfl rfl rfl (Stp.rd (Rdo.move rfl) rfl ?_)
            refine WpL.want rfl rfl rfl (Stp.rd (Rdo.move rfl) rfl ?_)
            refine WpL.want rfl rfl rfl (Stp.rd (Rdo.move rfl) rfl ?_)
            refine WpL.want rfl rfl rfl (Stp.rd (Rdo.eqi rfl rfl) rfl ?_)
            refine WpL.want rfl rfl rfl (Stp.rd (Rdo.pick_f rfl rfl) rfl ?_)
            refine WpL.step (Stp.rd (Rdo.pick_t rfl rfl) rfl ?_)
            refine WpL.step (Stp.rd (Rdo.move rfl) rfl ?_)
            refine WpL.want rfl rfl rfl (Stp.rd (Rdo.move rfl) rfl ?_)
            refine WpL.want rfl rfl rfl (Stp.rd (Rdo.eqi rfl rfl) rfl ?_)
            refine WpL.want rfl rfl rfl (Stp.rd (Rdo.move rfl) rfl ?_)
            refine WpL.want rfl rfl rfl (Stp.rd (Rdo.eqb rfl rfl) rfl ?_)
            refine WpL.step (Stp.rd (Rdo.pick_t rfl rfl) rfl ?_)
            refine WpL.step (Stp.rd (Rdo.move rfl) rfl ?_)
            refine WpL.want rfl rfl rfl (Stp.rd (Rdo.move rfl) rfl ?_)
            refine WpL.want rfl rfl rfl (Stp.rd (Rdo.move rfl) rfl ?_)
            refine WpL.want rfl rfl rfl (Stp.rd (Rdo.move rfl) rfl ?_)
            refine WpL.want rfl rfl rfl (Stp.rd (Rdo.eqi rfl rfl) rfl ?_)
            refine WpL.want rfl rfl rfl (Stp.rd (Rdo.pick_f rfl rfl) rfl ?_)
            refine WpL.step (Stp.rd (Rdo.pick_t rfl rfl) rfl ?_)
            refine WpL.step (Stp.rd (Rdo.move rfl) rfl ?_)
            refine WpL.want rfl rfl rfl (Stp.call (known_ok) (by kernel_rfl) rfl (by repeat (first | exact Tk.nil | apply Tk.cons (by repeat (first | exact Pk.here | apply Pk.next)))) rfl ?_)
            rintro _ _ rfl
            refine WpL.step (Stp.rd (Rdo.pick_t rfl rfl) rfl ?_)
            refine WpL.step (Stp.rd (Rdo.assign rfl) rfl ?_)
            refine WpL.nil ?_
            refine Thn.n ?_
            refine Wp.ret ?_
            refine Ret.now (ResV.tmp rfl ResV.nil) (Gh.tk (by repeat (first | exact Tk.nil | apply Tk.cons (by repeat (first | exact Pk.here | apply Pk.next))))) rfl
  · have hng : ¬ (CliS.new number name).good := fun hg => hA (by
      obtain ⟨g1, g2, g3, g4, _⟩ := hg
      have g3' : name ≠ [] := g3
      have g4' : name.length ≤ 8 := g4
      refine ⟨g1, g2, ?_, g4'⟩
      rcases name with _ | ⟨x, l⟩
      · exact absurd rfl g3'
      · simp)
    have sb := init_bad number name hl60 hng
    by_cases b1 : 0 ≤ number
    · by_cases b2 : number ≤ 15
      · by_cases b3 : (1 : Int) ≤ (name.length : Int)
        · have b4 : ¬ (name.length : Int) ≤ 8 := fun h => hA ⟨b1, b2, by omega, by omega⟩
          refine Trip.of_body Tryd.func4 rfl Tryd.ntmps4 Tryd.results4 rfl ?_
          refine Wp.seq ?_
          refine Wp.region ?_
          refine WpL.step (Stp.rd (Rdo.assign rfl) rfl ?_)
          refine WpL.nil ?_
          refine Thn.n ?_
          refine Wp.seq ?_
          refine Wp.seq ?_
          refine Wp.region ?_
          refine WpL.step (Stp.rd (Rdo.move rfl) rfl ?_)
          refine WpL.step (Stp.rd (Rdo.lenVs rfl) rfl ?_)
          refine WpL.step (Stp.rd (Rdo.gti rfl rfl) rfl ?_)
          refine WpL.nil ?_
          refine Thn.n ?_
          refine Wp.condL rfl (by first | rfl | assumption | (simp only [decide_eq_true_eq, decide_eq_false_iff_not, Bool.not_eq_true', Bool.not_eq_false', List.length_cons, List.length_nil]; first | assumption | omega) | (simp <;> done) | (simp <;> omega)) ?_
          refine Wp.skip ?_
          refine Thn.n ?_
          refine Wp.seq ?_
          refine Wp.region ?_
          refine WpL.step (Stp.rd (Rdo.move rfl) rfl ?_)
          refine WpL.step (Stp.rd (Rdo.move rfl) rfl ?_)
          refine WpL.step (Stp.call (new_ok _ _) (by kernel_rfl) rfl (by repeat (first | exact Tk.nil | apply Tk.cons (by repeat (first | exact Pk.here | apply Pk.next)))) rfl ?_)
          rintro _ _ ⟨v21_0, ⟨rfl, rfl⟩⟩
          refine WpL.lst (by simp only [List.cons_append, List.nil_append]; exact rfl) ?_
          refine WpL.step (Stp.rd (Rdo.assign rfl) rfl ?_)
          refine WpL.nil ?_
          refine Thn.n ?_
          refine Wp.seq ?_
          refine Wp.seq ?_
          refine Wp.region ?_
          refine WpL.step (Stp.rd (Rdo.move rfl) rfl ?_)
          refine WpL.step (Stp.rd (Rdo.eqnil rfl rfl) rfl ?_)
          refine WpL.nil ?_
          refine Thn.n ?_
          refine Wp.condF rfl ?_
          refine Wp.skip ?_
          refine Thn.n ?_
          refine Wp.seq ?_
          refine Wp.region ?_
          refine WpL.step (Stp.rd (Rdo.move rfl) rfl ?_)
          refine WpL.step (Stp.rd (Rdo.gei rfl rfl) rfl ?_)
          refine WpL.step (Stp.rd (Rdo.move rfl) rfl ?_)
          refine WpL.gT rfl rfl (by first | rfl | assumption | (simp only [decide_eq_true_eq, decide_eq_false_iff_not, Bool.not_eq_true', Bool.not_eq_false', List.length_cons, List.length_nil]; first | assumption | omega) | (simp <;> done) | (simp <;> omega)) ?_
          refine WpL.want rfl rfl rfl (Stp.rd (Rdo.move rfl) rfl ?_)
          refine WpL.want rfl rfl rfl (Stp.rd (Rdo.lei rfl rfl) rfl ?_)
          refine WpL.step (Stp.rd (Rdo.pick_t rfl rfl) rfl ?_)
          refine WpL.step (Stp.rd (Rdo.move rfl) rfl ?_)
          refine WpL.gT rfl rfl (by first | rfl | assumption | (simp only [decide_eq_true_eq, decide_eq_false_iff_not, Bool.not_eq_true', Bool.not_eq_false', List.length_cons, List.length_nil]; first | assumption | omega) | (simp <;> done) | (simp <;> omega)) ?_
          refine WpL.want rfl rfl rfl (Stp.rd (Rdo.move rfl) rfl ?_)
          refine WpL.want rfl rfl rfl (Stp.rd (Rdo.lenVs rfl) rfl ?_)
          refine WpL.want rfl rfl rfl (Stp.rd (Rdo.gei rfl rfl) rfl ?_)
          refine WpL.step (Stp.rd (Rdo.pick_t rfl rfl) rfl ?_)
          refine WpL.step (Stp.rd (Rdo.move rfl) rfl ?_)
          refine WpL.gT rfl rfl (by first | rfl | assumption | (simp only [decide_eq_true_eq, decide_eq_false_iff_not, Bool.not_eq_true', Bool.not_eq_false', List.length_cons, List.length_nil]; first | assumption | omega) | (simp <;> done) | (simp <;> omega)) ?_
          refine WpL.want rfl rfl rfl (Stp.rd (Rdo.move rfl) rfl ?_)
          refine WpL.want rfl rfl rfl (Stp.rd (Rdo.lenVs rfl) rfl ?_)
          refine WpL.want rfl rfl rfl (Stp.rd (Rdo.lei rfl rfl) rfl ?_)
          refine WpL.step (Stp.rd (Rdo.pick_t rfl rfl) rfl ?_)
          refine WpL.step (Stp.rd (Rdo.assign rfl) rfl ?_)
          refine WpL.nil ?_
          refine Thn.n ?_
          refine Wp.seq ?_
          refine Wp.seq ?_
          refine Wp.region ?_
          refine WpL.step (Stp.rd (Rdo.assign rfl) rfl ?_)
          refine WpL.nil ?_
          refine Thn.n ?_
          refine Wp.block ?_
          refine Wp.loopE (fun k e h => ∃ i : Nat, i + k = name.length ∧ e = bndE number part name v21_0 false i ∧ h = [cliA v21_0 (CliS.new number name)]) name.length
            (e0 := bndE number part name v21_0 false 0) (l0 := [cliA v21_0 (CliS.new number name)]) (by repeat (first | exact trivial | refine ⟨rfl, ?_⟩ | refine ⟨congrArg some (congrArg Value.bool (decide_eq_true (by first | assumption | omega))), ?_⟩ | refine ⟨congrArg some (congrArg Value.bool (decide_eq_false (by first | assumption | omega))), ?_⟩)) (by repeat (first | exact trivial | refine ⟨rfl, ?_⟩)) Gh.rfl_ ⟨0, by simp, rfl, rfl⟩ ?_
          rintro k e h ⟨i, hik, rfl, rfl⟩
          by_cases hi : i < name.length
          · refine Wp.seq ?_
            refine Wp.seq ?_
            refine Wp.region ?_
            refine WpL.step (Stp.rd (Rdo.move rfl) rfl ?_)
            refine WpL.step (Stp.rd (Rdo.move rfl) rfl ?_)
            refine WpL.step (Stp.rd (Rdo.lenVs rfl) rfl ?_)
            refine WpL.step (Stp.rd (Rdo.lti rfl rfl) rfl ?_)
            refine WpL.nil ?_
            refine Thn.n ?_
            refine Wp.condK rfl (by first | rfl | assumption | (simp only [decide_eq_true_eq, decide_eq_false_iff_not, Bool.not_eq_true', Bool.not_eq_false', List.length_cons, List.length_nil]; first | assumption | omega) | (simp <;> done) | (simp <;> omega)) ?_
            refine Wp.skip ?_
            refine Thn.n ?_
            refine Wp.seq ?_
            refine Wp.block ?_
            refine Wp.region ?_
            refine WpL.step (Stp.rd (Rdo.move rfl) rfl ?_)
            refine WpL.step (Stp.rd (Rdo.move rfl) rfl ?_)
            refine WpL.pass rfl rfl rfl rfl ?_
            refine WpL.pass rfl rfl rfl rfl ?_
            refine WpL.pass rfl rfl rfl rfl ?_
            refine WpL.pass rfl rfl rfl rfl ?_
            refine WpL.step (Stp.rd (Rdo.pick_f rfl rfl) rfl ?_)
            refine WpL.step (Stp.rd (Rdo.move rfl) rfl ?_)
            refine WpL.pass rfl rfl rfl rfl ?_
            refine WpL.pass rfl rfl rfl rfl ?_
            refine WpL.pass rfl rfl rfl rfl ?_
            refine WpL.pass rfl rfl rfl rfl ?_
            refine WpL.step (Stp.rd (Rdo.pick_f rfl rfl) rfl ?_)
            refine WpL.step (Stp.rd (Rdo.assign rfl) rfl ?_)
            refine WpL.nil ?_
            refine Blk.n ?_
            refine Thn.n ?_
            refine Wp.region ?_
            refine WpL.step (Stp.rd (Rdo.move rfl) rfl ?_)
            refine WpL.step (Stp.rd (Rdo.succ rfl rfl (by omega)) rfl ?_)
            refine WpL.step (Stp.rd (Rdo.assign rfl) rfl ?_)
            refine WpL.nil ?_
            refine Thn.n ?_
            exact ⟨k - 1, _, _, by omega, ⟨i + 1, by omega, rfl, rfl⟩, (by repeat (first | exact trivial | refine ⟨rfl, ?_⟩)), Gh.tk (by repeat (first | exact Tk.nil | apply Tk.cons (by repeat (first | exact Pk.here | apply Pk.next))))⟩
          · refine Wp.seq ?_
            refine Wp.seq ?_
            refine Wp.region ?_
            refine WpL.step (Stp.rd (Rdo.move rfl) rfl ?_)
            refine WpL.step (Stp.rd (Rdo.move rfl) rfl ?_)
            refine WpL.step (Stp.rd (Rdo.lenVs rfl) rfl ?_)
            refine WpL.step (Stp.rd (Rdo.lti rfl rfl) rfl ?_)
            refine WpL.nil ?_
            refine Thn.n ?_
            refine Wp.condL rfl (by first | rfl | assumption | (simp only [decide_eq_true_eq, decide_eq_false_iff_not, Bool.not_eq_true', Bool.not_eq_false', List.length_cons, List.length_nil]; first | assumption | omega) | (simp <;> done) | (simp <;> omega)) ?_
            refine Wp.exit ?_
            refine Thn.x ?_
            refine Thn.x ?_
            refine Blk.here ?_
            refine Thn.n ?_
            refine Wp.seq ?_
            refine Wp.region ?_
            refine WpL.step (Stp.rd (Rdo.move rfl) rfl ?_)
            refine WpL.step (Stp.call (sb _) (by kernel_rfl) rfl (by repeat (first | exact Tk.nil | apply Tk.cons (by repeat (first | exact Pk.here | apply Pk.next)))) rfl ?_)
            rintro _ _ ⟨rfl, rfl⟩
            refine WpL.lst (by simp only [List.cons_append, List.nil_append]; exact rfl) ?_
            refine WpL.step (Stp.rd (Rdo.move rfl) rfl ?_)
            refine WpL.step (Stp.rd (Rdo.extract rfl rfl) rfl ?_)
            refine WpL.step (Stp.rd (Rdo.extract rfl rfl) rfl ?_)
            (refine WpL.step (Stp.alloc rfl ?_); intro nb24)
            refine WpL.step (Stp.storeV rfl rfl (VC.ag _) (by first | rfl | assumption | (simp <;> done)) (by repeat (first | (apply Sts.all; (focus (first | rfl | assumption | (simp <;> done))); (focus (first | exact oneCells1 rfl | assumption | exact oneCells1 (by assumption) | (simp [oneCells, Value.oneCell'] <;> done)))) | (apply Sts.lp (by repeat (first | exact LPut.nil _ | apply LPut.here | apply LPut.next)); (focus (first | exact oneCells1 rfl | assumption | exact oneCells1 (by assumption) | (simp [oneCells, Value.oneCell'] <;> done)))) | (refine Sts.row1 (by first | assumption | omega | (simp <;> omega)) (by first | rfl | assumption)) | apply Sts.next)) ?_)
            refine WpL.step (Stp.rd (Rdo.assign rfl) rfl ?_)
            refine WpL.nil ?_
            refine Thn.n ?_
            refine Wp.seq ?_
            refine Wp.seq ?_
            refine Wp.region ?_
            refine WpL.step (Stp.rd (Rdo.move rfl) rfl ?_)
            refine WpL.step (Stp.rd (Rdo.not rfl) rfl ?_)
            refine WpL.nil ?_
            refine Thn.n ?_
            refine Wp.condT rfl ?_
            refine Wp.seq ?_
            refine Wp.region ?_
            refine WpL.step (Stp.rd (Rdo.move rfl) rfl ?_)
            refine WpL.step (Stp.rd (Rdo.eqi rfl rfl) rfl ?_)
            refine WpL.step (Stp.rd (Rdo.move rfl) rfl ?_)
            refine WpL.want rfl rfl rfl (Stp.call (known_ok) (by kernel_rfl) rfl (by repeat (first | exact Tk.nil | apply Tk.cons (by repeat (first | exact Pk.here | apply Pk.next)))) rfl ?_)
            rintro _ _ rfl
            refine WpL.step (Stp.rd (Rdo.pick_t rfl rfl) rfl ?_)
            refine WpL.step (Stp.rd (Rdo.assign rfl) rfl ?_)
            refine WpL.nil ?_
            refine Thn.n ?_
            refine Wp.ret ?_
            refine Thn.r ?_
            refine Ret.now (ResV.tmp rfl ResV.nil) (Gh.tk (by repeat (first | exact Tk.nil | apply Tk.cons (by repeat (first | exact Pk.here | apply Pk.next))))) rfl
        · refine Trip.of_body Tryd.func4 rfl Tryd.ntmps4 Tryd.results4 rfl ?_
          refine Wp.seq ?_
          refine Wp.region ?_
          refine WpL.step (Stp.rd (Rdo.assign rfl) rfl ?_)
          refine WpL.nil ?_
          refine Thn.n ?_
          refine Wp.seq ?_
          refine Wp.seq ?_
          refine Wp.region ?_
          refine WpL.step (Stp.rd (Rdo.move rfl) rfl ?_)
          refine WpL.step (Stp.rd (Rdo.lenVs rfl) rfl ?_)
          refine WpL.step (Stp.rd (Rdo.gti rfl rfl) rfl ?_)
          refine WpL.nil ?_
          refine Thn.n ?_
          refine Wp.condL rfl (by first | rfl | assumption | (simp only [decide_eq_true_eq, decide_eq_false_iff_not, Bool.not_eq_true', Bool.not_eq_false', List.length_cons, List.length_nil]; first | assumption | omega) | (simp <;> done) | (simp <;> omega)) ?_
          refine Wp.skip ?_
          refine Thn.n ?_
          refine Wp.seq ?_
          refine Wp.region ?_
          refine WpL.step (Stp.rd (Rdo.move rfl) rfl ?_)
          refine WpL.step (Stp.rd (Rdo.move rfl) rfl ?_)
          refine WpL.step (Stp.call (new_ok _ _) (by kernel_rfl) rfl (by repeat (first | exact Tk.nil | apply Tk.cons (by repeat (first | exact Pk.here | apply Pk.next)))) rfl ?_)
          rintro _ _ ⟨v21_0, ⟨rfl, rfl⟩⟩
          refine WpL.lst (by simp only [List.cons_append, List.nil_append]; exact rfl) ?_
          refine WpL.step (Stp.rd (Rdo.assign rfl) rfl ?_)
          refine WpL.nil ?_
          refine Thn.n ?_
          refine Wp.seq ?_
          refine Wp.seq ?_
          refine Wp.region ?_
          refine WpL.step (Stp.rd (Rdo.move rfl) rfl ?_)
          refine WpL.step (Stp.rd (Rdo.eqnil rfl rfl) rfl ?_)
          refine WpL.nil ?_
          refine Thn.n ?_
          refine Wp.condF rfl ?_
          refine Wp.skip ?_
          refine Thn.n ?_
          refine Wp.seq ?_
          refine Wp.region ?_
          refine WpL.step (Stp.rd (Rdo.move rfl) rfl ?_)
          refine WpL.step (Stp.rd (Rdo.gei rfl rfl) rfl ?_)
          refine WpL.step (Stp.rd (Rdo.move rfl) rfl ?_)
          refine WpL.gT rfl rfl (by first | rfl | assumption | (simp only [decide_eq_true_eq, decide_eq_false_iff_not, Bool.not_eq_true', Bool.not_eq_false', List.length_cons, List.length_nil]; first | assumption | omega) | (simp <;> done) | (simp <;> omega)) ?_
          refine WpL.want rfl rfl rfl (Stp.rd (Rdo.move rfl) rfl ?_)
          refine WpL.want rfl rfl rfl (Stp.rd (Rdo.lei rfl rfl) rfl ?_)
          refine WpL.step (Stp.rd (Rdo.pick_t rfl rfl) rfl ?_)
          refine WpL.step (Stp.rd (Rdo.move rfl) rfl ?_)
          refine WpL.gT rfl rfl (by first | rfl | assumption | (simp only [decide_eq_true_eq, decide_eq_false_iff_not, Bool.not_eq_true', Bool.not_eq_false', List.length_cons, List.length_nil]; first | assumption | omega) | (simp <;> done) | (simp <;> omega)) ?_
          refine WpL.want rfl rfl rfl (Stp.rd (Rdo.move rfl) rfl ?_)
          refine WpL.want rfl rfl rfl (Stp.rd (Rdo.lenVs rfl) rfl ?_)
          refine WpL.want rfl rfl rfl (Stp.rd (Rdo.gei rfl rfl) rfl ?_)
          refine WpL.step (Stp.rd (Rdo.pick_t rfl rfl) rfl ?_)
          refine WpL.step (Stp.rd (Rdo.move rfl) rfl ?_)
          refine WpL.gF rfl rfl (by first | rfl | assumption | (simp only [decide_eq_true_eq, decide_eq_false_iff_not, Bool.not_eq_true', Bool.not_eq_false', List.length_cons, List.length_nil]; first | assumption | omega) | (simp <;> done) | (simp <;> omega)) ?_
          refine WpL.pass rfl rfl rfl rfl ?_
          refine WpL.pass rfl rfl rfl rfl ?_
          refine WpL.pass rfl rfl rfl rfl ?_
          refine WpL.step (Stp.rd (Rdo.pick_f rfl rfl) rfl ?_)
          refine WpL.step (Stp.rd (Rdo.assign rfl) rfl ?_)
          refine WpL.nil ?_
          refine Thn.n ?_
          refine Wp.seq ?_
          refine Wp.seq ?_
          refine Wp.region ?_
          refine WpL.step (Stp.rd (Rdo.assign rfl) rfl ?_)
          refine WpL.nil ?_
          refine Thn.n ?_
          refine Wp.block ?_
          refine Wp.loopE (fun k e h => ∃ i : Nat, i + k = name.length ∧ e = bndE number part name v21_0 false i ∧ h = [cliA v21_0 (CliS.new number name)]) name.length
            (e0 := bndE number part name v21_0 false 0) (l0 := [cliA v21_0 (CliS.new number name)]) (by repeat (first | exact trivial | refine ⟨rfl, ?_⟩ | refine ⟨congrArg some (congrArg Value.bool (decide_eq_true (by first | assumption | omega))), ?_⟩ | refine ⟨congrArg some (congrArg Value.bool (decide_eq_false (by first | assumption | omega))), ?_⟩)) (by repeat (first | exact trivial | refine ⟨rfl, ?_⟩)) Gh.rfl_ ⟨0, by simp, rfl, rfl⟩ ?_
          rintro k e h ⟨i, hik, rfl, rfl⟩
          by_cases hi : i < name.length
          · refine Wp.seq ?_
            refine Wp.seq ?_
            refine Wp.region ?_
            refine WpL.step (Stp.rd (Rdo.move rfl) rfl ?_)
            refine WpL.step (Stp.rd (Rdo.move rfl) rfl ?_)
            refine WpL.step (Stp.rd (Rdo.lenVs rfl) rfl ?_)
            refine WpL.step (Stp.rd (Rdo.lti rfl rfl) rfl ?_)
            refine WpL.nil ?_
            refine Thn.n ?_
            refine Wp.condK rfl (by first | rfl | assumption | (simp only [decide_eq_true_eq, decide_eq_false_iff_not, Bool.not_eq_true', Bool.not_eq_false', List.length_cons, List.length_nil]; first | assumption | omega) | (simp <;> done) | (simp <;> omega)) ?_
            refine Wp.skip ?_
            refine Thn.n ?_
            refine Wp.seq ?_
            refine Wp.block ?_
            refine Wp.region ?_
            refine WpL.step (Stp.rd (Rdo.move rfl) rfl ?_)
            refine WpL.step (Stp.rd (Rdo.move rfl) rfl ?_)
            refine WpL.pass rfl rfl rfl rfl ?_
            refine WpL.pass rfl rfl rfl rfl ?_
            refine WpL.pass rfl rfl rfl rfl ?_
            refine WpL.pass rfl rfl rfl rfl ?_
            refine WpL.step (Stp.rd (Rdo.pick_f rfl rfl) rfl ?_)
            refine WpL.step (Stp.rd (Rdo.move rfl) rfl ?_)
            refine WpL.pass rfl rfl rfl rfl ?_
            refine WpL.pass rfl rfl rfl rfl ?_
            refine WpL.pass rfl rfl rfl rfl ?_
            refine WpL.pass rfl rfl rfl rfl ?_
            refine WpL.step (Stp.rd (Rdo.pick_f rfl rfl) rfl ?_)
            refine WpL.step (Stp.rd (Rdo.assign rfl) rfl ?_)
            refine WpL.nil ?_
            refine Blk.n ?_
            refine Thn.n ?_
            refine Wp.region ?_
            refine WpL.step (Stp.rd (Rdo.move rfl) rfl ?_)
            refine WpL.step (Stp.rd (Rdo.succ rfl rfl (by omega)) rfl ?_)
            refine WpL.step (Stp.rd (Rdo.assign rfl) rfl ?_)
            refine WpL.nil ?_
            refine Thn.n ?_
            exact ⟨k - 1, _, _, by omega, ⟨i + 1, by omega, rfl, rfl⟩, (by repeat (first | exact trivial | refine ⟨rfl, ?_⟩)), Gh.tk (by repeat (first | exact Tk.nil | apply Tk.cons (by repeat (first | exact Pk.here | apply Pk.next))))⟩
          · refine Wp.seq ?_
            refine Wp.seq ?_
            refine Wp.region ?_
            refine WpL.step (Stp.rd (Rdo.move rfl) rfl ?_)
            refine WpL.step (Stp.rd (Rdo.move rfl) rfl ?_)
            refine WpL.step (Stp.rd (Rdo.lenVs rfl) rfl ?_)
            refine WpL.step (Stp.rd (Rdo.lti rfl rfl) rfl ?_)
            refine WpL.nil ?_
            refine Thn.n ?_
            refine Wp.condL rfl (by first | rfl | assumption | (simp only [decide_eq_true_eq, decide_eq_false_iff_not, Bool.not_eq_true', Bool.not_eq_false', List.length_cons, List.length_nil]; first | assumption | omega) | (simp <;> done) | (simp <;> omega)) ?_
            refine Wp.exit ?_
            refine Thn.x ?_
            refine Thn.x ?_
            refine Blk.here ?_
            refine Thn.n ?_
            refine Wp.seq ?_
            refine Wp.region ?_
            refine WpL.step (Stp.rd (Rdo.move rfl) rfl ?_)
            refine WpL.step (Stp.call (sb _) (by kernel_rfl) rfl (by repeat (first | exact Tk.nil | apply Tk.cons (by repeat (first | exact Pk.here | apply Pk.next)))) rfl ?_)
            rintro _ _ ⟨rfl, rfl⟩
            refine WpL.lst (by simp only [List.cons_append, List.nil_append]; exact rfl) ?_
            refine WpL.step (Stp.rd (Rdo.move rfl) rfl ?_)
            refine WpL.step (Stp.rd (Rdo.extract rfl rfl) rfl ?_)
            refine WpL.step (Stp.rd (Rdo.extract rfl rfl) rfl ?_)
            (refine WpL.step (Stp.alloc rfl ?_); intro nb24)
            refine WpL.step (Stp.storeV rfl rfl (VC.ag _) (by first | rfl | assumption | (simp <;> done)) (by repeat (first | (apply Sts.all; (focus (first | rfl | assumption | (simp <;> done))); (focus (first | exact oneCells1 rfl | assumption | exact oneCells1 (by assumption) | (simp [oneCells, Value.oneCell'] <;> done)))) | (apply Sts.lp (by repeat (first | exact LPut.nil _ | apply LPut.here | apply LPut.next)); (focus (first | exact oneCells1 rfl | assumption | exact oneCells1 (by assumption) | (simp [oneCells, Value.oneCell'] <;> done)))) | (refine Sts.row1 (by first | assumption | omega | (simp <;> omega)) (by first | rfl | assumption)) | apply Sts.next)) ?_)
            refine WpL.step (Stp.rd (Rdo.assign rfl) rfl ?_)
            refine WpL.nil ?_
            refine Thn.n ?_
            refine Wp.seq ?_
            refine Wp.seq ?_
            refine Wp.region ?_
            refine WpL.step (Stp.rd (Rdo.move rfl) rfl ?_)
            refine WpL.step (Stp.rd (Rdo.not rfl) rfl ?_)
            refine WpL.nil ?_
            refine Thn.n ?_
            refine Wp.condT rfl ?_
            refine Wp.seq ?_
            refine Wp.region ?_
            refine WpL.step (Stp.rd (Rdo.move rfl) rfl ?_)
            refine WpL.step (Stp.rd (Rdo.eqi rfl rfl) rfl ?_)
            refine WpL.step (Stp.rd (Rdo.move rfl) rfl ?_)
            refine WpL.want rfl rfl rfl (Stp.call (known_ok) (by kernel_rfl) rfl (by repeat (first | exact Tk.nil | apply Tk.cons (by repeat (first | exact Pk.here | apply Pk.next)))) rfl ?_)
            rintro _ _ rfl
            refine WpL.step (Stp.rd (Rdo.pick_t rfl rfl) rfl ?_)
            refine WpL.step (Stp.rd (Rdo.assign rfl) rfl ?_)
            refine WpL.nil ?_
            refine Thn.n ?_
            refine Wp.ret ?_
            refine Thn.r ?_
            refine Ret.now (ResV.tmp rfl ResV.nil) (Gh.tk (by repeat (first | exact Tk.nil | apply Tk.cons (by repeat (first | exact Pk.here | apply Pk.next))))) rfl
      · refine Trip.of_body Tryd.func4 rfl Tryd.ntmps4 Tryd.results4 rfl ?_
        refine Wp.seq ?_
        refine Wp.region ?_
        refine WpL.step (Stp.rd (Rdo.assign rfl) rfl ?_)
        refine WpL.nil ?_
        refine Thn.n ?_
        refine Wp.seq ?_
        refine Wp.seq ?_
        refine Wp.region ?_
        refine WpL.step (Stp.rd (Rdo.move rfl) rfl ?_)
        refine WpL.step (Stp.rd (Rdo.lenVs rfl) rfl ?_)
        refine WpL.step (Stp.rd (Rdo.gti rfl rfl) rfl ?_)
        refine WpL.nil ?_
        refine Thn.n ?_
        refine Wp.condL rfl (by first | rfl | assumption | (simp only [decide_eq_true_eq, decide_eq_false_iff_not, Bool.not_eq_true', Bool.not_eq_false', List.length_cons, List.length_nil]; first | assumption | omega) | (simp <;> done) | (simp <;> omega)) ?_
        refine Wp.skip ?_
        refine Thn.n ?_
        refine Wp.seq ?_
        refine Wp.region ?_
        refine WpL.step (Stp.rd (Rdo.move rfl) rfl ?_)
        refine WpL.step (Stp.rd (Rdo.move rfl) rfl ?_)
        refine WpL.step (Stp.call (new_ok _ _) (by kernel_rfl) rfl (by repeat (first | exact Tk.nil | apply Tk.cons (by repeat (first | exact Pk.here | apply Pk.next)))) rfl ?_)
        rintro _ _ ⟨v21_0, ⟨rfl, rfl⟩⟩
        refine WpL.lst (by simp only [List.cons_append, List.nil_append]; exact rfl) ?_
        refine WpL.step (Stp.rd (Rdo.assign rfl) rfl ?_)
        refine WpL.nil ?_
        refine Thn.n ?_
        refine Wp.seq ?_
        refine Wp.seq ?_
        refine Wp.region ?_
        refine WpL.step (Stp.rd (Rdo.move rfl) rfl ?_)
        refine WpL.step (Stp.rd (Rdo.eqnil rfl rfl) rfl ?_)
        refine WpL.nil ?_
        refine Thn.n ?_
        refine Wp.condF rfl ?_
        refine Wp.skip ?_
        refine Thn.n ?_
        refine Wp.seq ?_
        refine Wp.region ?_
        refine WpL.step (Stp.rd (Rdo.move rfl) rfl ?_)
        refine WpL.step (Stp.rd (Rdo.gei rfl rfl) rfl ?_)
        refine WpL.step (Stp.rd (Rdo.move rfl) rfl ?_)
        refine WpL.gT rfl rfl (by first | rfl | assumption | (simp only [decide_eq_true_eq, decide_eq_false_iff_not, Bool.not_eq_true', Bool.not_eq_false', List.length_cons, List.length_nil]; first | assumption | omega) | (simp <;> done) | (simp <;> omega)) ?_
        refine WpL.want rfl rfl rfl (Stp.rd (Rdo.move rfl) rfl ?_)
        refine WpL.want rfl rfl rfl (Stp.rd (Rdo.lei rfl rfl) rfl ?_)
        refine WpL.step (Stp.rd (Rdo.pick_t rfl rfl) rfl ?_)
        refine WpL.step (Stp.rd (Rdo.move rfl) rfl ?_)
        refine WpL.gF rfl rfl (by first | rfl | assumption | (simp only [decide_eq_true_eq, decide_eq_false_iff_not, Bool.not_eq_true', Bool.not_eq_false', List.length_cons, List.length_nil]; first | assumption | omega) | (simp <;> done) | (simp <;> omega)) ?_
        refine WpL.pass rfl rfl rfl rfl ?_
        refine WpL.pass rfl rfl rfl rfl ?_
        refine WpL.pass rfl rfl rfl rfl ?_
        refine WpL.step (Stp.rd (Rdo.pick_f rfl rfl) rfl ?_)
        refine WpL.step (Stp.rd (Rdo.move rfl) rfl ?_)
        refine WpL.pass rfl rfl rfl rfl ?_
        refine WpL.pass rfl rfl rfl rfl ?_
        refine WpL.pass rfl rfl rfl rfl ?_
        refine WpL.step (Stp.rd (Rdo.pick_f rfl rfl) rfl ?_)
        refine WpL.step (Stp.rd (Rdo.assign rfl) rfl ?_)
        refine WpL.nil ?_
        refine Thn.n ?_
        refine Wp.seq ?_
        refine Wp.seq ?_
        refine Wp.region ?_
        refine WpL.step (Stp.rd (Rdo.assign rfl) rfl ?_)
        refine WpL.nil ?_
        refine Thn.n ?_
        refine Wp.block ?_
        refine Wp.loopE (fun k e h => ∃ i : Nat, i + k = name.length ∧ e = bndE number part name v21_0 false i ∧ h = [cliA v21_0 (CliS.new number name)]) name.length
          (e0 := bndE number part name v21_0 false 0) (l0 := [cliA v21_0 (CliS.new number name)]) (by repeat (first | exact trivial | refine ⟨rfl, ?_⟩ | refine ⟨congrArg some (congrArg Value.bool (decide_eq_true (by first | assumption | omega))), ?_⟩ | refine ⟨congrArg some (congrArg Value.bool (decide_eq_false (by first | assumption | omega))), ?_⟩)) (by repeat (first | exact trivial | refine ⟨rfl, ?_⟩)) Gh.rfl_ ⟨0, by simp, rfl, rfl⟩ ?_
        rintro k e h ⟨i, hik, rfl, rfl⟩
        by_cases hi : i < name.length
        · refine Wp.seq ?_
          refine Wp.seq ?_
          refine Wp.region ?_
          refine WpL.step (Stp.rd (Rdo.move rfl) rfl ?_)
          refine WpL.step (Stp.rd (Rdo.move rfl) rfl ?_)
          refine WpL.step (Stp.rd (Rdo.lenVs rfl) rfl ?_)
          refine WpL.step (Stp.rd (Rdo.lti rfl rfl) rfl ?_)
          refine WpL.nil ?_
          refine Thn.n ?_
          refine Wp.condK rfl (by first | rfl | assumption | (simp only [decide_eq_true_eq, decide_eq_false_iff_not, Bool.not_eq_true', Bool.not_eq_false', List.length_cons, List.length_nil]; first | assumption | omega) | (simp <;> done) | (simp <;> omega)) ?_
          refine Wp.skip ?_
          refine Thn.n ?_
          refine Wp.seq ?_
          refine Wp.block ?_
          refine Wp.region ?_
          refine WpL.step (Stp.rd (Rdo.move rfl) rfl ?_)
          refine WpL.step (Stp.rd (Rdo.move rfl) rfl ?_)
          refine WpL.pass rfl rfl rfl rfl ?_
          refine WpL.pass rfl rfl rfl rfl ?_
          refine WpL.pass rfl rfl rfl rfl ?_
          refine WpL.pass rfl rfl rfl rfl ?_
          refine WpL.step (Stp.rd (Rdo.pick_f rfl rfl) rfl ?_)
          refine WpL.step (Stp.rd (Rdo.move rfl) rfl ?_)
          refine WpL.pass rfl rfl rfl rfl ?_
          refine WpL.pass rfl rfl rfl rfl ?_
          refine WpL.pass rfl rfl rfl rfl ?_
          refine WpL.pass rfl rfl rfl rfl ?_
          refine WpL.step (Stp.rd (Rdo.pick_f rfl rfl) rfl ?_)
          refine WpL.step (Stp.rd (Rdo.assign rfl) rfl ?_)
          refine WpL.nil ?_
          refine Blk.n ?_
          refine Thn.n ?_
          refine Wp.region ?_
          refine WpL.step (Stp.rd (Rdo.move rfl) rfl ?_)
          refine WpL.step (Stp.rd (Rdo.succ rfl rfl (by omega)) rfl ?_)
          refine WpL.step (Stp.rd (Rdo.assign rfl) rfl ?_)
          refine WpL.nil ?_
          refine Thn.n ?_
          exact ⟨k - 1, _, _, by omega, ⟨i + 1, by omega, rfl, rfl⟩, (by repeat (first | exact trivial | refine ⟨rfl, ?_⟩)), Gh.tk (by repeat (first | exact Tk.nil | apply Tk.cons (by repeat (first | exact Pk.here | apply Pk.next))))⟩
        · refine Wp.seq ?_
          refine Wp.seq ?_
          refine Wp.region ?_
          refine WpL.step (Stp.rd (Rdo.move rfl) rfl ?_)
          refine WpL.step (Stp.rd (Rdo.move rfl) rfl ?_)
          refine WpL.step (Stp.rd (Rdo.lenVs rfl) rfl ?_)
          refine WpL.step (Stp.rd (Rdo.lti rfl rfl) rfl ?_)
          refine WpL.nil ?_
          refine Thn.n ?_
          refine Wp.condL rfl (by first | rfl | assumption | (simp only [decide_eq_true_eq, decide_eq_false_iff_not, Bool.not_eq_true', Bool.not_eq_false', List.length_cons, List.length_nil]; first | assumption | omega) | (simp <;> done) | (simp <;> omega)) ?_
          refine Wp.exit ?_
          refine Thn.x ?_
          refine Thn.x ?_
          refine Blk.here ?_
          refine Thn.n ?_
          refine Wp.seq ?_
          refine Wp.region ?_
          refine WpL.step (Stp.rd (Rdo.move rfl) rfl ?_)
          refine WpL.step (Stp.call (sb _) (by kernel_rfl) rfl (by repeat (first | exact Tk.nil | apply Tk.cons (by repeat (first | exact Pk.here | apply Pk.next)))) rfl ?_)
          rintro _ _ ⟨rfl, rfl⟩
          refine WpL.lst (by simp only [List.cons_append, List.nil_append]; exact rfl) ?_
          refine WpL.step (Stp.rd (Rdo.move rfl) rfl ?_)
          refine WpL.step (Stp.rd (Rdo.extract rfl rfl) rfl ?_)
          refine WpL.step (Stp.rd (Rdo.extract rfl rfl) rfl ?_)
          (refine WpL.step (Stp.alloc rfl ?_); intro nb24)
          refine WpL.step (Stp.storeV rfl rfl (VC.ag _) (by first | rfl | assumption | (simp <;> done)) (by repeat (first | (apply Sts.all; (focus (first | rfl | assumption | (simp <;> done))); (focus (first | exact oneCells1 rfl | assumption | exact oneCells1 (by assumption) | (simp [oneCells, Value.oneCell'] <;> done)))) | (apply Sts.lp (by repeat (first | exact LPut.nil _ | apply LPut.here | apply LPut.next)); (focus (first | exact oneCells1 rfl | assumption | exact oneCells1 (by assumption) | (simp [oneCells, Value.oneCell'] <;> done)))) | (refine Sts.row1 (by first | assumption | omega | (simp <;> omega)) (by first | rfl | assumption)) | apply Sts.next)) ?_)
          refine WpL.step (Stp.rd (Rdo.assign rfl) rfl ?_)
          refine WpL.nil ?_
          refine Thn.n ?_
          refine Wp.seq ?_
          refine Wp.seq ?_
          refine Wp.region ?_
          refine WpL.step (Stp.rd (Rdo.move rfl) rfl ?_)
          refine WpL.step (Stp.rd (Rdo.not rfl) rfl ?_)
          refine WpL.nil ?_
          refine Thn.n ?_
          refine Wp.condT rfl ?_
          refine Wp.seq ?_
          refine Wp.region ?_
          refine WpL.step (Stp.rd (Rdo.move rfl) rfl ?_)
          refine WpL.step (Stp.rd (Rdo.eqi rfl rfl) rfl ?_)
          refine WpL.step (Stp.rd (Rdo.move rfl) rfl ?_)
          refine WpL.want rfl rfl rfl (Stp.call (known_ok) (by kernel_rfl) rfl (by repeat (first | exact Tk.nil | apply Tk.cons (by repeat (first | exact Pk.here | apply Pk.next)))) rfl ?_)
          rintro _ _ rfl
          refine WpL.step (Stp.rd (Rdo.pick_t rfl rfl) rfl ?_)
          refine WpL.step (Stp.rd (Rdo.assign rfl) rfl ?_)
          refine WpL.nil ?_
          refine Thn.n ?_
          refine Wp.ret ?_
          refine Thn.r ?_
          refine Ret.now (ResV.tmp rfl ResV.nil) (Gh.tk (by repeat (first | exact Tk.nil | apply Tk.cons (by repeat (first | exact Pk.here | apply Pk.next))))) rfl
    · refine Trip.of_body Tryd.func4 rfl Tryd.ntmps4 Tryd.results4 rfl ?_
      refine Wp.seq ?_
      refine Wp.region ?_
      refine WpL.step (Stp.rd (Rdo.assign rfl) rfl ?_)
      refine WpL.nil ?_
      refine Thn.n ?_
      refine Wp.seq ?_
      refine Wp.seq ?_
      refine Wp.region ?_
      refine WpL.step (Stp.rd (Rdo.move rfl) rfl ?_)
      refine WpL.step (Stp.rd (Rdo.lenVs rfl) rfl ?_)
      refine WpL.step (Stp.rd (Rdo.gti rfl rfl) rfl ?_)
      refine WpL.nil ?_
      refine Thn.n ?_
      refine Wp.condL rfl (by first | rfl | assumption | (simp only [decide_eq_true_eq, decide_eq_false_iff_not, Bool.not_eq_true', Bool.not_eq_false', List.length_cons, List.length_nil]; first | assumption | omega) | (simp <;> done) | (simp <;> omega)) ?_
      refine Wp.skip ?_
      refine Thn.n ?_
      refine Wp.seq ?_
      refine Wp.region ?_
      refine WpL.step (Stp.rd (Rdo.move rfl) rfl ?_)
      refine WpL.step (Stp.rd (Rdo.move rfl) rfl ?_)
      refine WpL.step (Stp.call (new_ok _ _) (by kernel_rfl) rfl (by repeat (first | exact Tk.nil | apply Tk.cons (by repeat (first | exact Pk.here | apply Pk.next)))) rfl ?_)
      rintro _ _ ⟨v21_0, ⟨rfl, rfl⟩⟩
      refine WpL.lst (by simp only [List.cons_append, List.nil_append]; exact rfl) ?_
      refine WpL.step (Stp.rd (Rdo.assign rfl) rfl ?_)
      refine WpL.nil ?_
      refine Thn.n ?_
      refine Wp.seq ?_
      refine Wp.seq ?_
      refine Wp.region ?_
      refine WpL.step (Stp.rd (Rdo.move rfl) rfl ?_)
      refine WpL.step (Stp.rd (Rdo.eqnil rfl rfl) rfl ?_)
      refine WpL.nil ?_
      refine Thn.n ?_
      refine Wp.condF rfl ?_
      refine Wp.skip ?_
      refine Thn.n ?_
      refine Wp.seq ?_
      refine Wp.region ?_
      refine WpL.step (Stp.rd (Rdo.move rfl) rfl ?_)
      refine WpL.step (Stp.rd (Rdo.gei rfl rfl) rfl ?_)
      refine WpL.step (Stp.rd (Rdo.move rfl) rfl ?_)
      refine WpL.gF rfl rfl (by first | rfl | assumption | (simp only [decide_eq_true_eq, decide_eq_false_iff_not, Bool.not_eq_true', Bool.not_eq_false', List.length_cons, List.length_nil]; first | assumption | omega) | (simp <;> done) | (simp <;> omega)) ?_
      refine WpL.pass rfl rfl rfl rfl ?_
      refine WpL.pass rfl rfl rfl rfl ?_
      refine WpL.step (Stp.rd (Rdo.pick_f rfl rfl) rfl ?_)
      refine WpL.step (Stp.rd (Rdo.move rfl) rfl ?_)
      refine WpL.pass rfl rfl rfl rfl ?_
      refine WpL.pass rfl rfl rfl rfl ?_
      refine WpL.pass rfl rfl rfl rfl ?_
      refine WpL.step (Stp.rd (Rdo.pick_f rfl rfl) rfl ?_)
      refine WpL.step (Stp.rd (Rdo.move rfl) rfl ?_)
      refine WpL.pass rfl rfl rfl rfl ?_
      refine WpL.pass rfl rfl rfl rfl ?_
      refine WpL.pass rfl rfl rfl rfl ?_
      refine WpL.step (Stp.rd (Rdo.pick_f rfl rfl) rfl ?_)
      refine WpL.step (Stp.rd (Rdo.assign rfl) rfl ?_)
      refine WpL.nil ?_
      refine Thn.n ?_
      refine Wp.seq ?_
      refine Wp.seq ?_
      refine Wp.region ?_
      refine WpL.step (Stp.rd (Rdo.assign rfl) rfl ?_)
      refine WpL.nil ?_
      refine Thn.n ?_
      refine Wp.block ?_
      refine Wp.loopE (fun k e h => ∃ i : Nat, i + k = name.length ∧ e = bndE number part name v21_0 false i ∧ h = [cliA v21_0 (CliS.new number name)]) name.length
        (e0 := bndE number part name v21_0 false 0) (l0 := [cliA v21_0 (CliS.new number name)]) (by repeat (first | exact trivial | refine ⟨rfl, ?_⟩ | refine ⟨congrArg some (congrArg Value.bool (decide_eq_true (by first | assumption | omega))), ?_⟩ | refine ⟨congrArg some (congrArg Value.bool (decide_eq_false (by first | assumption | omega))), ?_⟩)) (by repeat (first | exact trivial | refine ⟨rfl, ?_⟩)) Gh.rfl_ ⟨0, by simp, rfl, rfl⟩ ?_
      rintro k e h ⟨i, hik, rfl, rfl⟩
      by_cases hi : i < name.length
      · refine Wp.seq ?_
        refine Wp.seq ?_
        refine Wp.region ?_
        refine WpL.step (Stp.rd (Rdo.move rfl) rfl ?_)
        refine WpL.step (Stp.rd (Rdo.move rfl) rfl ?_)
        refine WpL.step (Stp.rd (Rdo.lenVs rfl) rfl ?_)
        refine WpL.step (Stp.rd (Rdo.lti rfl rfl) rfl ?_)
        refine WpL.nil ?_
        refine Thn.n ?_
        refine Wp.condK rfl (by first | rfl | assumption | (simp only [decide_eq_true_eq, decide_eq_false_iff_not, Bool.not_eq_true', Bool.not_eq_false', List.length_cons, List.length_nil]; first | assumption | omega) | (simp <;> done) | (simp <;> omega)) ?_
        refine Wp.skip ?_
        refine Thn.n ?_
        refine Wp.seq ?_
        refine Wp.block ?_
        refine Wp.region ?_
        refine WpL.step (Stp.rd (Rdo.move rfl) rfl ?_)
        refine WpL.step (Stp.rd (Rdo.move rfl) rfl ?_)
        refine WpL.pass rfl rfl rfl rfl ?_
        refine WpL.pass rfl rfl rfl rfl ?_
        refine WpL.pass rfl rfl rfl rfl ?_
        refine WpL.pass rfl rfl rfl rfl ?_
        refine WpL.step (Stp.rd (Rdo.pick_f rfl rfl) rfl ?_)
        refine WpL.step (Stp.rd (Rdo.move rfl) rfl ?_)
        refine WpL.pass rfl rfl rfl rfl ?_
        refine WpL.pass rfl rfl rfl rfl ?_
        refine WpL.pass rfl rfl rfl rfl ?_
        refine WpL.pass rfl rfl rfl rfl ?_
        refine WpL.step (Stp.rd (Rdo.pick_f rfl rfl) rfl ?_)
        refine WpL.step (Stp.rd (Rdo.assign rfl) rfl ?_)
        refine WpL.nil ?_
        refine Blk.n ?_
        refine Thn.n ?_
        refine Wp.region ?_
        refine WpL.step (Stp.rd (Rdo.move rfl) rfl ?_)
        refine WpL.step (Stp.rd (Rdo.succ rfl rfl (by omega)) rfl ?_)
        refine WpL.step (Stp.rd (Rdo.assign rfl) rfl ?_)
        refine WpL.nil ?_
        refine Thn.n ?_
        exact ⟨k - 1, _, _, by omega, ⟨i + 1, by omega, rfl, rfl⟩, (by repeat (first | exact trivial | refine ⟨rfl, ?_⟩)), Gh.tk (by repeat (first | exact Tk.nil | apply Tk.cons (by repeat (first | exact Pk.here | apply Pk.next))))⟩
      · refine Wp.seq ?_
        refine Wp.seq ?_
        refine Wp.region ?_
        refine WpL.step (Stp.rd (Rdo.move rfl) rfl ?_)
        refine WpL.step (Stp.rd (Rdo.move rfl) rfl ?_)
        refine WpL.step (Stp.rd (Rdo.lenVs rfl) rfl ?_)
        refine WpL.step (Stp.rd (Rdo.lti rfl rfl) rfl ?_)
        refine WpL.nil ?_
        refine Thn.n ?_
        refine Wp.condL rfl (by first | rfl | assumption | (simp only [decide_eq_true_eq, decide_eq_false_iff_not, Bool.not_eq_true', Bool.not_eq_false', List.length_cons, List.length_nil]; first | assumption | omega) | (simp <;> done) | (simp <;> omega)) ?_
        refine Wp.exit ?_
        refine Thn.x ?_
        refine Thn.x ?_
        refine Blk.here ?_
        refine Thn.n ?_
        refine Wp.seq ?_
        refine Wp.region ?_
        refine WpL.step (Stp.rd (Rdo.move rfl) rfl ?_)
        refine WpL.step (Stp.call (sb _) (by kernel_rfl) rfl (by repeat (first | exact Tk.nil | apply Tk.cons (by repeat (first | exact Pk.here | apply Pk.next)))) rfl ?_)
        rintro _ _ ⟨rfl, rfl⟩
        refine WpL.lst (by simp only [List.cons_append, List.nil_append]; exact rfl) ?_
        refine WpL.step (Stp.rd (Rdo.move rfl) rfl ?_)
        refine WpL.step (Stp.rd (Rdo.extract rfl rfl) rfl ?_)
        refine WpL.step (Stp.rd (Rdo.extract rfl rfl) rfl ?_)
        (refine WpL.step (Stp.alloc rfl ?_); intro nb24)
        refine WpL.step (Stp.storeV rfl rfl (VC.ag _) (by first | rfl | assumption | (simp <;> done)) (by repeat (first | (apply Sts.all; (focus (first | rfl | assumption | (simp <;> done))); (focus (first | exact oneCells1 rfl | assumption | exact oneCells1 (by assumption) | (simp [oneCells, Value.oneCell'] <;> done)))) | (apply Sts.lp (by repeat (first | exact LPut.nil _ | apply LPut.here | apply LPut.next)); (focus (first | exact oneCells1 rfl | assumption | exact oneCells1 (by assumption) | (simp [oneCells, Value.oneCell'] <;> done)))) | (refine Sts.row1 (by first | assumption | omega | (simp <;> omega)) (by first | rfl | assumption)) | apply Sts.next)) ?_)
        refine WpL.step (Stp.rd (Rdo.assign rfl) rfl ?_)
        refine WpL.nil ?_
        refine Thn.n ?_
        refine Wp.seq ?_
        refine Wp.seq ?_
        refine Wp.region ?_
        refine WpL.step (Stp.rd (Rdo.move rfl) rfl ?_)
        refine WpL.step (Stp.rd (Rdo.not rfl) rfl ?_)
        refine WpL.nil ?_
        refine Thn.n ?_
        refine Wp.condT rfl ?_
        refine Wp.seq ?_
        refine Wp.region ?_
        refine WpL.step (Stp.rd (Rdo.move rfl) rfl ?_)
        refine WpL.step (Stp.rd (Rdo.eqi rfl rfl) rfl ?_)
        refine WpL.step (Stp.rd (Rdo.move rfl) rfl ?_)
        refine WpL.want rfl rfl rfl (Stp.call (known_ok) (by kernel_rfl) rfl (by repeat (first | exact Tk.nil | apply Tk.cons (by repeat (first | exact Pk.here | apply Pk.next)))) rfl ?_)
        rintro _ _ rfl
        refine WpL.step (Stp.rd (Rdo.pick_t rfl rfl) rfl ?_)
        refine WpL.step (Stp.rd (Rdo.assign rfl) rfl ?_)
        refine WpL.nil ?_
        refine Thn.n ?_
        refine Wp.ret ?_
        refine Thn.r ?_
        refine Ret.now (ResV.tmp rfl ResV.nil) (Gh.tk (by repeat (first | exact Tk.nil | apply Tk.cons (by repeat (first | exact Pk.here | apply Pk.next))))) rfl

theorem bounds_walk (a0 : Int) (a1 : ByteArray) (a2 : Int) (w : World) (_ : (Lit.int .i64 a0).wf = true) (_ : a1.size ≤ maxLen) (_ : (Lit.int .i64 a2).wf = true) :
    Calls Tryd.prog 4 #[.int .i64 a0, .string a1, .int .i64 a2] w fun e w' => e = .returned (.bool true) ∧ Go.RowKit.Below w.heap.size w w' := by
  obtain ⟨l, rfl⟩ := str_bytes a1
  exact Trip.top (args := [vi a0, vs l, vi a2]) (Φ := fun _ => True) (post := fun r _ => r = vb true) trivial (fun _ _ h => h) (Trip.gh (Gh.drop Pk.here) (boundsLaw_ok a0 a2 l))
end Go.Proofs.YtaacdekfeljpeaaDoor
