/- The wire: an operation that may be. -/
import Derived.Test.YtccgdnocldmjeaaDoorWir1
namespace Go.Proofs.YtccgdnocldmjeaaDoor
open Go
set_option maxHeartbeats 4000000
set_option linter.unusedSimpArgs false
set_option linter.unusedVariables false
set_option maxRecDepth 20000

def nameOk (o : Go.Proofs.YtccgdnocldmjeaaDoor.Op) : Prop := if o.kind = 1 then o.name ≠ [] ∧ o.name.length ≤ 8 ∧ ∀ b ∈ o.name, small_ b = true else o.name = []
instance (o : Go.Proofs.YtccgdnocldmjeaaDoor.Op) : Decidable (nameOk o) := by unfold nameOk; infer_instance
theorem small_eq (b : UInt8) : small_ b = small b := by unfold small_ small; simp
theorem okOp_iff (o : Go.Proofs.YtccgdnocldmjeaaDoor.Op) : okOp o ↔ (1 ≤ o.kind ∧ o.kind ≤ 4) ∧ (0 ≤ o.client ∧ o.client ≤ 15) ∧ (0 ≤ o.seq ∧ o.seq ≤ 1048576) ∧ nameOk o ∧ ((0 ≤ o.producer ∧ o.producer ≤ 7) ∧ (0 ≤ o.epoch ∧ o.epoch ≤ 100) ∧ (0 ≤ o.txn ∧ o.txn ≤ 100)) ∧ (0 ≤ o.part ∧ o.part ≤ 3) ∧ namedO o = o := by
  obtain ⟨k, cl, sq, nm, pr, ep, tx, pa, cm⟩ := o
  constructor
  · rintro ⟨h1, h2, h3, h4, h5, h6, h7, h8, h9, h10, h11⟩
    refine ⟨h1, h2, h3, h4, ⟨h5, h6, h7⟩, h8, ?_⟩
    simp only at h1 h4 h9 h10 h11
    unfold namedO
    simp only
    have hk : k = 1 ∨ k = 2 ∨ k = 3 ∨ k = 4 := by omega
    rcases hk with rfl | rfl | rfl | rfl
    · obtain ⟨rfl, rfl, rfl, rfl, rfl⟩ := h9 (.inl rfl); rfl
    · obtain rfl := h10 rfl; rw [if_neg (by omega)] at h4; subst h4; rfl
    · obtain rfl := h11 rfl; rw [if_neg (by omega)] at h4; subst h4; rfl
    · obtain ⟨rfl, rfl, rfl, rfl, rfl⟩ := h9 (.inr rfl); rw [if_neg (by omega)] at h4; subst h4; rfl
  · rintro ⟨h1, h2, h3, h4, ⟨h5, h6, h7⟩, h8, h9⟩
    refine ⟨h1, h2, h3, h4, h5, h6, h7, h8, ?_⟩
    simp only at h1 ⊢
    unfold namedO at h9
    have hk : k = 1 ∨ k = 2 ∨ k = 3 ∨ k = 4 := by omega
    rcases hk with rfl | rfl | rfl | rfl <;> simp at h9 ⊢ <;> simp [← h9]
theorem trim_yes (s : List UInt8) (hs : s.length ≤ 1000000) (h : ∀ b ∈ s, small_ b = true) : Trip Tryd.prog 47 [vs s, vs letters] [] (fun r l => r = vs [] ∧ l = []) := by
  refine Trip.mono (trim_ok s (by omega)) ?_
  rintro r l ⟨t, rfl, ht, rfl⟩
  have : t = [] := ht.2 fun b hb => by rw [← small_eq]; exact h b hb
  rw [this]
  exact ⟨rfl, rfl⟩
theorem trim_no (s : List UInt8) (hs : s.length ≤ 1000000) (h : ¬ ∀ b ∈ s, small_ b = true) : Trip Tryd.prog 47 [vs s, vs letters] [] (fun r l => ∃ t : {t : List UInt8 // ¬ t = []}, r = vs t.1 ∧ l = []) := by
  refine Trip.mono (trim_ok s (by omega)) ?_
  rintro r l ⟨t, rfl, ht, rfl⟩
  exact ⟨⟨t, fun h2 => h fun b hb => by rw [small_eq]; exact ht.1 h2 b hb⟩, rfl, rfl⟩
theorem opC_inj {a b : Go.Proofs.YtccgdnocldmjeaaDoor.Op} (h : opC a = opC b) : a = b := by
  obtain ⟨a1, a2, a3, a4, a5, a6, a7, a8, a9⟩ := a
  obtain ⟨b1, b2, b3, b4, b5, b6, b7, b8, b9⟩ := b
  simp [opC] at h
  simp [h]
theorem isOp_ok (o : Go.Proofs.YtccgdnocldmjeaaDoor.Op) (hl : o.name.length ≤ 1000000) : Trip Tryd.prog 32 [.agg (opC o).toArray] [] (fun r l => r = vb (Decidable.decide (okOp o)) ∧ l = []) := by
  refine Trip.of_body Tryd.func32 rfl Tryd.ntmps32 Tryd.results32 rfl ?_
  refine Wp.seq ?_
  refine Wp.region ?_
  (refine WpL.step (Stp.boxV rfl (VC.ag _) rfl ?_); intro nb2)
  refine WpL.step (Stp.rd (Rdo.assign rfl) rfl ?_)
  refine WpL.nil ?_
  refine Thn.n ?_
  refine Wp.seq ?_
  refine Wp.region ?_
  refine WpL.step (Stp.rd (Rdo.fieldAddr0 rfl) rfl ?_)
  refine WpL.step (Stp.rd (Rdo.load rfl (Lds.one rfl)) rfl ?_)
  refine WpL.step (Stp.rd (Rdo.eqVs rfl rfl) rfl ?_)
  refine WpL.step (Stp.rd (Rdo.assign rfl) rfl ?_)
  refine WpL.nil ?_
  refine Thn.n ?_
  refine Wp.seq ?_
  refine Wp.seq ?_
  refine Wp.region ?_
  refine WpL.step (Stp.rd (Rdo.fieldAddr0 rfl) rfl ?_)
  refine WpL.step (Stp.rd (Rdo.load rfl (Lds.one rfl)) rfl ?_)
  refine WpL.step (Stp.rd (Rdo.eqi rfl rfl) rfl ?_)
  refine WpL.nil ?_
  refine Thn.n ?_
  refine Wp.mono (Q := fun x e' l' => x = .normal ∧ EnvSub [(1, vp nb2 0), (3, vb (Decidable.decide (nameOk o)))] e' ∧ l' = [cel nb2 27 (opC o)]) ?_ ?_
  · by_cases hk : o.kind = 1
    · by_cases hn : o.name = []
      · rw [decide_eq_false (show ¬ nameOk o by unfold nameOk; rw [if_pos hk]; exact fun h => h.1 hn)]
        refine Wp.condK rfl (by first | rfl | assumption | (simp only [decide_eq_true_eq, decide_eq_false_iff_not, Bool.not_eq_true', Bool.not_eq_false', List.length_cons, List.length_nil]; first | assumption | omega) | (simp <;> done) | (simp <;> omega)) ?_
        refine Wp.region ?_
        refine WpL.step (Stp.rd (Rdo.fieldAddr0 rfl) rfl ?_)
        refine WpL.step (Stp.rd (Rdo.load rfl (Lds.one rfl)) rfl ?_)
        refine WpL.step (Stp.rd (Rdo.neVs rfl rfl) rfl ?_)
        refine WpL.step (Stp.rd (Rdo.move rfl) rfl ?_)
        refine WpL.gF rfl rfl (by first | rfl | assumption | (simp only [decide_eq_true_eq, decide_eq_false_iff_not, Bool.not_eq_true', Bool.not_eq_false', List.length_cons, List.length_nil]; first | assumption | omega) | (simp <;> done) | (simp <;> omega)) ?_
        refine WpL.pass rfl rfl rfl rfl ?_
        refine WpL.pass rfl rfl rfl rfl ?_
        refine WpL.pass rfl rfl rfl rfl ?_
        refine WpL.pass rfl rfl rfl rfl ?_
        refine WpL.step (Stp.rd (Rdo.pick_f rfl rfl) rfl ?_)
        refine WpL.step (Stp.rd (Rdo.move rfl) rfl ?_)
        refine WpL.pass rfl rfl rfl rfl ?_
        refine WpL.pass rfl rfl rfl rfl ?_
        refine WpL.pass rfl rfl rfl rfl ?_
        refine WpL.pass rfl rfl rfl rfl ?_
        refine WpL.step (Stp.rd (Rdo.pick_f rfl rfl) rfl ?_)
        refine WpL.step (Stp.rd (Rdo.assign rfl) rfl ?_)
        refine WpL.nil ?_
        exact ⟨rfl, (by repeat (first | exact trivial | refine ⟨rfl, ?_⟩ | refine ⟨congrArg some (congrArg Value.bool (decide_eq_true (by first | assumption | omega))), ?_⟩ | refine ⟨congrArg some (congrArg Value.bool (decide_eq_false (by first | assumption | omega))), ?_⟩)), rfl⟩
      · by_cases h8 : o.name.length ≤ 8
        · have h8' : (o.name.length : Int) ≤ 8 := by omega
          by_cases hs : ∀ b ∈ o.name, small_ b = true
          · have s1 := trim_yes o.name hl hs
            rw [decide_eq_true (show nameOk o by unfold nameOk; rw [if_pos hk]; exact ⟨hn, h8, hs⟩)]
            refine Wp.condK rfl (by first | rfl | assumption | (simp only [decide_eq_true_eq, decide_eq_false_iff_not, Bool.not_eq_true', Bool.not_eq_false', List.length_cons, List.length_nil]; first | assumption | omega) | (simp <;> done) | (simp <;> omega)) ?_
            refine Wp.region ?_
            refine WpL.step (Stp.rd (Rdo.fieldAddr0 rfl) rfl ?_)
            refine WpL.step (Stp.rd (Rdo.load rfl (Lds.one rfl)) rfl ?_)
            refine WpL.step (Stp.rd (Rdo.neVs rfl rfl) rfl ?_)
            refine WpL.step (Stp.rd (Rdo.move rfl) rfl ?_)
            refine WpL.gT rfl rfl (by first | rfl | assumption | (simp only [decide_eq_true_eq, decide_eq_false_iff_not, Bool.not_eq_true', Bool.not_eq_false', List.length_cons, List.length_nil]; first | assumption | omega) | (simp <;> done) | (simp <;> omega)) ?_
            refine WpL.want rfl rfl rfl (Stp.rd (Rdo.fieldAddr0 rfl) rfl ?_)
            refine WpL.want rfl rfl rfl (Stp.rd (Rdo.load rfl (Lds.one rfl)) rfl ?_)
            refine WpL.want rfl rfl rfl (Stp.rd (Rdo.lenVs rfl) rfl ?_)
            refine WpL.want rfl rfl rfl (Stp.rd (Rdo.lei rfl rfl) rfl ?_)
            refine WpL.step (Stp.rd (Rdo.pick_t rfl rfl) rfl ?_)
            refine WpL.step (Stp.rd (Rdo.move rfl) rfl ?_)
            refine WpL.gT rfl rfl (by first | rfl | assumption | (simp only [decide_eq_true_eq, decide_eq_false_iff_not, Bool.not_eq_true', Bool.not_eq_false', List.length_cons, List.length_nil]; first | assumption | omega) | (simp <;> done) | (simp <;> omega)) ?_
            refine WpL.want rfl rfl rfl (Stp.rd (Rdo.fieldAddr0 rfl) rfl ?_)
            refine WpL.want rfl rfl rfl (Stp.rd (Rdo.load rfl (Lds.one rfl)) rfl ?_)
            refine WpL.want rfl rfl rfl (Stp.call (s1) (by kernel_rfl) rfl (by repeat (first | exact Tk.nil | apply Tk.cons (by repeat (first | exact Pk.here | apply Pk.next)))) rfl ?_)
            rintro _ _ ⟨rfl, rfl⟩
            refine WpL.lst (by simp only [List.cons_append, List.nil_append]; exact rfl) ?_
            refine WpL.want rfl rfl rfl (Stp.rd (Rdo.eqVs rfl rfl) rfl ?_)
            refine WpL.step (Stp.rd (Rdo.pick_t rfl rfl) rfl ?_)
            refine WpL.step (Stp.rd (Rdo.assign rfl) rfl ?_)
            refine WpL.nil ?_
            exact ⟨rfl, (by repeat (first | exact trivial | refine ⟨rfl, ?_⟩ | refine ⟨congrArg some (congrArg Value.bool (decide_eq_true (by first | assumption | omega))), ?_⟩ | refine ⟨congrArg some (congrArg Value.bool (decide_eq_false (by first | assumption | omega))), ?_⟩)), rfl⟩
          · have s1 := trim_no o.name hl hs
            rw [decide_eq_false (show ¬ nameOk o by unfold nameOk; rw [if_pos hk]; exact fun h => hs h.2.2)]
            refine Wp.condK rfl (by first | rfl | assumption | (simp only [decide_eq_true_eq, decide_eq_false_iff_not, Bool.not_eq_true', Bool.not_eq_false', List.length_cons, List.length_nil]; first | assumption | omega) | (simp <;> done) | (simp <;> omega)) ?_
            refine Wp.region ?_
            refine WpL.step (Stp.rd (Rdo.fieldAddr0 rfl) rfl ?_)
            refine WpL.step (Stp.rd (Rdo.load rfl (Lds.one rfl)) rfl ?_)
            refine WpL.step (Stp.rd (Rdo.neVs rfl rfl) rfl ?_)
            refine WpL.step (Stp.rd (Rdo.move rfl) rfl ?_)
            refine WpL.gT rfl rfl (by first | rfl | assumption | (simp only [decide_eq_true_eq, decide_eq_false_iff_not, Bool.not_eq_true', Bool.not_eq_false', List.length_cons, List.length_nil]; first | assumption | omega) | (simp <;> done) | (simp <;> omega)) ?_
            refine WpL.want rfl rfl rfl (Stp.rd (Rdo.fieldAddr0 rfl) rfl ?_)
            refine WpL.want rfl rfl rfl (Stp.rd (Rdo.load rfl (Lds.one rfl)) rfl ?_)
            refine WpL.want rfl rfl rfl (Stp.rd (Rdo.lenVs rfl) rfl ?_)
            refine WpL.want rfl rfl rfl (Stp.rd (Rdo.lei rfl rfl) rfl ?_)
            refine WpL.step (Stp.rd (Rdo.pick_t rfl rfl) rfl ?_)
            refine WpL.step (Stp.rd (Rdo.move rfl) rfl ?_)
            refine WpL.gT rfl rfl (by first | rfl | assumption | (simp only [decide_eq_true_eq, decide_eq_false_iff_not, Bool.not_eq_true', Bool.not_eq_false', List.length_cons, List.length_nil]; first | assumption | omega) | (simp <;> done) | (simp <;> omega)) ?_
            refine WpL.want rfl rfl rfl (Stp.rd (Rdo.fieldAddr0 rfl) rfl ?_)
            refine WpL.want rfl rfl rfl (Stp.rd (Rdo.load rfl (Lds.one rfl)) rfl ?_)
            refine WpL.want rfl rfl rfl (Stp.call (s1) (by kernel_rfl) rfl (by repeat (first | exact Tk.nil | apply Tk.cons (by repeat (first | exact Pk.here | apply Pk.next)))) rfl ?_)
            rintro _ _ ⟨v17_0, ⟨rfl, rfl⟩⟩
            refine WpL.lst (by simp only [List.cons_append, List.nil_append]; exact rfl) ?_
            refine WpL.want rfl rfl rfl (Stp.rd (Rdo.eqVs rfl rfl) rfl ?_)
            refine WpL.step (Stp.rd (Rdo.pick_t rfl rfl) rfl ?_)
            refine WpL.step (Stp.rd (Rdo.assign rfl) rfl ?_)
            refine WpL.nil ?_
            have h9 := v17_0.2
            exact ⟨rfl, (by repeat (first | exact trivial | refine ⟨rfl, ?_⟩ | refine ⟨congrArg some (congrArg Value.bool (decide_eq_true (by first | assumption | omega))), ?_⟩ | refine ⟨congrArg some (congrArg Value.bool (decide_eq_false (by first | assumption | omega))), ?_⟩)), rfl⟩
        · have h8' : ¬ (o.name.length : Int) ≤ 8 := by omega
          rw [decide_eq_false (show ¬ nameOk o by unfold nameOk; rw [if_pos hk]; exact fun h => h8 h.2.1)]
          refine Wp.condK rfl (by first | rfl | assumption | (simp only [decide_eq_true_eq, decide_eq_false_iff_not, Bool.not_eq_true', Bool.not_eq_false', List.length_cons, List.length_nil]; first | assumption | omega) | (simp <;> done) | (simp <;> omega)) ?_
          refine Wp.region ?_
          refine WpL.step (Stp.rd (Rdo.fieldAddr0 rfl) rfl ?_)
          refine WpL.step (Stp.rd (Rdo.load rfl (Lds.one rfl)) rfl ?_)
          refine WpL.step (Stp.rd (Rdo.neVs rfl rfl) rfl ?_)
          refine WpL.step (Stp.rd (Rdo.move rfl) rfl ?_)
          refine WpL.gT rfl rfl (by first | rfl | assumption | (simp only [decide_eq_true_eq, decide_eq_false_iff_not, Bool.not_eq_true', Bool.not_eq_false', List.length_cons, List.length_nil]; first | assumption | omega) | (simp <;> done) | (simp <;> omega)) ?_
          refine WpL.want rfl rfl rfl (Stp.rd (Rdo.fieldAddr0 rfl) rfl ?_)
          refine WpL.want rfl rfl rfl (Stp.rd (Rdo.load rfl (Lds.one rfl)) rfl ?_)
          refine WpL.want rfl rfl rfl (Stp.rd (Rdo.lenVs rfl) rfl ?_)
          refine WpL.want rfl rfl rfl (Stp.rd (Rdo.lei rfl rfl) rfl ?_)
          refine WpL.step (Stp.rd (Rdo.pick_t rfl rfl) rfl ?_)
          refine WpL.step (Stp.rd (Rdo.move rfl) rfl ?_)
          refine WpL.gF rfl rfl (by first | rfl | assumption | (simp only [decide_eq_true_eq, decide_eq_false_iff_not, Bool.not_eq_true', Bool.not_eq_false', List.length_cons, List.length_nil]; first | assumption | omega) | (simp <;> done) | (simp <;> omega)) ?_
          refine WpL.pass rfl rfl rfl rfl ?_
          refine WpL.pass rfl rfl rfl rfl ?_
          refine WpL.pass rfl rfl rfl rfl ?_
          refine WpL.pass rfl rfl rfl rfl ?_
          refine WpL.step (Stp.rd (Rdo.pick_f rfl rfl) rfl ?_)
          refine WpL.step (Stp.rd (Rdo.assign rfl) rfl ?_)
          refine WpL.nil ?_
          exact ⟨rfl, (by repeat (first | exact trivial | refine ⟨rfl, ?_⟩ | refine ⟨congrArg some (congrArg Value.bool (decide_eq_true (by first | assumption | omega))), ?_⟩ | refine ⟨congrArg some (congrArg Value.bool (decide_eq_false (by first | assumption | omega))), ?_⟩)), rfl⟩
    · have hd : nameOk o ↔ o.name = [] := by unfold nameOk; rw [if_neg hk]
      have hd2 : Decidable.decide (nameOk o) = Decidable.decide (o.name = []) := by simp only [hd]
      rw [hd2]
      refine Wp.condL rfl (by first | rfl | assumption | (simp only [decide_eq_true_eq, decide_eq_false_iff_not, Bool.not_eq_true', Bool.not_eq_false', List.length_cons, List.length_nil]; first | assumption | omega) | (simp <;> done) | (simp <;> omega)) ?_
      refine Wp.skip ?_
      exact ⟨rfl, (by repeat (first | exact trivial | refine ⟨rfl, ?_⟩)), rfl⟩
  · rintro x e' l' ⟨rfl, he, rfl⟩
    refine Thn.n (Wp.sub he ?_)
    have hnm := namedW_ok o
    have hoi := okOp_iff o
    by_cases c1 : 1 ≤ o.kind ∧ o.kind ≤ 4
    · have sc1 := isIn_ok o.kind 1 4
      rw [decide_eq_true c1] at sc1
      by_cases c2 : 0 ≤ o.client ∧ o.client ≤ 15
      · have sc2 := isIn_ok o.client 0 15
        rw [decide_eq_true c2] at sc2
        by_cases c3 : 0 ≤ o.seq ∧ o.seq ≤ 1048576
        · have sc3 := isIn_ok o.seq 0 1048576
          rw [decide_eq_true c3] at sc3
          by_cases c4 : nameOk o
          · rw [decide_eq_true c4]
            by_cases c5 : (0 ≤ o.producer ∧ o.producer ≤ 7) ∧ (0 ≤ o.epoch ∧ o.epoch ≤ 100) ∧ (0 ≤ o.txn ∧ o.txn ≤ 100)
            · have sc5 := isProducer_ok o.producer o.epoch o.txn
              rw [decide_eq_true c5] at sc5
              by_cases c6 : 0 ≤ o.part ∧ o.part ≤ 3
              · have sc6 := isIn_ok o.part 0 3
                rw [decide_eq_true c6] at sc6
                by_cases c7 : namedO o = o
                · skip
                  rw [decide_eq_true (hoi.2 ⟨c1, c2, c3, c4, c5, c6, c7⟩)]
                  skip
                  refine Wp.seq ?_
                  refine Wp.draw (by kernel_rfl) ?_
                  refine WpR.take (i := 0) rfl (by kernel_rfl) (by kernel_rfl) (by kernel_rfl) (Rdo.fieldAddr0 rfl) rfl ?_
                  refine WpR.one (i := 1) rfl (by kernel_rfl) (Stp.rd (Rdo.load rfl (Lds.one rfl)) rfl ?_)
                  refine WpR.one (i := 2) rfl (by kernel_rfl) (Stp.call (sc1) (by kernel_rfl) rfl (by repeat (first | exact Tk.nil | apply Tk.cons (by repeat (first | exact Pk.here | apply Pk.next)))) rfl ?_)
                  rintro _ _ ⟨rfl, rfl⟩
                  refine WpR.lst (by simp only [List.cons_append, List.nil_append]; exact rfl) ?_
                  refine WpR.take (i := 3) rfl (by kernel_rfl) (by kernel_rfl) (by kernel_rfl) (Rdo.move rfl) rfl ?_
                  refine WpR.want (i := 4) rfl rfl rfl rfl (by kernel_rfl) (by kernel_rfl) (by kernel_rfl) (Rdo.fieldAddr0 rfl) rfl ?_
                  refine WpR.oneG (i := 5) rfl rfl rfl rfl (by kernel_rfl) (Stp.rd (Rdo.load rfl (Lds.one rfl)) rfl ?_)
                  refine WpR.oneG (i := 6) rfl rfl rfl rfl (by kernel_rfl) (Stp.call (sc2) (by kernel_rfl) rfl (by repeat (first | exact Tk.nil | apply Tk.cons (by repeat (first | exact Pk.here | apply Pk.next)))) rfl ?_)
                  rintro _ _ ⟨rfl, rfl⟩
                  refine WpR.lst (by simp only [List.cons_append, List.nil_append]; exact rfl) ?_
                  refine WpR.take (i := 7) rfl (by kernel_rfl) (by kernel_rfl) (by kernel_rfl) (Rdo.pick_t rfl rfl) rfl ?_
                  refine WpR.take (i := 8) rfl (by kernel_rfl) (by kernel_rfl) (by kernel_rfl) (Rdo.move rfl) rfl ?_
                  refine WpR.want (i := 9) rfl rfl rfl rfl (by kernel_rfl) (by kernel_rfl) (by kernel_rfl) (Rdo.fieldAddr0 rfl) rfl ?_
                  refine WpR.oneG (i := 10) rfl rfl rfl rfl (by kernel_rfl) (Stp.rd (Rdo.load rfl (Lds.one rfl)) rfl ?_)
                  refine WpR.oneG (i := 11) rfl rfl rfl rfl (by kernel_rfl) (Stp.call (sc3) (by kernel_rfl) rfl (by repeat (first | exact Tk.nil | apply Tk.cons (by repeat (first | exact Pk.here | apply Pk.next)))) rfl ?_)
                  rintro _ _ ⟨rfl, rfl⟩
                  refine WpR.lst (by simp only [List.cons_append, List.nil_append]; exact rfl) ?_
                  refine WpR.take (i := 12) rfl (by kernel_rfl) (by kernel_rfl) (by kernel_rfl) (Rdo.pick_t rfl rfl) rfl ?_
                  refine WpR.take (i := 13) rfl (by kernel_rfl) (by kernel_rfl) (by kernel_rfl) (Rdo.move rfl) rfl ?_
                  refine WpR.want (i := 14) rfl rfl rfl rfl (by kernel_rfl) (by kernel_rfl) (by kernel_rfl) (Rdo.move rfl) rfl ?_
                  refine WpR.take (i := 15) rfl (by kernel_rfl) (by kernel_rfl) (by kernel_rfl) (Rdo.pick_t rfl rfl) rfl ?_
                  refine WpR.take (i := 16) rfl (by kernel_rfl) (by kernel_rfl) (by kernel_rfl) (Rdo.move rfl) rfl ?_
                  refine WpR.want (i := 17) rfl rfl rfl rfl (by kernel_rfl) (by kernel_rfl) (by kernel_rfl) (Rdo.fieldAddr0 rfl) rfl ?_
                  refine WpR.want (i := 19) rfl rfl rfl rfl (by kernel_rfl) (by kernel_rfl) (by kernel_rfl) (Rdo.fieldAddr0 rfl) rfl ?_
                  refine WpR.want (i := 21) rfl rfl rfl rfl (by kernel_rfl) (by kernel_rfl) (by kernel_rfl) (Rdo.fieldAddr0 rfl) rfl ?_
                  refine WpR.phaseL (m := 0) #[true, true, true, true, true, true, true, true, true, true, true, true, true, true, true, true, true, true, true, true, true, true, true, true, true, true, true, true, true, true, true, true, true, true, true, true, true] 17 _ rfl (by kernel_rfl) (Tk.cons Pk.here Tk.nil) ?_
                  refine WpA.want (i := 18) rfl rfl rfl rfl rfl (by kernel_rfl) (by kernel_rfl) (by kernel_rfl) (Rdo.load rfl (Lds.one rfl)) rfl ?_
                  refine WpA.want (i := 20) rfl rfl rfl rfl rfl (by kernel_rfl) (by kernel_rfl) (by kernel_rfl) (Rdo.load rfl (Lds.one rfl)) rfl ?_
                  refine WpA.want (i := 22) rfl rfl rfl rfl rfl (by kernel_rfl) (by kernel_rfl) (by kernel_rfl) (Rdo.load rfl (Lds.one rfl)) rfl ?_
                  refine WpA.oneG (i := 23) rfl rfl rfl rfl (by kernel_rfl) (Stp.call (sc5) (by kernel_rfl) rfl (by repeat (first | exact Tk.nil | apply Tk.cons (by repeat (first | exact Pk.here | apply Pk.next)))) rfl ?_)
                  rintro _ _ ⟨rfl, rfl⟩
                  refine WpA.lst (by simp only [List.cons_append, List.nil_append]; exact rfl) ?_
                  refine WpA.take (i := 24) rfl rfl (by kernel_rfl) (by kernel_rfl) (by kernel_rfl) (Rdo.pick_t rfl rfl) rfl ?_
                  refine WpA.take (i := 25) rfl rfl (by kernel_rfl) (by kernel_rfl) (by kernel_rfl) (Rdo.move rfl) rfl ?_
                  refine WpA.want (i := 26) rfl rfl rfl rfl rfl (by kernel_rfl) (by kernel_rfl) (by kernel_rfl) (Rdo.fieldAddr0 rfl) rfl ?_
                  refine WpA.want (i := 27) rfl rfl rfl rfl rfl (by kernel_rfl) (by kernel_rfl) (by kernel_rfl) (Rdo.load rfl (Lds.one rfl)) rfl ?_
                  refine WpA.oneG (i := 28) rfl rfl rfl rfl (by kernel_rfl) (Stp.call (sc6) (by kernel_rfl) rfl (by repeat (first | exact Tk.nil | apply Tk.cons (by repeat (first | exact Pk.here | apply Pk.next)))) rfl ?_)
                  rintro _ _ ⟨rfl, rfl⟩
                  refine WpA.lst (by simp only [List.cons_append, List.nil_append]; exact rfl) ?_
                  refine WpA.take (i := 29) rfl rfl (by kernel_rfl) (by kernel_rfl) (by kernel_rfl) (Rdo.pick_t rfl rfl) rfl ?_
                  refine WpA.take (i := 30) rfl rfl (by kernel_rfl) (by kernel_rfl) (by kernel_rfl) (Rdo.move rfl) rfl ?_
                  refine WpA.want (i := 31) rfl rfl rfl rfl rfl (by kernel_rfl) (by kernel_rfl) (by kernel_rfl) (Rdo.load rfl (by apply Lds.all; (first | rfl | assumption | (simp <;> fail)))) rfl ?_
                  refine WpA.want (i := 33) rfl rfl rfl rfl rfl (by kernel_rfl) (by kernel_rfl) (by kernel_rfl) (Rdo.load rfl (by apply Lds.all; (first | rfl | assumption | (simp <;> fail)))) rfl ?_
                  refine WpA.oneG (i := 32) rfl rfl rfl rfl (by kernel_rfl) (Stp.call (hnm) (by kernel_rfl) rfl (by repeat (first | exact Tk.nil | apply Tk.cons (by repeat (first | exact Pk.here | apply Pk.next)))) rfl ?_)
                  rintro _ _ ⟨rfl, rfl⟩
                  refine WpA.lst (by simp only [List.cons_append, List.nil_append]; exact rfl) ?_
                  refine WpA.want (i := 34) rfl rfl rfl rfl rfl (by kernel_rfl) (by kernel_rfl) (by kernel_rfl) (Rdo.eqagg rfl rfl (by first | rfl | exact oks_hc _ | exact oks_voteC _ | assumption) (by first | rfl | exact oks_hc _ | exact oks_voteC _ | assumption)) rfl ?_
                  refine WpA.take (i := 35) rfl rfl (by kernel_rfl) (by kernel_rfl) (by kernel_rfl) (Rdo.pick_t rfl rfl) rfl ?_
                  refine WpA.take (i := 36) rfl rfl (by kernel_rfl) (by kernel_rfl) (by kernel_rfl) (Rdo.assign rfl) rfl ?_
                  refine WpA.stop (by kernel_rfl) ?_
                  refine WpR.lst (by simp only [List.cons_append, List.nil_append]; exact rfl) ?_
                  refine WpR.done (by kernel_rfl) ?_
                  refine Thn.n ?_
                  refine Wp.ret ?_
                  refine Ret.now (ResV.tmp rfl ResV.nil) (Gh.tk (by repeat (first | exact Tk.nil | apply Tk.cons (by repeat (first | exact Pk.here | apply Pk.next))))) ⟨(by first | rfl | (simp [packed] <;> done) | (simp_all [packed] <;> done)), rfl⟩
                · rw [decide_eq_false (fun h => c7 ((hoi.1 h).2.2.2.2.2.2))]
                  have hc7 : ¬ opC (namedO o) = opC o := fun h => c7 (opC_inj h)
                  refine Wp.seq ?_
                  refine Wp.draw (by kernel_rfl) ?_
                  refine WpR.take (i := 0) rfl (by kernel_rfl) (by kernel_rfl) (by kernel_rfl) (Rdo.fieldAddr0 rfl) rfl ?_
                  refine WpR.one (i := 1) rfl (by kernel_rfl) (Stp.rd (Rdo.load rfl (Lds.one rfl)) rfl ?_)
                  refine WpR.one (i := 2) rfl (by kernel_rfl) (Stp.call (sc1) (by kernel_rfl) rfl (by repeat (first | exact Tk.nil | apply Tk.cons (by repeat (first | exact Pk.here | apply Pk.next)))) rfl ?_)
                  rintro _ _ ⟨rfl, rfl⟩
                  refine WpR.lst (by simp only [List.cons_append, List.nil_append]; exact rfl) ?_
                  refine WpR.take (i := 3) rfl (by kernel_rfl) (by kernel_rfl) (by kernel_rfl) (Rdo.move rfl) rfl ?_
                  refine WpR.want (i := 4) rfl rfl rfl rfl (by kernel_rfl) (by kernel_rfl) (by kernel_rfl) (Rdo.fieldAddr0 rfl) rfl ?_
                  refine WpR.oneG (i := 5) rfl rfl rfl rfl (by kernel_rfl) (Stp.rd (Rdo.load rfl (Lds.one rfl)) rfl ?_)
                  refine WpR.oneG (i := 6) rfl rfl rfl rfl (by kernel_rfl) (Stp.call (sc2) (by kernel_rfl) rfl (by repeat (first | exact Tk.nil | apply Tk.cons (by repeat (first | exact Pk.here | apply Pk.next)))) rfl ?_)
                  rintro _ _ ⟨rfl, rfl⟩
                  refine WpR.lst (by simp only [List.cons_append, List.nil_append]; exact rfl) ?_
                  refine WpR.take (i := 7) rfl (by kernel_rfl) (by kernel_rfl) (by kernel_rfl) (Rdo.pick_t rfl rfl) rfl ?_
                  refine WpR.take (i := 8) rfl (by kernel_rfl) (by kernel_rfl) (by kernel_rfl) (Rdo.move rfl) rfl ?_
                  refine WpR.want (i := 9) rfl rfl rfl rfl (by kernel_rfl) (by kernel_rfl) (by kernel_rfl) (Rdo.fieldAddr0 rfl) rfl ?_
                  refine WpR.oneG (i := 10) rfl rfl rfl rfl (by kernel_rfl) (Stp.rd (Rdo.load rfl (Lds.one rfl)) rfl ?_)
                  refine WpR.oneG (i := 11) rfl rfl rfl rfl (by kernel_rfl) (Stp.call (sc3) (by kernel_rfl) rfl (by repeat (first | exact Tk.nil | apply Tk.cons (by repeat (first | exact Pk.here | apply Pk.next)))) rfl ?_)
                  rintro _ _ ⟨rfl, rfl⟩
                  refine WpR.lst (by simp only [List.cons_append, List.nil_append]; exact rfl) ?_
                  refine WpR.take (i := 12) rfl (by kernel_rfl) (by kernel_rfl) (by kernel_rfl) (Rdo.pick_t rfl rfl) rfl ?_
                  refine WpR.take (i := 13) rfl (by kernel_rfl) (by kernel_rfl) (by kernel_rfl) (Rdo.move rfl) rfl ?_
                  refine WpR.want (i := 14) rfl rfl rfl rfl (by kernel_rfl) (by kernel_rfl) (by kernel_rfl) (Rdo.move rfl) rfl ?_
                  refine WpR.take (i := 15) rfl (by kernel_rfl) (by kernel_rfl) (by kernel_rfl) (Rdo.pick_t rfl rfl) rfl ?_
                  refine WpR.take (i := 16) rfl (by kernel_rfl) (by kernel_rfl) (by kernel_rfl) (Rdo.move rfl) rfl ?_
                  refine WpR.want (i := 17) rfl rfl rfl rfl (by kernel_rfl) (by kernel_rfl) (by kernel_rfl) (Rdo.fieldAddr0 rfl) rfl ?_
                  refine WpR.want (i := 19) rfl rfl rfl rfl (by kernel_rfl) (by kernel_rfl) (by kernel_rfl) (Rdo.fieldAddr0 rfl) rfl ?_
                  refine WpR.want (i := 21) rfl rfl rfl rfl (by kernel_rfl) (by kernel_rfl) (by kernel_rfl) (Rdo.fieldAddr0 rfl) rfl ?_
                  refine WpR.phaseL (m := 0) #[true, true, true, true, true, true, true, true, true, true, true, true, true, true, true, true, true, true, true, true, true, true, true, true, true, true, true, true, true, true, true, true, true, true, true, true, true] 17 _ rfl (by kernel_rfl) (Tk.cons Pk.here Tk.nil) ?_
                  refine WpA.want (i := 18) rfl rfl rfl rfl rfl (by kernel_rfl) (by kernel_rfl) (by kernel_rfl) (Rdo.load rfl (Lds.one rfl)) rfl ?_
                  refine WpA.want (i := 20) rfl rfl rfl rfl rfl (by kernel_rfl) (by kernel_rfl) (by kernel_rfl) (Rdo.load rfl (Lds.one rfl)) rfl ?_
                  refine WpA.want (i := 22) rfl rfl rfl rfl rfl (by kernel_rfl) (by kernel_rfl) (by kernel_rfl) (Rdo.load rfl (Lds.one rfl)) rfl ?_
                  refine WpA.oneG (i := 23) rfl rfl rfl rfl (by kernel_rfl) (Stp.call (sc5) (by kernel_rfl) rfl (by repeat (first | exact Tk.nil | apply Tk.cons (by repeat (first | exact Pk.here | apply Pk.next)))) rfl ?_)
                  rintro _ _ ⟨rfl, rfl⟩
                  refine WpA.lst (by simp only [List.cons_append, List.nil_append]; exact rfl) ?_
                  refine WpA.take (i := 24) rfl rfl (by kernel_rfl) (by kernel_rfl) (by kernel_rfl) (Rdo.pick_t rfl rfl) rfl ?_
                  refine WpA.take (i := 25) rfl rfl (by kernel_rfl) (by kernel_rfl) (by kernel_rfl) (Rdo.move rfl) rfl ?_
                  refine WpA.want (i := 26) rfl rfl rfl rfl rfl (by kernel_rfl) (by kernel_rfl) (by kernel_rfl) (Rdo.fieldAddr0 rfl) rfl ?_
                  refine WpA.want (i := 27) rfl rfl rfl rfl rfl (by kernel_rfl) (by kernel_rfl) (by kernel_rfl) (Rdo.load rfl (Lds.one rfl)) rfl ?_
                  refine WpA.oneG (i := 28) rfl rfl rfl rfl (by kernel_rfl) (Stp.call (sc6) (by kernel_rfl) rfl (by repeat (first | exact Tk.nil | apply Tk.cons (by repeat (first | exact Pk.here | apply Pk.next)))) rfl ?_)
                  rintro _ _ ⟨rfl, rfl⟩
                  refine WpA.lst (by simp only [List.cons_append, List.nil_append]; exact rfl) ?_
                  refine WpA.take (i := 29) rfl rfl (by kernel_rfl) (by kernel_rfl) (by kernel_rfl) (Rdo.pick_t rfl rfl) rfl ?_
                  refine WpA.take (i := 30) rfl rfl (by kernel_rfl) (by kernel_rfl) (by kernel_rfl) (Rdo.move rfl) rfl ?_
                  refine WpA.want (i := 31) rfl rfl rfl rfl rfl (by kernel_rfl) (by kernel_rfl) (by kernel_rfl) (Rdo.load rfl (by apply Lds.all; (first | rfl | assumption | (simp <;> fail)))) rfl ?_
                  refine WpA.want (i := 33) rfl rfl rfl rfl rfl (by kernel_rfl) (by kernel_rfl) (by kernel_rfl) (Rdo.load rfl (by apply Lds.all; (first | rfl | assumption | (simp <;> fail)))) rfl ?_
                  refine WpA.oneG (i := 32) rfl rfl rfl rfl (by kernel_rfl) (Stp.call (hnm) (by kernel_rfl) rfl (by repeat (first | exact Tk.nil | apply Tk.cons (by repeat (first | exact Pk.here | apply Pk.next)))) rfl ?_)
                  rintro _ _ ⟨rfl, rfl⟩
                  refine WpA.lst (by simp only [List.cons_append, List.nil_append]; exact rfl) ?_
                  refine WpA.want (i := 34) rfl rfl rfl rfl rfl (by kernel_rfl) (by kernel_rfl) (by kernel_rfl) (Rdo.eqagg rfl rfl (by first | rfl | exact oks_hc _ | exact oks_voteC _ | assumption) (by first | rfl | exact oks_hc _ | exact oks_voteC _ | assumption)) rfl ?_
                  refine WpA.take (i := 35) rfl rfl (by kernel_rfl) (by kernel_rfl) (by kernel_rfl) (Rdo.pick_t rfl rfl) rfl ?_
                  refine WpA.take (i := 36) rfl rfl (by kernel_rfl) (by kernel_rfl) (by kernel_rfl) (Rdo.assign rfl) rfl ?_
                  refine WpA.stop (by kernel_rfl) ?_
                  refine WpR.lst (by simp only [List.cons_append, List.nil_append]; exact rfl) ?_
                  refine WpR.done (by kernel_rfl) ?_
                  refine Thn.n ?_
                  refine Wp.ret ?_
                  refine Ret.now (ResV.tmp rfl ResV.nil) (Gh.tk (by repeat (first | exact Tk.nil | apply Tk.cons (by repeat (first | exact Pk.here | apply Pk.next))))) ⟨(by first | rfl | (simp [packed] <;> done) | (simp_all [packed] <;> done)), rfl⟩
              · have sc6 := isIn_ok o.part 0 3
                rw [decide_eq_false c6] at sc6
                rw [decide_eq_false (fun h => c6 ((hoi.1 h).2.2.2.2.2.1))]
                refine Wp.seq ?_
                refine Wp.draw (by kernel_rfl) ?_
                refine WpR.take (i := 0) rfl (by kernel_rfl) (by kernel_rfl) (by kernel_rfl) (Rdo.fieldAddr0 rfl) rfl ?_
                refine WpR.one (i := 1) rfl (by kernel_rfl) (Stp.rd (Rdo.load rfl (Lds.one rfl)) rfl ?_)
                refine WpR.one (i := 2) rfl (by kernel_rfl) (Stp.call (sc1) (by kernel_rfl) rfl (by repeat (first | exact Tk.nil | apply Tk.cons (by repeat (first | exact Pk.here | apply Pk.next)))) rfl ?_)
                rintro _ _ ⟨rfl, rfl⟩
                refine WpR.lst (by simp only [List.cons_append, List.nil_append]; exact rfl) ?_
                refine WpR.take (i := 3) rfl (by kernel_rfl) (by kernel_rfl) (by kernel_rfl) (Rdo.move rfl) rfl ?_
                refine WpR.want (i := 4) rfl rfl rfl rfl (by kernel_rfl) (by kernel_rfl) (by kernel_rfl) (Rdo.fieldAddr0 rfl) rfl ?_
                refine WpR.oneG (i := 5) rfl rfl rfl rfl (by kernel_rfl) (Stp.rd (Rdo.load rfl (Lds.one rfl)) rfl ?_)
                refine WpR.oneG (i := 6) rfl rfl rfl rfl (by kernel_rfl) (Stp.call (sc2) (by kernel_rfl) rfl (by repeat (first | exact Tk.nil | apply Tk.cons (by repeat (first | exact Pk.here | apply Pk.next)))) rfl ?_)
                rintro _ _ ⟨rfl, rfl⟩
                refine WpR.lst (by simp only [List.cons_append, List.nil_append]; exact rfl) ?_
                refine WpR.take (i := 7) rfl (by kernel_rfl) (by kernel_rfl) (by kernel_rfl) (Rdo.pick_t rfl rfl) rfl ?_
                refine WpR.take (i := 8) rfl (by kernel_rfl) (by kernel_rfl) (by kernel_rfl) (Rdo.move rfl) rfl ?_
                refine WpR.want (i := 9) rfl rfl rfl rfl (by kernel_rfl) (by kernel_rfl) (by kernel_rfl) (Rdo.fieldAddr0 rfl) rfl ?_
                refine WpR.oneG (i := 10) rfl rfl rfl rfl (by kernel_rfl) (Stp.rd (Rdo.load rfl (Lds.one rfl)) rfl ?_)
                refine WpR.oneG (i := 11) rfl rfl rfl rfl (by kernel_rfl) (Stp.call (sc3) (by kernel_rfl) rfl (by repeat (first | exact Tk.nil | apply Tk.cons (by repeat (first | exact Pk.here | apply Pk.next)))) rfl ?_)
                rintro _ _ ⟨rfl, rfl⟩
                refine WpR.lst (by simp only [List.cons_append, List.nil_append]; exact rfl) ?_
                refine WpR.take (i := 12) rfl (by kernel_rfl) (by kernel_rfl) (by kernel_rfl) (Rdo.pick_t rfl rfl) rfl ?_
                refine WpR.take (i := 13) rfl (by kernel_rfl) (by kernel_rfl) (by kernel_rfl) (Rdo.move rfl) rfl ?_
                refine WpR.want (i := 14) rfl rfl rfl rfl (by kernel_rfl) (by kernel_rfl) (by kernel_rfl) (Rdo.move rfl) rfl ?_
                refine WpR.take (i := 15) rfl (by kernel_rfl) (by kernel_rfl) (by kernel_rfl) (Rdo.pick_t rfl rfl) rfl ?_
                refine WpR.take (i := 16) rfl (by kernel_rfl) (by kernel_rfl) (by kernel_rfl) (Rdo.move rfl) rfl ?_
                refine WpR.want (i := 17) rfl rfl rfl rfl (by kernel_rfl) (by kernel_rfl) (by kernel_rfl) (Rdo.fieldAddr0 rfl) rfl ?_
                refine WpR.want (i := 19) rfl rfl rfl rfl (by kernel_rfl) (by kernel_rfl) (by kernel_rfl) (Rdo.fieldAddr0 rfl) rfl ?_
                refine WpR.want (i := 21) rfl rfl rfl rfl (by kernel_rfl) (by kernel_rfl) (by kernel_rfl) (Rdo.fieldAddr0 rfl) rfl ?_
                refine WpR.phaseL (m := 0) #[true, true, true, true, true, true, true, true, true, true, true, true, true, true, true, true, true, true, true, true, true, true, true, true, true, true, true, true, true, true, true, true, true, true, true, true, true] 17 _ rfl (by kernel_rfl) (Tk.cons Pk.here Tk.nil) ?_
                refine WpA.want (i := 18) rfl rfl rfl rfl rfl (by kernel_rfl) (by kernel_rfl) (by kernel_rfl) (Rdo.load rfl (Lds.one rfl)) rfl ?_
                refine WpA.want (i := 20) rfl rfl rfl rfl rfl (by kernel_rfl) (by kernel_rfl) (by kernel_rfl) (Rdo.load rfl (Lds.one rfl)) rfl ?_
                refine WpA.want (i := 22) rfl rfl rfl rfl rfl (by kernel_rfl) (by kernel_rfl) (by kernel_rfl) (Rdo.load rfl (Lds.one rfl)) rfl ?_
                refine WpA.oneG (i := 23) rfl rfl rfl rfl (by kernel_rfl) (Stp.call (sc5) (by kernel_rfl) rfl (by repeat (first | exact Tk.nil | apply Tk.cons (by repeat (first | exact Pk.here | apply Pk.next)))) rfl ?_)
                rintro _ _ ⟨rfl, rfl⟩
                refine WpA.lst (by simp only [List.cons_append, List.nil_append]; exact rfl) ?_
                refine WpA.take (i := 24) rfl rfl (by kernel_rfl) (by kernel_rfl) (by kernel_rfl) (Rdo.pick_t rfl rfl) rfl ?_
                refine WpA.take (i := 25) rfl rfl (by kernel_rfl) (by kernel_rfl) (by kernel_rfl) (Rdo.move rfl) rfl ?_
                refine WpA.want (i := 26) rfl rfl rfl rfl rfl (by kernel_rfl) (by kernel_rfl) (by kernel_rfl) (Rdo.fieldAddr0 rfl) rfl ?_
                refine WpA.want (i := 27) rfl rfl rfl rfl rfl (by kernel_rfl) (by kernel_rfl) (by kernel_rfl) (Rdo.load rfl (Lds.one rfl)) rfl ?_
                refine WpA.oneG (i := 28) rfl rfl rfl rfl (by kernel_rfl) (Stp.call (sc6) (by kernel_rfl) rfl (by repeat (first | exact Tk.nil | apply Tk.cons (by repeat (first | exact Pk.here | apply Pk.next)))) rfl ?_)
                rintro _ _ ⟨rfl, rfl⟩
                refine WpA.lst (by simp only [List.cons_append, List.nil_append]; exact rfl) ?_
                refine WpA.take (i := 29) rfl rfl (by kernel_rfl) (by kernel_rfl) (by kernel_rfl) (Rdo.pick_t rfl rfl) rfl ?_
                refine WpA.take (i := 30) rfl rfl (by kernel_rfl) (by kernel_rfl) (by kernel_rfl) (Rdo.move rfl) rfl ?_
                refine WpA.pass (i := 31) rfl rfl rfl rfl rfl (by kernel_rfl) (by kernel_rfl) (by kernel_rfl) rfl ?_
                refine WpA.pass (i := 32) rfl rfl rfl rfl rfl (by kernel_rfl) (by kernel_rfl) (by kernel_rfl) rfl ?_
                refine WpA.pass (i := 33) rfl rfl rfl rfl rfl (by kernel_rfl) (by kernel_rfl) (by kernel_rfl) rfl ?_
                refine WpA.pass (i := 34) rfl rfl rfl rfl rfl (by kernel_rfl) (by kernel_rfl) (by kernel_rfl) rfl ?_
                refine WpA.take (i := 35) rfl rfl (by kernel_rfl) (by kernel_rfl) (by kernel_rfl) (Rdo.pick_f rfl rfl) rfl ?_
                refine WpA.take (i := 36) rfl rfl (by kernel_rfl) (by kernel_rfl) (by kernel_rfl) (Rdo.assign rfl) rfl ?_
                refine WpA.stop (by kernel_rfl) ?_
                refine WpR.lst (by simp only [List.cons_append, List.nil_append]; exact rfl) ?_
                refine WpR.done (by kernel_rfl) ?_
                refine Thn.n ?_
                refine Wp.ret ?_
                refine Ret.now (ResV.tmp rfl ResV.nil) (Gh.tk (by repeat (first | exact Tk.nil | apply Tk.cons (by repeat (first | exact Pk.here | apply Pk.next))))) ⟨rfl, rfl⟩
            · have sc5 := isProducer_ok o.producer o.epoch o.txn
              rw [decide_eq_false c5] at sc5
              rw [decide_eq_false (fun h => c5 ((hoi.1 h).2.2.2.2.1))]
              refine Wp.seq ?_
              refine Wp.draw (by kernel_rfl) ?_
              refine WpR.take (i := 0) rfl (by kernel_rfl) (by kernel_rfl) (by kernel_rfl) (Rdo.fieldAddr0 rfl) rfl ?_
              refine WpR.one (i := 1) rfl (by kernel_rfl) (Stp.rd (Rdo.load rfl (Lds.one rfl)) rfl ?_)
              refine WpR.one (i := 2) rfl (by kernel_rfl) (Stp.call (sc1) (by kernel_rfl) rfl (by repeat (first | exact Tk.nil | apply Tk.cons (by repeat (first | exact Pk.here | apply Pk.next)))) rfl ?_)
              rintro _ _ ⟨rfl, rfl⟩
              refine WpR.lst (by simp only [List.cons_append, List.nil_append]; exact rfl) ?_
              refine WpR.take (i := 3) rfl (by kernel_rfl) (by kernel_rfl) (by kernel_rfl) (Rdo.move rfl) rfl ?_
              refine WpR.want (i := 4) rfl rfl rfl rfl (by kernel_rfl) (by kernel_rfl) (by kernel_rfl) (Rdo.fieldAddr0 rfl) rfl ?_
              refine WpR.oneG (i := 5) rfl rfl rfl rfl (by kernel_rfl) (Stp.rd (Rdo.load rfl (Lds.one rfl)) rfl ?_)
              refine WpR.oneG (i := 6) rfl rfl rfl rfl (by kernel_rfl) (Stp.call (sc2) (by kernel_rfl) rfl (by repeat (first | exact Tk.nil | apply Tk.cons (by repeat (first | exact Pk.here | apply Pk.next)))) rfl ?_)
              rintro _ _ ⟨rfl, rfl⟩
              refine WpR.lst (by simp only [List.cons_append, List.nil_append]; exact rfl) ?_
              refine WpR.take (i := 7) rfl (by kernel_rfl) (by kernel_rfl) (by kernel_rfl) (Rdo.pick_t rfl rfl) rfl ?_
              refine WpR.take (i := 8) rfl (by kernel_rfl) (by kernel_rfl) (by kernel_rfl) (Rdo.move rfl) rfl ?_
              refine WpR.want (i := 9) rfl rfl rfl rfl (by kernel_rfl) (by kernel_rfl) (by kernel_rfl) (Rdo.fieldAddr0 rfl) rfl ?_
              refine WpR.oneG (i := 10) rfl rfl rfl rfl (by kernel_rfl) (Stp.rd (Rdo.load rfl (Lds.one rfl)) rfl ?_)
              refine WpR.oneG (i := 11) rfl rfl rfl rfl (by kernel_rfl) (Stp.call (sc3) (by kernel_rfl) rfl (by repeat (first | exact Tk.nil | apply Tk.cons (by repeat (first | exact Pk.here | apply Pk.next)))) rfl ?_)
              rintro _ _ ⟨rfl, rfl⟩
              refine WpR.lst (by simp only [List.cons_append, List.nil_append]; exact rfl) ?_
              refine WpR.take (i := 12) rfl (by kernel_rfl) (by kernel_rfl) (by kernel_rfl) (Rdo.pick_t rfl rfl) rfl ?_
              refine WpR.take (i := 13) rfl (by kernel_rfl) (by kernel_rfl) (by kernel_rfl) (Rdo.move rfl) rfl ?_
              refine WpR.want (i := 14) rfl rfl rfl rfl (by kernel_rfl) (by kernel_rfl) (by kernel_rfl) (Rdo.move rfl) rfl ?_
              refine WpR.take (i := 15) rfl (by kernel_rfl) (by kernel_rfl) (by kernel_rfl) (Rdo.pick_t rfl rfl) rfl ?_
              refine WpR.take (i := 16) rfl (by kernel_rfl) (by kernel_rfl) (by kernel_rfl) (Rdo.move rfl) rfl ?_
              refine WpR.want (i := 17) rfl rfl rfl rfl (by kernel_rfl) (by kernel_rfl) (by kernel_rfl) (Rdo.fieldAddr0 rfl) rfl ?_
              refine WpR.want (i := 19) rfl rfl rfl rfl (by kernel_rfl) (by kernel_rfl) (by kernel_rfl) (Rdo.fieldAddr0 rfl) rfl ?_
              refine WpR.want (i := 21) rfl rfl rfl rfl (by kernel_rfl) (by kernel_rfl) (by kernel_rfl) (Rdo.fieldAddr0 rfl) rfl ?_
              refine WpR.phaseL (m := 0) #[true, true, true, true, true, true, true, true, true, true, true, true, true, true, true, true, true, true, true, true, true, true, true, true, true, true, true, true, true, true, true, true, true, true, true, true, true] 17 _ rfl (by kernel_rfl) (Tk.cons Pk.here Tk.nil) ?_
              refine WpA.want (i := 18) rfl rfl rfl rfl rfl (by kernel_rfl) (by kernel_rfl) (by kernel_rfl) (Rdo.load rfl (Lds.one rfl)) rfl ?_
              refine WpA.want (i := 20) rfl rfl rfl rfl rfl (by kernel_rfl) (by kernel_rfl) (by kernel_rfl) (Rdo.load rfl (Lds.one rfl)) rfl ?_
              refine WpA.want (i := 22) rfl rfl rfl rfl rfl (by kernel_rfl) (by kernel_rfl) (by kernel_rfl) (Rdo.load rfl (Lds.one rfl)) rfl ?_
              refine WpA.oneG (i := 23) rfl rfl rfl rfl (by kernel_rfl) (Stp.call (sc5) (by kernel_rfl) rfl (by repeat (first | exact Tk.nil | apply Tk.cons (by repeat (first | exact Pk.here | apply Pk.next)))) rfl ?_)
              rintro _ _ ⟨rfl, rfl⟩
              refine WpA.lst (by simp only [List.cons_append, List.nil_append]; exact rfl) ?_
              refine WpA.take (i := 24) rfl rfl (by kernel_rfl) (by kernel_rfl) (by kernel_rfl) (Rdo.pick_t rfl rfl) rfl ?_
              refine WpA.take (i := 25) rfl rfl (by kernel_rfl) (by kernel_rfl) (by kernel_rfl) (Rdo.move rfl) rfl ?_
              refine WpA.pass (i := 26) rfl rfl rfl rfl rfl (by kernel_rfl) (by kernel_rfl) (by kernel_rfl) rfl ?_
              refine WpA.pass (i := 27) rfl rfl rfl rfl rfl (by kernel_rfl) (by kernel_rfl) (by kernel_rfl) rfl ?_
              refine WpA.pass (i := 28) rfl rfl rfl rfl rfl (by kernel_rfl) (by kernel_rfl) (by kernel_rfl) rfl ?_
              refine WpA.take (i := 29) rfl rfl (by kernel_rfl) (by kernel_rfl) (by kernel_rfl) (Rdo.pick_f rfl rfl) rfl ?_
              refine WpA.take (i := 30) rfl rfl (by kernel_rfl) (by kernel_rfl) (by kernel_rfl) (Rdo.move rfl) rfl ?_
              refine WpA.pass (i := 31) rfl rfl rfl rfl rfl (by kernel_rfl) (by kernel_rfl) (by kernel_rfl) rfl ?_
              refine WpA.pass (i := 32) rfl rfl rfl rfl rfl (by kernel_rfl) (by kernel_rfl) (by kernel_rfl) rfl ?_
              refine WpA.pass (i := 33) rfl rfl rfl rfl rfl (by kernel_rfl) (by kernel_rfl) (by kernel_rfl) rfl ?_
              refine WpA.pass (i := 34) rfl rfl rfl rfl rfl (by kernel_rfl) (by kernel_rfl) (by kernel_rfl) rfl ?_
              refine WpA.take (i := 35) rfl rfl (by kernel_rfl) (by kernel_rfl) (by kernel_rfl) (Rdo.pick_f rfl rfl) rfl ?_
              refine WpA.take (i := 36) rfl rfl (by kernel_rfl) (by kernel_rfl) (by kernel_rfl) (Rdo.assign rfl) rfl ?_
              refine WpA.stop (by kernel_rfl) ?_
              refine WpR.lst (by simp only [List.cons_append, List.nil_append]; exact rfl) ?_
              refine WpR.done (by kernel_rfl) ?_
              refine Thn.n ?_
              refine Wp.ret ?_
              refine Ret.now (ResV.tmp rfl ResV.nil) (Gh.tk (by repeat (first | exact Tk.nil | apply Tk.cons (by repeat (first | exact Pk.here | apply Pk.next))))) ⟨rfl, rfl⟩
          · rw [decide_eq_false c4]
            rw [decide_eq_false (fun h => c4 ((hoi.1 h).2.2.2.1))]
            refine Wp.seq ?_
            refine Wp.draw (by kernel_rfl) ?_
            refine WpR.take (i := 0) rfl (by kernel_rfl) (by kernel_rfl) (by kernel_rfl) (Rdo.fieldAddr0 rfl) rfl ?_
            refine WpR.one (i := 1) rfl (by kernel_rfl) (Stp.rd (Rdo.load rfl (Lds.one rfl)) rfl ?_)
            refine WpR.one (i := 2) rfl (by kernel_rfl) (Stp.call (sc1) (by kernel_rfl) rfl (by repeat (first | exact Tk.nil | apply Tk.cons (by repeat (first | exact Pk.here | apply Pk.next)))) rfl ?_)
            rintro _ _ ⟨rfl, rfl⟩
            refine WpR.lst (by simp only [List.cons_append, List.nil_append]; exact rfl) ?_
            refine WpR.take (i := 3) rfl (by kernel_rfl) (by kernel_rfl) (by kernel_rfl) (Rdo.move rfl) rfl ?_
            refine WpR.want (i := 4) rfl rfl rfl rfl (by kernel_rfl) (by kernel_rfl) (by kernel_rfl) (Rdo.fieldAddr0 rfl) rfl ?_
            refine WpR.oneG (i := 5) rfl rfl rfl rfl (by kernel_rfl) (Stp.rd (Rdo.load rfl (Lds.one rfl)) rfl ?_)
            refine WpR.oneG (i := 6) rfl rfl rfl rfl (by kernel_rfl) (Stp.call (sc2) (by kernel_rfl) rfl (by repeat (first | exact Tk.nil | apply Tk.cons (by repeat (first | exact Pk.here | apply Pk.next)))) rfl ?_)
            rintro _ _ ⟨rfl, rfl⟩
            refine WpR.lst (by simp only [List.cons_append, List.nil_append]; exact rfl) ?_
            refine WpR.take (i := 7) rfl (by kernel_rfl) (by kernel_rfl) (by kernel_rfl) (Rdo.pick_t rfl rfl) rfl ?_
            refine WpR.take (i := 8) rfl (by kernel_rfl) (by kernel_rfl) (by kernel_rfl) (Rdo.move rfl) rfl ?_
            refine WpR.want (i := 9) rfl rfl rfl rfl (by kernel_rfl) (by kernel_rfl) (by kernel_rfl) (Rdo.fieldAddr0 rfl) rfl ?_
            refine WpR.oneG (i := 10) rfl rfl rfl rfl (by kernel_rfl) (Stp.rd (Rdo.load rfl (Lds.one rfl)) rfl ?_)
            refine WpR.oneG (i := 11) rfl rfl rfl rfl (by kernel_rfl) (Stp.call (sc3) (by kernel_rfl) rfl (by repeat (first | exact Tk.nil | apply Tk.cons (by repeat (first | exact Pk.here | apply Pk.next)))) rfl ?_)
            rintro _ _ ⟨rfl, rfl⟩
            refine WpR.lst (by simp only [List.cons_append, List.nil_append]; exact rfl) ?_
            refine WpR.take (i := 12) rfl (by kernel_rfl) (by kernel_rfl) (by kernel_rfl) (Rdo.pick_t rfl rfl) rfl ?_
            refine WpR.take (i := 13) rfl (by kernel_rfl) (by kernel_rfl) (by kernel_rfl) (Rdo.move rfl) rfl ?_
            refine WpR.want (i := 14) rfl rfl rfl rfl (by kernel_rfl) (by kernel_rfl) (by kernel_rfl) (Rdo.move rfl) rfl ?_
            refine WpR.take (i := 15) rfl (by kernel_rfl) (by kernel_rfl) (by kernel_rfl) (Rdo.pick_t rfl rfl) rfl ?_
            refine WpR.take (i := 16) rfl (by kernel_rfl) (by kernel_rfl) (by kernel_rfl) (Rdo.move rfl) rfl ?_
            refine WpR.pass (i := 17) rfl rfl rfl rfl (by kernel_rfl) (by kernel_rfl) (by kernel_rfl) rfl ?_
            refine WpR.pass (i := 18) rfl rfl rfl rfl (by kernel_rfl) (by kernel_rfl) (by kernel_rfl) rfl ?_
            refine WpR.pass (i := 19) rfl rfl rfl rfl (by kernel_rfl) (by kernel_rfl) (by kernel_rfl) rfl ?_
            refine WpR.pass (i := 20) rfl rfl rfl rfl (by kernel_rfl) (by kernel_rfl) (by kernel_rfl) rfl ?_
            refine WpR.pass (i := 21) rfl rfl rfl rfl (by kernel_rfl) (by kernel_rfl) (by kernel_rfl) rfl ?_
            refine WpR.pass (i := 22) rfl rfl rfl rfl (by kernel_rfl) (by kernel_rfl) (by kernel_rfl) rfl ?_
            refine WpR.pass (i := 23) rfl rfl rfl rfl (by kernel_rfl) (by kernel_rfl) (by kernel_rfl) rfl ?_
            refine WpR.take (i := 24) rfl (by kernel_rfl) (by kernel_rfl) (by kernel_rfl) (Rdo.pick_f rfl rfl) rfl ?_
            refine WpR.take (i := 25) rfl (by kernel_rfl) (by kernel_rfl) (by kernel_rfl) (Rdo.move rfl) rfl ?_
            refine WpR.pass (i := 26) rfl rfl rfl rfl (by kernel_rfl) (by kernel_rfl) (by kernel_rfl) rfl ?_
            refine WpR.pass (i := 27) rfl rfl rfl rfl (by kernel_rfl) (by kernel_rfl) (by kernel_rfl) rfl ?_
            refine WpR.pass (i := 28) rfl rfl rfl rfl (by kernel_rfl) (by kernel_rfl) (by kernel_rfl) rfl ?_
            refine WpR.take (i := 29) rfl (by kernel_rfl) (by kernel_rfl) (by kernel_rfl) (Rdo.pick_f rfl rfl) rfl ?_
            refine WpR.take (i := 30) rfl (by kernel_rfl) (by kernel_rfl) (by kernel_rfl) (Rdo.move rfl) rfl ?_
            refine WpR.pass (i := 31) rfl rfl rfl rfl (by kernel_rfl) (by kernel_rfl) (by kernel_rfl) rfl ?_
            refine WpR.pass (i := 32) rfl rfl rfl rfl (by kernel_rfl) (by kernel_rfl) (by kernel_rfl) rfl ?_
            refine WpR.pass (i := 33) rfl rfl rfl rfl (by kernel_rfl) (by kernel_rfl) (by kernel_rfl) rfl ?_
            refine WpR.pass (i := 34) rfl rfl rfl rfl (by kernel_rfl) (by kernel_rfl) (by kernel_rfl) rfl ?_
            refine WpR.take (i := 35) rfl (by kernel_rfl) (by kernel_rfl) (by kernel_rfl) (Rdo.pick_f rfl rfl) rfl ?_
            refine WpR.take (i := 36) rfl (by kernel_rfl) (by kernel_rfl) (by kernel_rfl) (Rdo.assign rfl) rfl ?_
            refine WpR.done (by kernel_rfl) ?_
            refine Thn.n ?_
            refine Wp.ret ?_
            refine Ret.now (ResV.tmp rfl ResV.nil) (Gh.tk (by repeat (first | exact Tk.nil | apply Tk.cons (by repeat (first | exact Pk.here | apply Pk.next))))) ⟨rfl, rfl⟩
        · have sc3 := isIn_ok o.seq 0 1048576
          rw [decide_eq_false c3] at sc3
          rw [decide_eq_false (fun h => c3 ((hoi.1 h).2.2.1))]
          refine Wp.seq ?_
          refine Wp.draw (by kernel_rfl) ?_
          refine WpR.take (i := 0) rfl (by kernel_rfl) (by kernel_rfl) (by kernel_rfl) (Rdo.fieldAddr0 rfl) rfl ?_
          refine WpR.one (i := 1) rfl (by kernel_rfl) (Stp.rd (Rdo.load rfl (Lds.one rfl)) rfl ?_)
          refine WpR.one (i := 2) rfl (by kernel_rfl) (Stp.call (sc1) (by kernel_rfl) rfl (by repeat (first | exact Tk.nil | apply Tk.cons (by repeat (first | exact Pk.here | apply Pk.next)))) rfl ?_)
          rintro _ _ ⟨rfl, rfl⟩
          refine WpR.lst (by simp only [List.cons_append, List.nil_append]; exact rfl) ?_
          refine WpR.take (i := 3) rfl (by kernel_rfl) (by kernel_rfl) (by kernel_rfl) (Rdo.move rfl) rfl ?_
          refine WpR.want (i := 4) rfl rfl rfl rfl (by kernel_rfl) (by kernel_rfl) (by kernel_rfl) (Rdo.fieldAddr0 rfl) rfl ?_
          refine WpR.oneG (i := 5) rfl rfl rfl rfl (by kernel_rfl) (Stp.rd (Rdo.load rfl (Lds.one rfl)) rfl ?_)
          refine WpR.oneG (i := 6) rfl rfl rfl rfl (by kernel_rfl) (Stp.call (sc2) (by kernel_rfl) rfl (by repeat (first | exact Tk.nil | apply Tk.cons (by repeat (first | exact Pk.here | apply Pk.next)))) rfl ?_)
          rintro _ _ ⟨rfl, rfl⟩
          refine WpR.lst (by simp only [List.cons_append, List.nil_append]; exact rfl) ?_
          refine WpR.take (i := 7) rfl (by kernel_rfl) (by kernel_rfl) (by kernel_rfl) (Rdo.pick_t rfl rfl) rfl ?_
          refine WpR.take (i := 8) rfl (by kernel_rfl) (by kernel_rfl) (by kernel_rfl) (Rdo.move rfl) rfl ?_
          refine WpR.want (i := 9) rfl rfl rfl rfl (by kernel_rfl) (by kernel_rfl) (by kernel_rfl) (Rdo.fieldAddr0 rfl) rfl ?_
          refine WpR.oneG (i := 10) rfl rfl rfl rfl (by kernel_rfl) (Stp.rd (Rdo.load rfl (Lds.one rfl)) rfl ?_)
          refine WpR.oneG (i := 11) rfl rfl rfl rfl (by kernel_rfl) (Stp.call (sc3) (by kernel_rfl) rfl (by repeat (first | exact Tk.nil | apply Tk.cons (by repeat (first | exact Pk.here | apply Pk.next)))) rfl ?_)
          rintro _ _ ⟨rfl, rfl⟩
          refine WpR.lst (by simp only [List.cons_append, List.nil_append]; exact rfl) ?_
          refine WpR.take (i := 12) rfl (by kernel_rfl) (by kernel_rfl) (by kernel_rfl) (Rdo.pick_t rfl rfl) rfl ?_
          refine WpR.take (i := 13) rfl (by kernel_rfl) (by kernel_rfl) (by kernel_rfl) (Rdo.move rfl) rfl ?_
          refine WpR.pass (i := 14) rfl rfl rfl rfl (by kernel_rfl) (by kernel_rfl) (by kernel_rfl) rfl ?_
          refine WpR.take (i := 15) rfl (by kernel_rfl) (by kernel_rfl) (by kernel_rfl) (Rdo.pick_f rfl rfl) rfl ?_
          refine WpR.take (i := 16) rfl (by kernel_rfl) (by kernel_rfl) (by kernel_rfl) (Rdo.move rfl) rfl ?_
          refine WpR.pass (i := 17) rfl rfl rfl rfl (by kernel_rfl) (by kernel_rfl) (by kernel_rfl) rfl ?_
          refine WpR.pass (i := 18) rfl rfl rfl rfl (by kernel_rfl) (by kernel_rfl) (by kernel_rfl) rfl ?_
          refine WpR.pass (i := 19) rfl rfl rfl rfl (by kernel_rfl) (by kernel_rfl) (by kernel_rfl) rfl ?_
          refine WpR.pass (i := 20) rfl rfl rfl rfl (by kernel_rfl) (by kernel_rfl) (by kernel_rfl) rfl ?_
          refine WpR.pass (i := 21) rfl rfl rfl rfl (by kernel_rfl) (by kernel_rfl) (by kernel_rfl) rfl ?_
          refine WpR.pass (i := 22) rfl rfl rfl rfl (by kernel_rfl) (by kernel_rfl) (by kernel_rfl) rfl ?_
          refine WpR.pass (i := 23) rfl rfl rfl rfl (by kernel_rfl) (by kernel_rfl) (by kernel_rfl) rfl ?_
          refine WpR.take (i := 24) rfl (by kernel_rfl) (by kernel_rfl) (by kernel_rfl) (Rdo.pick_f rfl rfl) rfl ?_
          refine WpR.take (i := 25) rfl (by kernel_rfl) (by kernel_rfl) (by kernel_rfl) (Rdo.move rfl) rfl ?_
          refine WpR.pass (i := 26) rfl rfl rfl rfl (by kernel_rfl) (by kernel_rfl) (by kernel_rfl) rfl ?_
          refine WpR.pass (i := 27) rfl rfl rfl rfl (by kernel_rfl) (by kernel_rfl) (by kernel_rfl) rfl ?_
          refine WpR.pass (i := 28) rfl rfl rfl rfl (by kernel_rfl) (by kernel_rfl) (by kernel_rfl) rfl ?_
          refine WpR.take (i := 29) rfl (by kernel_rfl) (by kernel_rfl) (by kernel_rfl) (Rdo.pick_f rfl rfl) rfl ?_
          refine WpR.take (i := 30) rfl (by kernel_rfl) (by kernel_rfl) (by kernel_rfl) (Rdo.move rfl) rfl ?_
          refine WpR.pass (i := 31) rfl rfl rfl rfl (by kernel_rfl) (by kernel_rfl) (by kernel_rfl) rfl ?_
          refine WpR.pass (i := 32) rfl rfl rfl rfl (by kernel_rfl) (by kernel_rfl) (by kernel_rfl) rfl ?_
          refine WpR.pass (i := 33) rfl rfl rfl rfl (by kernel_rfl) (by kernel_rfl) (by kernel_rfl) rfl ?_
          refine WpR.pass (i := 34) rfl rfl rfl rfl (by kernel_rfl) (by kernel_rfl) (by kernel_rfl) rfl ?_
          refine WpR.take (i := 35) rfl (by kernel_rfl) (by kernel_rfl) (by kernel_rfl) (Rdo.pick_f rfl rfl) rfl ?_
          refine WpR.take (i := 36) rfl (by kernel_rfl) (by kernel_rfl) (by kernel_rfl) (Rdo.assign rfl) rfl ?_
          refine WpR.done (by kernel_rfl) ?_
          refine Thn.n ?_
          refine Wp.ret ?_
          refine Ret.now (ResV.tmp rfl ResV.nil) (Gh.tk (by repeat (first | exact Tk.nil | apply Tk.cons (by repeat (first | exact Pk.here | apply Pk.next))))) ⟨rfl, rfl⟩
      · have sc2 := isIn_ok o.client 0 15
        rw [decide_eq_false c2] at sc2
        rw [decide_eq_false (fun h => c2 ((hoi.1 h).2.1))]
        refine Wp.seq ?_
        refine Wp.draw (by kernel_rfl) ?_
        refine WpR.take (i := 0) rfl (by kernel_rfl) (by kernel_rfl) (by kernel_rfl) (Rdo.fieldAddr0 rfl) rfl ?_
        refine WpR.one (i := 1) rfl (by kernel_rfl) (Stp.rd (Rdo.load rfl (Lds.one rfl)) rfl ?_)
        refine WpR.one (i := 2) rfl (by kernel_rfl) (Stp.call (sc1) (by kernel_rfl) rfl (by repeat (first | exact Tk.nil | apply Tk.cons (by repeat (first | exact Pk.here | apply Pk.next)))) rfl ?_)
        rintro _ _ ⟨rfl, rfl⟩
        refine WpR.lst (by simp only [List.cons_append, List.nil_append]; exact rfl) ?_
        refine WpR.take (i := 3) rfl (by kernel_rfl) (by kernel_rfl) (by kernel_rfl) (Rdo.move rfl) rfl ?_
        refine WpR.want (i := 4) rfl rfl rfl rfl (by kernel_rfl) (by kernel_rfl) (by kernel_rfl) (Rdo.fieldAddr0 rfl) rfl ?_
        refine WpR.oneG (i := 5) rfl rfl rfl rfl (by kernel_rfl) (Stp.rd (Rdo.load rfl (Lds.one rfl)) rfl ?_)
        refine WpR.oneG (i := 6) rfl rfl rfl rfl (by kernel_rfl) (Stp.call (sc2) (by kernel_rfl) rfl (by repeat (first | exact Tk.nil | apply Tk.cons (by repeat (first | exact Pk.here | apply Pk.next)))) rfl ?_)
        rintro _ _ ⟨rfl, rfl⟩
        refine WpR.lst (by simp only [List.cons_append, List.nil_append]; exact rfl) ?_
        refine WpR.take (i := 7) rfl (by kernel_rfl) (by kernel_rfl) (by kernel_rfl) (Rdo.pick_t rfl rfl) rfl ?_
        refine WpR.take (i := 8) rfl (by kernel_rfl) (by kernel_rfl) (by kernel_rfl) (Rdo.move rfl) rfl ?_
        refine WpR.pass (i := 9) rfl rfl rfl rfl (by kernel_rfl) (by kernel_rfl) (by kernel_rfl) rfl ?_
        refine WpR.pass (i := 10) rfl rfl rfl rfl (by kernel_rfl) (by kernel_rfl) (by kernel_rfl) rfl ?_
        refine WpR.pass (i := 11) rfl rfl rfl rfl (by kernel_rfl) (by kernel_rfl) (by kernel_rfl) rfl ?_
        refine WpR.take (i := 12) rfl (by kernel_rfl) (by kernel_rfl) (by kernel_rfl) (Rdo.pick_f rfl rfl) rfl ?_
        refine WpR.take (i := 13) rfl (by kernel_rfl) (by kernel_rfl) (by kernel_rfl) (Rdo.move rfl) rfl ?_
        refine WpR.pass (i := 14) rfl rfl rfl rfl (by kernel_rfl) (by kernel_rfl) (by kernel_rfl) rfl ?_
        refine WpR.take (i := 15) rfl (by kernel_rfl) (by kernel_rfl) (by kernel_rfl) (Rdo.pick_f rfl rfl) rfl ?_
        refine WpR.take (i := 16) rfl (by kernel_rfl) (by kernel_rfl) (by kernel_rfl) (Rdo.move rfl) rfl ?_
        refine WpR.pass (i := 17) rfl rfl rfl rfl (by kernel_rfl) (by kernel_rfl) (by kernel_rfl) rfl ?_
        refine WpR.pass (i := 18) rfl rfl rfl rfl (by kernel_rfl) (by kernel_rfl) (by kernel_rfl) rfl ?_
        refine WpR.pass (i := 19) rfl rfl rfl rfl (by kernel_rfl) (by kernel_rfl) (by kernel_rfl) rfl ?_
        refine WpR.pass (i := 20) rfl rfl rfl rfl (by kernel_rfl) (by kernel_rfl) (by kernel_rfl) rfl ?_
        refine WpR.pass (i := 21) rfl rfl rfl rfl (by kernel_rfl) (by kernel_rfl) (by kernel_rfl) rfl ?_
        refine WpR.pass (i := 22) rfl rfl rfl rfl (by kernel_rfl) (by kernel_rfl) (by kernel_rfl) rfl ?_
        refine WpR.pass (i := 23) rfl rfl rfl rfl (by kernel_rfl) (by kernel_rfl) (by kernel_rfl) rfl ?_
        refine WpR.take (i := 24) rfl (by kernel_rfl) (by kernel_rfl) (by kernel_rfl) (Rdo.pick_f rfl rfl) rfl ?_
        refine WpR.take (i := 25) rfl (by kernel_rfl) (by kernel_rfl) (by kernel_rfl) (Rdo.move rfl) rfl ?_
        refine WpR.pass (i := 26) rfl rfl rfl rfl (by kernel_rfl) (by kernel_rfl) (by kernel_rfl) rfl ?_
        refine WpR.pass (i := 27) rfl rfl rfl rfl (by kernel_rfl) (by kernel_rfl) (by kernel_rfl) rfl ?_
        refine WpR.pass (i := 28) rfl rfl rfl rfl (by kernel_rfl) (by kernel_rfl) (by kernel_rfl) rfl ?_
        refine WpR.take (i := 29) rfl (by kernel_rfl) (by kernel_rfl) (by kernel_rfl) (Rdo.pick_f rfl rfl) rfl ?_
        refine WpR.take (i := 30) rfl (by kernel_rfl) (by kernel_rfl) (by kernel_rfl) (Rdo.move rfl) rfl ?_
        refine WpR.pass (i := 31) rfl rfl rfl rfl (by kernel_rfl) (by kernel_rfl) (by kernel_rfl) rfl ?_
        refine WpR.pass (i := 32) rfl rfl rfl rfl (by kernel_rfl) (by kernel_rfl) (by kernel_rfl) rfl ?_
        refine WpR.pass (i := 33) rfl rfl rfl rfl (by kernel_rfl) (by kernel_rfl) (by kernel_rfl) rfl ?_
        refine WpR.pass (i := 34) rfl rfl rfl rfl (by kernel_rfl) (by kernel_rfl) (by kernel_rfl) rfl ?_
        refine WpR.take (i := 35) rfl (by kernel_rfl) (by kernel_rfl) (by kernel_rfl) (Rdo.pick_f rfl rfl) rfl ?_
        refine WpR.take (i := 36) rfl (by kernel_rfl) (by kernel_rfl) (by kernel_rfl) (Rdo.assign rfl) rfl ?_
        refine WpR.done (by kernel_rfl) ?_
        refine Thn.n ?_
        refine Wp.ret ?_
        refine Ret.now (ResV.tmp rfl ResV.nil) (Gh.tk (by repeat (first | exact Tk.nil | apply Tk.cons (by repeat (first | exact Pk.here | apply Pk.next))))) ⟨rfl, rfl⟩
    · have sc1 := isIn_ok o.kind 1 4
      rw [decide_eq_false c1] at sc1
      rw [decide_eq_false (fun h => c1 ((hoi.1 h).1))]
      refine Wp.seq ?_
      refine Wp.draw (by kernel_rfl) ?_
      refine WpR.take (i := 0) rfl (by kernel_rfl) (by kernel_rfl) (by kernel_rfl) (Rdo.fieldAddr0 rfl) rfl ?_
      refine WpR.one (i := 1) rfl (by kernel_rfl) (Stp.rd (Rdo.load rfl (Lds.one rfl)) rfl ?_)
      refine WpR.one (i := 2) rfl (by kernel_rfl) (Stp.call (sc1) (by kernel_rfl) rfl (by repeat (first | exact Tk.nil | apply Tk.cons (by repeat (first | exact Pk.here | apply Pk.next)))) rfl ?_)
      rintro _ _ ⟨rfl, rfl⟩
      refine WpR.lst (by simp only [List.cons_append, List.nil_append]; exact rfl) ?_
      refine WpR.take (i := 3) rfl (by kernel_rfl) (by kernel_rfl) (by kernel_rfl) (Rdo.move rfl) rfl ?_
      refine WpR.pass (i := 4) rfl rfl rfl rfl (by kernel_rfl) (by kernel_rfl) (by kernel_rfl) rfl ?_
      refine WpR.pass (i := 5) rfl rfl rfl rfl (by kernel_rfl) (by kernel_rfl) (by kernel_rfl) rfl ?_
      refine WpR.pass (i := 6) rfl rfl rfl rfl (by kernel_rfl) (by kernel_rfl) (by kernel_rfl) rfl ?_
      refine WpR.take (i := 7) rfl (by kernel_rfl) (by kernel_rfl) (by kernel_rfl) (Rdo.pick_f rfl rfl) rfl ?_
      refine WpR.take (i := 8) rfl (by kernel_rfl) (by kernel_rfl) (by kernel_rfl) (Rdo.move rfl) rfl ?_
      refine WpR.pass (i := 9) rfl rfl rfl rfl (by kernel_rfl) (by kernel_rfl) (by kernel_rfl) rfl ?_
      refine WpR.pass (i := 10) rfl rfl rfl rfl (by kernel_rfl) (by kernel_rfl) (by kernel_rfl) rfl ?_
      refine WpR.pass (i := 11) rfl rfl rfl rfl (by kernel_rfl) (by kernel_rfl) (by kernel_rfl) rfl ?_
      refine WpR.take (i := 12) rfl (by kernel_rfl) (by kernel_rfl) (by kernel_rfl) (Rdo.pick_f rfl rfl) rfl ?_
      refine WpR.take (i := 13) rfl (by kernel_rfl) (by kernel_rfl) (by kernel_rfl) (Rdo.move rfl) rfl ?_
      refine WpR.pass (i := 14) rfl rfl rfl rfl (by kernel_rfl) (by kernel_rfl) (by kernel_rfl) rfl ?_
      refine WpR.take (i := 15) rfl (by kernel_rfl) (by kernel_rfl) (by kernel_rfl) (Rdo.pick_f rfl rfl) rfl ?_
      refine WpR.take (i := 16) rfl (by kernel_rfl) (by kernel_rfl) (by kernel_rfl) (Rdo.move rfl) rfl ?_
      refine WpR.pass (i := 17) rfl rfl rfl rfl (by kernel_rfl) (by kernel_rfl) (by kernel_rfl) rfl ?_
      refine WpR.pass (i := 18) rfl rfl rfl rfl (by kernel_rfl) (by kernel_rfl) (by kernel_rfl) rfl ?_
      refine WpR.pass (i := 19) rfl rfl rfl rfl (by kernel_rfl) (by kernel_rfl) (by kernel_rfl) rfl ?_
      refine WpR.pass (i := 20) rfl rfl rfl rfl (by kernel_rfl) (by kernel_rfl) (by kernel_rfl) rfl ?_
      refine WpR.pass (i := 21) rfl rfl rfl rfl (by kernel_rfl) (by kernel_rfl) (by kernel_rfl) rfl ?_
      refine WpR.pass (i := 22) rfl rfl rfl rfl (by kernel_rfl) (by kernel_rfl) (by kernel_rfl) rfl ?_
      refine WpR.pass (i := 23) rfl rfl rfl rfl (by kernel_rfl) (by kernel_rfl) (by kernel_rfl) rfl ?_
      refine WpR.take (i := 24) rfl (by kernel_rfl) (by kernel_rfl) (by kernel_rfl) (Rdo.pick_f rfl rfl) rfl ?_
      refine WpR.take (i := 25) rfl (by kernel_rfl) (by kernel_rfl) (by kernel_rfl) (Rdo.move rfl) rfl ?_
      refine WpR.pass (i := 26) rfl rfl rfl rfl (by kernel_rfl) (by kernel_rfl) (by kernel_rfl) rfl ?_
      refine WpR.pass (i := 27) rfl rfl rfl rfl (by kernel_rfl) (by kernel_rfl) (by kernel_rfl) rfl ?_
      refine WpR.pass (i := 28) rfl rfl rfl rfl (by kernel_rfl) (by kernel_rfl) (by kernel_rfl) rfl ?_
      refine WpR.take (i := 29) rfl (by kernel_rfl) (by kernel_rfl) (by kernel_rfl) (Rdo.pick_f rfl rfl) rfl ?_
      refine WpR.take (i := 30) rfl (by kernel_rfl) (by kernel_rfl) (by kernel_rfl) (Rdo.move rfl) rfl ?_
      refine WpR.pass (i := 31) rfl rfl rfl rfl (by kernel_rfl) (by kernel_rfl) (by kernel_rfl) rfl ?_
      refine WpR.pass (i := 32) rfl rfl rfl rfl (by kernel_rfl) (by kernel_rfl) (by kernel_rfl) rfl ?_
      refine WpR.pass (i := 33) rfl rfl rfl rfl (by kernel_rfl) (by kernel_rfl) (by kernel_rfl) rfl ?_
      refine WpR.pass (i := 34) rfl rfl rfl rfl (by kernel_rfl) (by kernel_rfl) (by kernel_rfl) rfl ?_
      refine WpR.take (i := 35) rfl (by kernel_rfl) (by kernel_rfl) (by kernel_rfl) (Rdo.pick_f rfl rfl) rfl ?_
      refine WpR.take (i := 36) rfl (by kernel_rfl) (by kernel_rfl) (by kernel_rfl) (Rdo.assign rfl) rfl ?_
      refine WpR.done (by kernel_rfl) ?_
      refine Thn.n ?_
      refine Wp.ret ?_
      refine Ret.now (ResV.tmp rfl ResV.nil) (Gh.tk (by repeat (first | exact Tk.nil | apply Tk.cons (by repeat (first | exact Pk.here | apply Pk.next))))) ⟨rfl, rfl⟩
end Go.Proofs.YtccgdnocldmjeaaDoor
