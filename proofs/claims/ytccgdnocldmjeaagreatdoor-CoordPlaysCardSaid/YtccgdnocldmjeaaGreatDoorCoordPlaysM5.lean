/- Walks, rules and plain laws on which the claim stands, joined: the program's functions as they compute, one after the other. -/
import Derived.Orders
import Derived.Below
import Derived.Tactics
import Derived.Laws.AppendOwn
import Derived.Laws.CopyRow
import Derived.Laws.ResultCell
import Derived.Laws.Slices
import Derived.Laws.Small
import Derived.Laws.StructEq
import Derived.Laws.Pointers
import Derived.Laws.Unary
import Derived.Laws.Cells
import Derived.OrdersIn
import Derived.RangeFuncRecord
import Derived.RangeFuncIn
import Derived.RangeFuncCalls
import Derived.RangeFuncNested
import Derived.Laws.Cover3
import Derived.Laws.BytesString
import Derived.Laws.Strings
import Derived.Test.YtccgdnocldmjeaaGreatDoorProg
import Derived.KernelRfl
import Derived.DeepKeys
import Derived.Laws.IdiomStrings
import Derived.OpenShut
import Derived.ChangeSlices
import Derived.DataElems
import Derived.Handed
import Derived.Laws.Shifts
import Derived.Laws.BitsAllLaws
import Derived.Test.YtccgdnocldmjeaaGreatDoorRows
import Derived.WalkKit
import Derived.ProofKit
import Derived.ShutString
import Derived.ChangeOld
import Derived.Lay
import Derived.MakeChecks
import Derived.SevenTiedAt
import Derived.Test.YtccgdnocldmjeaaGreatDoorCoordPlaysM4
namespace Go.Proofs.YtccgdnocldmjeaaGreatDoor
open Go
set_option maxHeartbeats 4000000
set_option linter.unusedSimpArgs false
set_option linter.unusedVariables false
set_option maxRecDepth 20000
def goodN (name : List UInt8) : Prop := name ≠ [] ∧ name.length ≤ 8 ∧ ∀ b ∈ name, small_ b = true
instance (name : List UInt8) : Decidable (goodN name) := by unfold goodN; exact inferInstance
theorem rname_ok (name : List UInt8) (hl : name.length ≤ 1000000) : Trip Tryz.prog 35 [vs name] [] (fun r l => r = vb (decide (goodN name)) ∧ l = []) := by
  refine Trip.of_body Tryz.func35 rfl Tryz.ntmps35 Tryz.results35 rfl ?_
  refine Wsr (Ls (Rdo.assign rfl) (Lnt (Wp.seq (Wsr (Ls (Rdo.assign rfl) (Lnt (Wp.block ?_)))))))
  refine Wp.loopE (fun k e h => ∃ i : Nat, i + k = name.length ∧ (∀ b ∈ name.take i, small_ b = true) ∧ e = [(0, vs name), (3, vi i)] ∧ h = []) name.length
    (e0 := [(0, vs name), (3, vi (0 : Nat))]) (l0 := []) (by repeat (first | exact trivial | refine ⟨rfl, ?_⟩)) (by repeat (first | exact trivial | refine ⟨rfl, ?_⟩)) Gk ⟨0, by simp, by simp, rfl, rfl⟩ ?_
  rintro k e h ⟨i, hik, hpre, rfl, rfl⟩
  by_cases hi : i < name.length
  · have hi' : (i : Int) < name.length := by omega
    obtain ⟨c, hc⟩ : ∃ c, name[i]? = some c := ⟨name[i], List.getElem?_eq_getElem hi⟩
    have hmem : c ∈ name := List.mem_of_getElem? hc
    by_cases h1 : (c.toNat : Int) < 97
    · have hng : ¬ goodN name := fun h => by
        have := h.2.2 c hmem
        unfold small_ at this
        simp at this
        omega
      refine Wp.seq (Wsr (Ls (Rdo.move rfl) (Ls (Rdo.move rfl) (Ls (Rdo.lenVs rfl) (Ls (Rdo.lti rfl rfl) (Lnt (cK rfl (Wp.skip (Thn.n (Wp.seq (Wp.block (Wsr (Ls (Rdo.move rfl) ?_)))))))))))))
      refine Ls (Rdo.move rfl) ?_
      refine Ls (Rdo.indexVs rfl rfl (by assumption)) ?_
      refine Ls (Rdo.lti rfl rfl) (Ls (Rdo.move rfl) (Lg rfl rfl (Lp rfl rfl (Lp rfl rfl (Lp rfl rfl (Lp rfl rfl (Ls (Rdo.pick_t rfl rfl) (Lnt ?_))))))))
      refine Wp.condT rfl ?_
      refine Wsr (Ls (Rdo.assign rfl) (Lnt (Wp.ret ?_)))
      refine Blk.r ?_
      refine Thn.r ?_
      refine Thn.r ?_
      refine Blk.r ?_
      refine Thn.r ?_
      refine Rt (ResV.tmp rfl ResV.nil) ⟨(by first | rfl | (simp [packed] <;> done) | (simp_all [packed] <;> done)), rfl⟩
    · by_cases h2 : (122 : Int) < c.toNat
      · have hng : ¬ goodN name := fun h => by
          have := h.2.2 c hmem
          unfold small_ at this
          simp at this
          omega
        refine Wp.seq (Wsr (Ls (Rdo.move rfl) (Ls (Rdo.move rfl) (Ls (Rdo.lenVs rfl) (Ls (Rdo.lti rfl rfl) (Lnt (cK rfl (Wp.skip (Thn.n (Wp.seq (Wp.block (Wsr (Ls (Rdo.move rfl) ?_)))))))))))))
        refine Ls (Rdo.move rfl) ?_
        refine Ls (Rdo.indexVs rfl rfl (by assumption)) ?_
        refine Ls (Rdo.lti rfl rfl) (Ls (Rdo.move rfl) (Lf rfl rfl (Lw rfl rfl (Rdo.move rfl) (Lw rfl rfl (Rdo.move rfl) ?_))))
        refine Lw rfl rfl (Rdo.indexVs rfl rfl (by assumption)) ?_
        refine Lw rfl rfl (Rdo.gti rfl rfl) (Ls (Rdo.pick_f rfl rfl) (Lnt (cK rfl (Wsr (Ls (Rdo.assign rfl) (Lnt (Wp.ret ?_)))))))
        refine Blk.r ?_
        refine Thn.r ?_
        refine Thn.r ?_
        refine Blk.r ?_
        refine Thn.r ?_
        refine Rt (ResV.tmp rfl ResV.nil) ⟨(by first | rfl | (simp [packed] <;> done) | (simp_all [packed] <;> done)), rfl⟩
      · refine Wp.seq (Wsr (Ls (Rdo.move rfl) (Ls (Rdo.move rfl) (Ls (Rdo.lenVs rfl) (Ls (Rdo.lti rfl rfl) (Lnt (cK rfl (Wp.skip (Thn.n (Wp.seq (Wp.block (Wsr (Ls (Rdo.move rfl) ?_)))))))))))))
        refine Ls (Rdo.move rfl) ?_
        refine Ls (Rdo.indexVs rfl rfl (by assumption)) ?_
        refine Ls (Rdo.lti rfl rfl) (Ls (Rdo.move rfl) (Lf rfl rfl (Lw rfl rfl (Rdo.move rfl) (Lw rfl rfl (Rdo.move rfl) ?_))))
        refine Lw rfl rfl (Rdo.indexVs rfl rfl (by assumption)) ?_
        refine Lw rfl rfl (Rdo.gti rfl rfl) (Ls (Rdo.pick_f rfl rfl) (Lnt (cL rfl (Wp.skip (Blk.n (Thn.n (Wp.region (Ls (Rdo.move rfl) ?_))))))))
        refine Ls (Rdo.succ rfl rfl (by omega)) ?_
        refine Ls (Rdo.assign rfl) (Lnt ?_)
        refine ⟨k - 1, _, _, by omega, ⟨i + 1, by omega, ?_, rfl, rfl⟩, (by repeat (first | exact trivial | refine ⟨rfl, ?_⟩)), Gk⟩
        intro b hb
        rw [List.take_add_one, hc] at hb
        rcases List.mem_append.1 hb with hb | hb
        · exact hpre b hb
        · simp at hb
          subst hb
          unfold small_
          simp
          omega
  · rw [List.take_of_length_le (by omega)] at hpre
    by_cases h1 : (1 : Int) ≤ name.length
    · have hne : name ≠ [] := by intro h; rw [h] at h1; simp at h1
      by_cases h2 : (name.length : Int) ≤ 8
      · have hg : goodN name := ⟨hne, by omega, hpre⟩
        refine Wp.seq (Wsr (Ls (Rdo.move rfl) (Ls (Rdo.move rfl) (Ls (Rdo.lenVs rfl) (Ls (Rdo.lti rfl rfl) (Lnt (cL rfl ?_)))))))
        refine Wp.exit ?_
        refine Thn.x ?_
        refine Thn.x ?_
        refine Blk.here ?_
        refine Thn.n (Wsr (Ls (Rdo.move rfl) (Ls (Rdo.lenVs rfl) (Ls (Rdo.gei rfl rfl) (Ls (Rdo.move rfl) (Lg rfl rfl (Lw rfl rfl (Rdo.move rfl) (Lw rfl rfl (Rdo.lenVs rfl) (Lw rfl rfl (Rdo.lei rfl rfl) (Ls (Rdo.pick_t rfl rfl) (Ls (Rdo.assign rfl) (Lnt (Wp.ret ?_)))))))))))))
        refine Rt (ResV.tmp rfl ResV.nil) ⟨(by first | rfl | (simp [packed] <;> done) | (simp_all [packed] <;> done)), rfl⟩
      · have hg : ¬ goodN name := fun h => h2 (by have := h.2.1; omega)
        refine Wp.seq (Wsr (Ls (Rdo.move rfl) (Ls (Rdo.move rfl) (Ls (Rdo.lenVs rfl) (Ls (Rdo.lti rfl rfl) (Lnt (cL rfl ?_)))))))
        refine Wp.exit ?_
        refine Thn.x ?_
        refine Thn.x ?_
        refine Blk.here ?_
        refine Thn.n (Wsr (Ls (Rdo.move rfl) (Ls (Rdo.lenVs rfl) (Ls (Rdo.gei rfl rfl) (Ls (Rdo.move rfl) (Lg rfl rfl (Lw rfl rfl (Rdo.move rfl) (Lw rfl rfl (Rdo.lenVs rfl) (Lw rfl rfl (Rdo.lei rfl rfl) (Ls (Rdo.pick_t rfl rfl) (Ls (Rdo.assign rfl) (Lnt (Wp.ret ?_)))))))))))))
        refine Rt (ResV.tmp rfl ResV.nil) ⟨(by first | rfl | (simp [packed] <;> done) | (simp_all [packed] <;> done)), rfl⟩
    · have hg : ¬ goodN name := fun h => h1 (by
        have := h.1
        rcases name with _ | ⟨x, l⟩
        · exact absurd rfl this
        · simp; omega)
      refine Wp.seq (Wsr (Ls (Rdo.move rfl) (Ls (Rdo.move rfl) (Ls (Rdo.lenVs rfl) (Ls (Rdo.lti rfl rfl) (Lnt (cL rfl ?_)))))))
      refine Wp.exit ?_
      refine Thn.x ?_
      refine Thn.x ?_
      refine Blk.here ?_
      refine Thn.n (Wsr (Ls (Rdo.move rfl) (Ls (Rdo.lenVs rfl) (Ls (Rdo.gei rfl rfl) (Ls (Rdo.move rfl) (Lf rfl rfl (Lp rfl rfl (Lp rfl rfl (Lp rfl rfl (Ls (Rdo.pick_f rfl rfl) (Ls (Rdo.assign rfl) (Lnt (Wp.ret ?_)))))))))))))
      refine Rt (ResV.tmp rfl ResV.nil) ⟨(by first | rfl | (simp [packed] <;> done) | (simp_all [packed] <;> done)), rfl⟩
theorem okOp_1 {o : Go.Proofs.YtccgdnocldmjeaaGreatDoor.Op} (hk : o.kind = 1) : okOp o ↔ (0 ≤ o.client ∧ o.client ≤ 15) ∧ (0 ≤ o.seq ∧ o.seq ≤ 1048576) ∧ goodN o.name ∧ (o.producer = 0 ∧ o.epoch = 0 ∧ o.txn = 0) ∧ o.part = 0 ∧ o.commit = false := by
  constructor
  · rintro ⟨h1, h2, h3, h4, h5, h6, h7, h8, h9, h10, h11⟩
    rw [if_pos hk] at h4
    have := h9 (.inl hk)
    exact ⟨h2, h3, h4, ⟨this.1, this.2.1, this.2.2.1⟩, this.2.2.2.1, this.2.2.2.2⟩
  · rintro ⟨h2, h3, h4, ⟨h5, h6, h7⟩, h8, h9⟩
    exact ⟨by omega, h2, h3, by rw [if_pos hk]; exact h4, by omega, by omega, by omega, by omega, fun _ => ⟨h5, h6, h7, h8, h9⟩, fun h => by omega, fun h => by omega⟩
theorem okOp_4 {o : Go.Proofs.YtccgdnocldmjeaaGreatDoor.Op} (hk : o.kind = 4) : okOp o ↔ (0 ≤ o.client ∧ o.client ≤ 15) ∧ (0 ≤ o.seq ∧ o.seq ≤ 1048576) ∧ o.name = [] ∧ (o.producer = 0 ∧ o.epoch = 0 ∧ o.txn = 0) ∧ o.part = 0 ∧ o.commit = false := by
  constructor
  · rintro ⟨h1, h2, h3, h4, h5, h6, h7, h8, h9, h10, h11⟩
    rw [if_neg (by omega)] at h4
    have := h9 (.inr hk)
    exact ⟨h2, h3, h4, ⟨this.1, this.2.1, this.2.2.1⟩, this.2.2.2.1, this.2.2.2.2⟩
  · rintro ⟨h2, h3, h4, ⟨h5, h6, h7⟩, h8, h9⟩
    exact ⟨by omega, h2, h3, by rw [if_neg (by omega)]; exact h4, by omega, by omega, by omega, by omega, fun _ => ⟨h5, h6, h7, h8, h9⟩, fun h => by omega, fun h => by omega⟩
theorem okOp_2 {o : Go.Proofs.YtccgdnocldmjeaaGreatDoor.Op} (hk : o.kind = 2) : okOp o ↔ (0 ≤ o.client ∧ o.client ≤ 15) ∧ (0 ≤ o.seq ∧ o.seq ≤ 1048576) ∧ o.name = [] ∧ (0 ≤ o.producer ∧ o.producer ≤ 7) ∧ (0 ≤ o.epoch ∧ o.epoch ≤ 100) ∧ (0 ≤ o.txn ∧ o.txn ≤ 100) ∧ (0 ≤ o.part ∧ o.part ≤ 3) ∧ o.commit = false := by
  constructor
  · rintro ⟨h1, h2, h3, h4, h5, h6, h7, h8, h9, h10, h11⟩
    rw [if_neg (by omega)] at h4
    exact ⟨h2, h3, h4, h5, h6, h7, h8, h10 hk⟩
  · rintro ⟨h2, h3, h4, h5, h6, h7, h8, h9⟩
    exact ⟨by omega, h2, h3, by rw [if_neg (by omega)]; exact h4, h5, h6, h7, h8, fun h => by omega, fun _ => h9, fun h => by omega⟩
theorem okOp_3 {o : Go.Proofs.YtccgdnocldmjeaaGreatDoor.Op} (hk : o.kind = 3) : okOp o ↔ (0 ≤ o.client ∧ o.client ≤ 15) ∧ (0 ≤ o.seq ∧ o.seq ≤ 1048576) ∧ o.name = [] ∧ (0 ≤ o.producer ∧ o.producer ≤ 7) ∧ (0 ≤ o.epoch ∧ o.epoch ≤ 100) ∧ (0 ≤ o.txn ∧ o.txn ≤ 100) ∧ o.part = 0 := by
  constructor
  · rintro ⟨h1, h2, h3, h4, h5, h6, h7, h8, h9, h10, h11⟩
    rw [if_neg (by omega)] at h4
    exact ⟨h2, h3, h4, h5, h6, h7, h11 hk⟩
  · rintro ⟨h2, h3, h4, h5, h6, h7, h8⟩
    exact ⟨by omega, h2, h3, by rw [if_neg (by omega)]; exact h4, h5, h6, h7, by omega, fun h => by omega, fun h => by omega, fun _ => h8⟩
theorem rOp_1 (o : Go.Proofs.YtccgdnocldmjeaaGreatDoor.Op) (hl : o.name.length ≤ 1000000) (hk : o.kind = 1) : Trip Tryz.prog 14 [.agg (opC o).toArray] [] (fun r l => r = vb (Decidable.decide (okOp o)) ∧ l = []) := by
  have s1 := rin_ok o.client 0 15
  have s2 := rin_ok o.seq 0 1048576
  have s3 := rname_ok o.name hl
  have hiff := okOp_1 hk
  refine Trip.of_body Tryz.func14 rfl Tryz.ntmps14 Tryz.results14 rfl ?_
  refine Wsr ?_
  (refine WpL.step (Stp.boxV rfl (VC.ag _) rfl ?_); intro nb2)
  refine Ls (Rdo.assign rfl) (Lnt (Wp.seq (Wsr (Ls (Rdo.fieldAddr0 rfl) (Ls (Rdo.load rfl (Lds.one rfl)) ?_)))))
  refine WpL.step (Sc (s1) rfl ?_)
  rintro _ _ ⟨rfl, rfl⟩
  refine Ll ?_
  refine Ls (Rdo.not rfl) (Ls (Rdo.move rfl) ?_)
  refine WpL.gN rfl rfl (fun c16 => ?_) (fun c16 => ?_)
  refine Lp rfl rfl (Lp rfl rfl (Lp rfl rfl (Lp rfl rfl (Ls (Rdo.pick_t rfl rfl) (Lnt ?_)))))
  refine Wp.condT rfl ?_
  refine Wsr (Ls (Rdo.assign rfl) (Lnt (Wp.ret ?_)))
  refine Thn.r ?_
  refine Rt (ResV.tmp rfl ResV.nil) ⟨(by first | rfl | (simp [packed] <;> done) | (simp_all [packed] <;> done)), rfl⟩
  refine Lw rfl rfl (Rdo.fieldAddr0 rfl) (Lw rfl rfl (Rdo.load rfl (Lds.one rfl)) ?_)
  refine WpL.want rfl rfl rfl (Sc (s2) rfl ?_)
  rintro _ _ ⟨rfl, rfl⟩
  refine Ll ?_
  refine Lw rfl rfl (Rdo.not rfl) (Ls (Rdo.pick_f rfl rfl) (Lnt ?_))
  refine Wp.condN rfl (fun c42 => ?_) (fun c42 => ?_)
  refine Wsr (Ls (Rdo.assign rfl) (Lnt (Wp.ret ?_)))
  refine Thn.r ?_
  refine Rt (ResV.tmp rfl ResV.nil) ⟨(by first | rfl | (simp [packed] <;> done) | (simp_all [packed] <;> done)), rfl⟩
  refine Wp.skip (Thn.n (Wsr (Ls (Rdo.fieldAddr0 rfl) (Ls (Rdo.load rfl (Lds.one rfl)) (Ls (Rdo.eqi rfl rfl) (Ls (Rdo.move rfl) ?_))))))
  refine WpL.gD rfl rfl (fun c59 => ?_) (fun c59 => ?_)
  refine Lw rfl rfl (Rdo.fieldAddr0 rfl) (Lw rfl rfl (Rdo.load rfl (Lds.one rfl)) (Lw rfl rfl (Rdo.eqi rfl rfl) (Ls (Rdo.pick_t rfl rfl) (Ls (Rdo.move rfl) ?_))))
  refine WpL.gD rfl rfl (fun c65 => ?_) (fun c65 => ?_)
  refine Lw rfl rfl (Rdo.fieldAddr0 rfl) (Lw rfl rfl (Rdo.load rfl (Lds.one rfl)) (Lw rfl rfl (Rdo.eqi rfl rfl) (Ls (Rdo.pick_t rfl rfl) (Ls (Rdo.assign rfl) (Lnt (Wp.seq (Wsr (Ls (Rdo.fieldAddr0 rfl) (Ls (Rdo.load rfl (Lds.one rfl)) (Lnt (Wp.block (Wsr (Ls (Rdo.eqi rfl rfl) ?_)))))))))))))
  refine Ls (Rdo.assign rfl) (Lnt (cK rfl (Wsr (Ls (Rdo.fieldAddr0 rfl) (Ls (Rdo.load rfl (Lds.one rfl)) ?_)))))
  refine WpL.step (Sc (s3) rfl ?_)
  rintro _ _ ⟨rfl, rfl⟩
  refine Ll ?_
  refine Ls (Rdo.move rfl) ?_
  refine WpL.gD rfl rfl (fun c96 => ?_) (fun c96 => ?_)
  refine Lw rfl rfl (Rdo.move rfl) (Ls (Rdo.pick_t rfl rfl) (Ls (Rdo.move rfl) ?_))
  refine WpL.gD rfl rfl (fun c100 => ?_) (fun c100 => ?_)
  refine Lw rfl rfl (Rdo.fieldAddr0 rfl) (Lw rfl rfl (Rdo.load rfl (Lds.one rfl)) (Lw rfl rfl (Rdo.eqi rfl rfl) (Ls (Rdo.pick_t rfl rfl) (Ls (Rdo.move rfl) ?_))))
  refine WpL.gD rfl rfl (fun c106 => ?_) (fun c106 => ?_)
  refine Lw rfl rfl (Rdo.fieldAddr0 rfl) (Lw rfl rfl (Rdo.load rfl (Lds.one rfl)) (Lw rfl rfl (Rdo.not rfl) (Ls (Rdo.pick_t rfl rfl) (Ls (Rdo.assign rfl) (Lnt (Wp.ret ?_))))))
  refine Blk.r ?_
  refine Thn.r ?_
  refine Rt (ResV.tmp rfl ResV.nil) ⟨(by first | rfl | (simp [packed] <;> done) | (simp_all [packed] <;> done)), rfl⟩
  refine Lp rfl rfl (Lp rfl rfl (Lp rfl rfl (Ls (Rdo.pick_f rfl rfl) (Ls (Rdo.assign rfl) (Lnt (Wp.ret ?_))))))
  refine Blk.r ?_
  refine Thn.r ?_
  refine Rt (ResV.tmp rfl ResV.nil) ⟨(by first | rfl | (simp [packed] <;> done) | (simp_all [packed] <;> done)), rfl⟩
  refine Lp rfl rfl (Lp rfl rfl (Lp rfl rfl (Ls (Rdo.pick_f rfl rfl) (Ls (Rdo.move rfl) (Lp rfl rfl (Lp rfl rfl (Lp rfl rfl (Ls (Rdo.pick_f rfl rfl) (Ls (Rdo.assign rfl) (Lnt (Wp.ret ?_)))))))))))
  refine Blk.r ?_
  refine Thn.r ?_
  refine Rt (ResV.tmp rfl ResV.nil) ⟨(by first | rfl | (simp [packed] <;> done) | (simp_all [packed] <;> done)), rfl⟩
  refine Lp rfl rfl (Ls (Rdo.pick_f rfl rfl) (Ls (Rdo.move rfl) (Lp rfl rfl (Lp rfl rfl (Lp rfl rfl (Ls (Rdo.pick_f rfl rfl) (Ls (Rdo.move rfl) (Lp rfl rfl (Lp rfl rfl (Lp rfl rfl (Ls (Rdo.pick_f rfl rfl) (Ls (Rdo.assign rfl) (Lnt ?_)))))))))))))
  refine Wp.ret ?_
  refine Blk.r ?_
  refine Thn.r ?_
  refine Rt (ResV.tmp rfl ResV.nil) ⟨(by first | rfl | (simp [packed] <;> done) | (simp_all [packed] <;> done)), rfl⟩
  refine Lp rfl rfl (Lp rfl rfl (Lp rfl rfl (Ls (Rdo.pick_f rfl rfl) (Ls (Rdo.assign rfl) (Lnt (Wp.seq (Wsr (Ls (Rdo.fieldAddr0 rfl) (Ls (Rdo.load rfl (Lds.one rfl)) (Lnt (Wp.block (Wsr (Ls (Rdo.eqi rfl rfl) ?_)))))))))))))
  refine Ls (Rdo.assign rfl) (Lnt (cK rfl (Wsr (Ls (Rdo.fieldAddr0 rfl) (Ls (Rdo.load rfl (Lds.one rfl)) ?_)))))
  refine WpL.step (Sc (s3) rfl ?_)
  rintro _ _ ⟨rfl, rfl⟩
  refine Ll ?_
  refine Ls (Rdo.move rfl) ?_
  refine WpL.gD rfl rfl (fun c194 => ?_) (fun c194 => ?_)
  refine Lw rfl rfl (Rdo.move rfl) (Ls (Rdo.pick_t rfl rfl) (Ls (Rdo.move rfl) (Lp rfl rfl (Lp rfl rfl (Lp rfl rfl (Ls (Rdo.pick_f rfl rfl) (Ls (Rdo.move rfl) (Lp rfl rfl (Lp rfl rfl (Lp rfl rfl (Ls (Rdo.pick_f rfl rfl) (Ls (Rdo.assign rfl) (Lnt ?_)))))))))))))
  refine Wp.ret ?_
  refine Blk.r ?_
  refine Thn.r ?_
  refine Rt (ResV.tmp rfl ResV.nil) ⟨(by first | rfl | (simp [packed] <;> done) | (simp_all [packed] <;> done)), rfl⟩
  refine Lp rfl rfl (Ls (Rdo.pick_f rfl rfl) (Ls (Rdo.move rfl) (Lp rfl rfl (Lp rfl rfl (Lp rfl rfl (Ls (Rdo.pick_f rfl rfl) (Ls (Rdo.move rfl) (Lp rfl rfl (Lp rfl rfl (Lp rfl rfl (Ls (Rdo.pick_f rfl rfl) (Ls (Rdo.assign rfl) (Lnt ?_)))))))))))))
  refine Wp.ret ?_
  refine Blk.r ?_
  refine Thn.r ?_
  refine Rt (ResV.tmp rfl ResV.nil) ⟨(by first | rfl | (simp [packed] <;> done) | (simp_all [packed] <;> done)), rfl⟩
  refine Lp rfl rfl (Lp rfl rfl (Lp rfl rfl (Ls (Rdo.pick_f rfl rfl) (Ls (Rdo.move rfl) (Lp rfl rfl (Lp rfl rfl (Lp rfl rfl (Ls (Rdo.pick_f rfl rfl) (Ls (Rdo.assign rfl) (Lnt (Wp.seq (Wsr (Ls (Rdo.fieldAddr0 rfl) ?_)))))))))))))
  refine Ls (Rdo.load rfl (Lds.one rfl)) (Lnt (Wp.block (Wsr (Ls (Rdo.eqi rfl rfl) (Ls (Rdo.assign rfl) (Lnt (cK rfl (Wsr (Ls (Rdo.fieldAddr0 rfl) (Ls (Rdo.load rfl (Lds.one rfl)) ?_))))))))))
  refine WpL.step (Sc (s3) rfl ?_)
  rintro _ _ ⟨rfl, rfl⟩
  refine Ll ?_
  refine Ls (Rdo.move rfl) ?_
  refine WpL.gD rfl rfl (fun c268 => ?_) (fun c268 => ?_)
  refine Lw rfl rfl (Rdo.move rfl) (Ls (Rdo.pick_t rfl rfl) (Ls (Rdo.move rfl) (Lp rfl rfl (Lp rfl rfl (Lp rfl rfl (Ls (Rdo.pick_f rfl rfl) (Ls (Rdo.move rfl) (Lp rfl rfl (Lp rfl rfl (Lp rfl rfl (Ls (Rdo.pick_f rfl rfl) (Ls (Rdo.assign rfl) (Lnt ?_)))))))))))))
  refine Wp.ret ?_
  refine Blk.r ?_
  refine Thn.r ?_
  refine Rt (ResV.tmp rfl ResV.nil) ⟨(by first | rfl | (simp [packed] <;> done) | (simp_all [packed] <;> done)), rfl⟩
  refine Lp rfl rfl (Ls (Rdo.pick_f rfl rfl) (Ls (Rdo.move rfl) (Lp rfl rfl (Lp rfl rfl (Lp rfl rfl (Ls (Rdo.pick_f rfl rfl) (Ls (Rdo.move rfl) (Lp rfl rfl (Lp rfl rfl (Lp rfl rfl (Ls (Rdo.pick_f rfl rfl) (Ls (Rdo.assign rfl) (Lnt ?_)))))))))))))
  refine Wp.ret ?_
  refine Blk.r ?_
  refine Thn.r ?_
  refine Rt (ResV.tmp rfl ResV.nil) ⟨(by first | rfl | (simp [packed] <;> done) | (simp_all [packed] <;> done)), rfl⟩
theorem rOp_2 (o : Go.Proofs.YtccgdnocldmjeaaGreatDoor.Op) (hl : o.name.length ≤ 1000000) (hk : o.kind = 2) : Trip Tryz.prog 14 [.agg (opC o).toArray] [] (fun r l => r = vb (Decidable.decide (okOp o)) ∧ l = []) := by
  have s1 := rin_ok o.client 0 15
  have s2 := rin_ok o.seq 0 1048576
  have s3 := rin_ok o.producer 0 7
  have s4 := rin_ok o.epoch 0 100
  have s5 := rin_ok o.txn 0 100
  have s6 := rin_ok o.part 0 3
  have hiff := okOp_2 hk
  refine Trip.of_body Tryz.func14 rfl Tryz.ntmps14 Tryz.results14 rfl ?_
  refine Wsr ?_
  (refine WpL.step (Stp.boxV rfl (VC.ag _) rfl ?_); intro nb2)
  refine Ls (Rdo.assign rfl) (Lnt (Wp.seq (Wsr (Ls (Rdo.fieldAddr0 rfl) (Ls (Rdo.load rfl (Lds.one rfl)) ?_)))))
  refine WpL.step (Sc (s1) rfl ?_)
  rintro _ _ ⟨rfl, rfl⟩
  refine Ll ?_
  refine Ls (Rdo.not rfl) (Ls (Rdo.move rfl) ?_)
  refine WpL.gN rfl rfl (fun c16 => ?_) (fun c16 => ?_)
  refine Lp rfl rfl (Lp rfl rfl (Lp rfl rfl (Lp rfl rfl (Ls (Rdo.pick_t rfl rfl) (Lnt ?_)))))
  refine Wp.condT rfl ?_
  refine Wsr (Ls (Rdo.assign rfl) (Lnt (Wp.ret ?_)))
  refine Thn.r ?_
  refine Rt (ResV.tmp rfl ResV.nil) ⟨(by first | rfl | (simp [packed] <;> done) | (simp_all [packed] <;> done)), rfl⟩
  refine Lw rfl rfl (Rdo.fieldAddr0 rfl) (Lw rfl rfl (Rdo.load rfl (Lds.one rfl)) ?_)
  refine WpL.want rfl rfl rfl (Sc (s2) rfl ?_)
  rintro _ _ ⟨rfl, rfl⟩
  refine Ll ?_
  refine Lw rfl rfl (Rdo.not rfl) (Ls (Rdo.pick_f rfl rfl) (Lnt ?_))
  refine Wp.condN rfl (fun c42 => ?_) (fun c42 => ?_)
  refine Wsr (Ls (Rdo.assign rfl) (Lnt (Wp.ret ?_)))
  refine Thn.r ?_
  refine Rt (ResV.tmp rfl ResV.nil) ⟨(by first | rfl | (simp [packed] <;> done) | (simp_all [packed] <;> done)), rfl⟩
  refine Wp.skip (Thn.n (Wsr (Ls (Rdo.fieldAddr0 rfl) (Ls (Rdo.load rfl (Lds.one rfl)) (Ls (Rdo.eqi rfl rfl) (Ls (Rdo.move rfl) ?_))))))
  refine WpL.gD rfl rfl (fun c59 => ?_) (fun c59 => ?_)
  refine Lw rfl rfl (Rdo.fieldAddr0 rfl) (Lw rfl rfl (Rdo.load rfl (Lds.one rfl)) (Lw rfl rfl (Rdo.eqi rfl rfl) (Ls (Rdo.pick_t rfl rfl) (Ls (Rdo.move rfl) ?_))))
  refine WpL.gD rfl rfl (fun c65 => ?_) (fun c65 => ?_)
  refine Lw rfl rfl (Rdo.fieldAddr0 rfl) (Lw rfl rfl (Rdo.load rfl (Lds.one rfl)) (Lw rfl rfl (Rdo.eqi rfl rfl) (Ls (Rdo.pick_t rfl rfl) (Ls (Rdo.assign rfl) (Lnt (Wp.seq (Wsr (Ls (Rdo.fieldAddr0 rfl) (Ls (Rdo.load rfl (Lds.one rfl)) (Lnt (Wp.block (Wsr (Ls (Rdo.eqi rfl rfl) ?_)))))))))))))
  refine Ls (Rdo.assign rfl) (Lnt (cL rfl (Wsr (Ls (Rdo.eqi rfl rfl) (Ls (Rdo.assign rfl) (Lnt (cL rfl (Wp.skip (Blk.n (Thn.n (Wsr (Ls (Rdo.fieldAddr0 rfl) (Ls (Rdo.load rfl (Lds.one rfl)) ?_)))))))))))))
  refine Ls (Rdo.eqVs rfl rfl) (Ls (Rdo.move rfl) ?_)
  refine WpL.gD rfl rfl (fun c104 => ?_) (fun c104 => ?_)
  refine Lw rfl rfl (Rdo.fieldAddr0 rfl) (Lw rfl rfl (Rdo.load rfl (Lds.one rfl)) ?_)
  refine WpL.want rfl rfl rfl (Sc (s3) rfl ?_)
  rintro _ _ ⟨rfl, rfl⟩
  refine Ll ?_
  refine Ls (Rdo.pick_t rfl rfl) (Ls (Rdo.move rfl) (Lg rfl rfl (Lw rfl rfl (Rdo.fieldAddr0 rfl) (Lw rfl rfl (Rdo.load rfl (Lds.one rfl)) ?_))))
  refine WpL.want rfl rfl rfl (Sc (s4) rfl ?_)
  rintro _ _ ⟨rfl, rfl⟩
  refine Ll ?_
  refine Ls (Rdo.pick_t rfl rfl) (Ls (Rdo.move rfl) (Lg rfl rfl (Lw rfl rfl (Rdo.fieldAddr0 rfl) (Lw rfl rfl (Rdo.load rfl (Lds.one rfl)) ?_))))
  refine WpL.want rfl rfl rfl (Sc (s5) rfl ?_)
  rintro _ _ ⟨rfl, rfl⟩
  refine Ll ?_
  refine Ls (Rdo.pick_t rfl rfl) (Ls (Rdo.assign rfl) (Lnt (Wp.seq (Wsr (Ls (Rdo.fieldAddr0 rfl) (Ls (Rdo.load rfl (Lds.one rfl)) (Lnt (Wp.block (Wsr (Ls (Rdo.eqi rfl rfl) (Ls (Rdo.assign rfl) (Lnt (cK rfl ?_)))))))))))))
  refine Wsr (Ls (Rdo.move rfl) (Ls (Rdo.move rfl) ?_))
  refine WpL.gD rfl rfl (fun c149 => ?_) (fun c149 => ?_)
  refine Lw rfl rfl (Rdo.fieldAddr0 rfl) (Lw rfl rfl (Rdo.load rfl (Lds.one rfl)) ?_)
  refine WpL.want rfl rfl rfl (Sc (s6) rfl ?_)
  rintro _ _ ⟨rfl, rfl⟩
  refine Ll ?_
  refine Ls (Rdo.pick_t rfl rfl) (Ls (Rdo.move rfl) ?_)
  refine WpL.gD rfl rfl (fun c157 => ?_) (fun c157 => ?_)
  refine Lw rfl rfl (Rdo.fieldAddr0 rfl) (Lw rfl rfl (Rdo.load rfl (Lds.one rfl)) (Lw rfl rfl (Rdo.not rfl) (Ls (Rdo.pick_t rfl rfl) (Ls (Rdo.assign rfl) (Lnt (Wp.ret ?_))))))
  refine Blk.r ?_
  refine Thn.r ?_
  refine Rt (ResV.tmp rfl ResV.nil) ⟨(by first | rfl | (simp [packed] <;> done) | (simp_all [packed] <;> done)), rfl⟩
  refine Lp rfl rfl (Lp rfl rfl (Lp rfl rfl (Ls (Rdo.pick_f rfl rfl) (Ls (Rdo.assign rfl) (Lnt (Wp.ret ?_))))))
  refine Blk.r ?_
  refine Thn.r ?_
  refine Rt (ResV.tmp rfl ResV.nil) ⟨(by first | rfl | (simp [packed] <;> done) | (simp_all [packed] <;> done)), rfl⟩
  refine Lp rfl rfl (Lp rfl rfl (Lp rfl rfl (Ls (Rdo.pick_f rfl rfl) (Ls (Rdo.move rfl) (Lp rfl rfl (Lp rfl rfl (Lp rfl rfl (Ls (Rdo.pick_f rfl rfl) (Ls (Rdo.assign rfl) (Lnt (Wp.ret ?_)))))))))))
  refine Blk.r ?_
  refine Thn.r ?_
  refine Rt (ResV.tmp rfl ResV.nil) ⟨(by first | rfl | (simp [packed] <;> done) | (simp_all [packed] <;> done)), rfl⟩
  refine Lp rfl rfl (Lp rfl rfl (Lp rfl rfl (Ls (Rdo.pick_f rfl rfl) (Ls (Rdo.move rfl) (Lp rfl rfl (Lp rfl rfl (Lp rfl rfl (Ls (Rdo.pick_f rfl rfl) (Ls (Rdo.move rfl) (Lp rfl rfl (Lp rfl rfl (Lp rfl rfl (Ls (Rdo.pick_f rfl rfl) ?_)))))))))))))
  refine Ls (Rdo.assign rfl) (Lnt (Wp.seq (Wsr (Ls (Rdo.fieldAddr0 rfl) (Ls (Rdo.load rfl (Lds.one rfl)) (Lnt (Wp.block (Wsr (Ls (Rdo.eqi rfl rfl) (Ls (Rdo.assign rfl) (Lnt (cK rfl (Wsr ?_)))))))))))))
  refine Ls (Rdo.move rfl) (Ls (Rdo.move rfl) (Lp rfl rfl (Lp rfl rfl (Lp rfl rfl (Ls (Rdo.pick_f rfl rfl) (Ls (Rdo.move rfl) (Lp rfl rfl (Lp rfl rfl (Lp rfl rfl (Ls (Rdo.pick_f rfl rfl) (Ls (Rdo.assign rfl) (Lnt (Wp.ret ?_)))))))))))))
  refine Blk.r ?_
  refine Thn.r ?_
  refine Rt (ResV.tmp rfl ResV.nil) ⟨(by first | rfl | (simp [packed] <;> done) | (simp_all [packed] <;> done)), rfl⟩
  refine Lp rfl rfl (Lp rfl rfl (Lp rfl rfl (Ls (Rdo.pick_f rfl rfl) (Ls (Rdo.assign rfl) (Lnt (Wp.seq (Wsr (Ls (Rdo.fieldAddr0 rfl) (Ls (Rdo.load rfl (Lds.one rfl)) (Lnt (Wp.block (Wsr (Ls (Rdo.eqi rfl rfl) ?_)))))))))))))
  refine Ls (Rdo.assign rfl) (Lnt (cL rfl (Wsr (Ls (Rdo.eqi rfl rfl) (Ls (Rdo.assign rfl) (Lnt (cL rfl (Wp.skip (Blk.n (Thn.n (Wsr (Ls (Rdo.fieldAddr0 rfl) (Ls (Rdo.load rfl (Lds.one rfl)) ?_)))))))))))))
  refine Ls (Rdo.eqVs rfl rfl) (Ls (Rdo.move rfl) ?_)
  refine WpL.gD rfl rfl (fun c286 => ?_) (fun c286 => ?_)
  refine Lw rfl rfl (Rdo.fieldAddr0 rfl) (Lw rfl rfl (Rdo.load rfl (Lds.one rfl)) ?_)
  refine WpL.want rfl rfl rfl (Sc (s3) rfl ?_)
  rintro _ _ ⟨rfl, rfl⟩
  refine Ll ?_
  refine Ls (Rdo.pick_t rfl rfl) (Ls (Rdo.move rfl) (Lg rfl rfl (Lw rfl rfl (Rdo.fieldAddr0 rfl) (Lw rfl rfl (Rdo.load rfl (Lds.one rfl)) ?_))))
  refine WpL.want rfl rfl rfl (Sc (s4) rfl ?_)
  rintro _ _ ⟨rfl, rfl⟩
  refine Ll ?_
  refine Ls (Rdo.pick_t rfl rfl) (Ls (Rdo.move rfl) ?_)
  refine WpL.gD rfl rfl (fun c302 => ?_) (fun c302 => ?_)
  refine Lw rfl rfl (Rdo.fieldAddr0 rfl) (Lw rfl rfl (Rdo.load rfl (Lds.one rfl)) ?_)
  refine WpL.want rfl rfl rfl (Sc (s5) rfl ?_)
  rintro _ _ ⟨rfl, rfl⟩
  refine Ll ?_
  refine Ls (Rdo.pick_t rfl rfl) (Ls (Rdo.assign rfl) (Lnt (Wp.seq (Wsr (Ls (Rdo.fieldAddr0 rfl) (Ls (Rdo.load rfl (Lds.one rfl)) (Lnt (Wp.block (Wsr (Ls (Rdo.eqi rfl rfl) (Ls (Rdo.assign rfl) (Lnt (cK rfl ?_)))))))))))))
  refine Wsr (Ls (Rdo.move rfl) (Ls (Rdo.move rfl) ?_))
  refine WpL.gD rfl rfl (fun c331 => ?_) (fun c331 => ?_)
  refine Lw rfl rfl (Rdo.fieldAddr0 rfl) (Lw rfl rfl (Rdo.load rfl (Lds.one rfl)) ?_)
  refine WpL.want rfl rfl rfl (Sc (s6) rfl ?_)
  rintro _ _ ⟨rfl, rfl⟩
  refine Ll ?_
  refine Ls (Rdo.pick_t rfl rfl) (Ls (Rdo.move rfl) ?_)
  refine WpL.gD rfl rfl (fun c339 => ?_) (fun c339 => ?_)
  refine Lw rfl rfl (Rdo.fieldAddr0 rfl) (Lw rfl rfl (Rdo.load rfl (Lds.one rfl)) (Lw rfl rfl (Rdo.not rfl) (Ls (Rdo.pick_t rfl rfl) (Ls (Rdo.assign rfl) (Lnt (Wp.ret ?_))))))
  refine Blk.r ?_
  refine Thn.r ?_
  refine Rt (ResV.tmp rfl ResV.nil) ⟨(by first | rfl | (simp [packed] <;> done) | (simp_all [packed] <;> done)), rfl⟩
  refine Lp rfl rfl (Lp rfl rfl (Lp rfl rfl (Ls (Rdo.pick_f rfl rfl) (Ls (Rdo.assign rfl) (Lnt (Wp.ret ?_))))))
  refine Blk.r ?_
  refine Thn.r ?_
  refine Rt (ResV.tmp rfl ResV.nil) ⟨(by first | rfl | (simp [packed] <;> done) | (simp_all [packed] <;> done)), rfl⟩
  refine Lp rfl rfl (Lp rfl rfl (Lp rfl rfl (Ls (Rdo.pick_f rfl rfl) (Ls (Rdo.move rfl) (Lp rfl rfl (Lp rfl rfl (Lp rfl rfl (Ls (Rdo.pick_f rfl rfl) (Ls (Rdo.assign rfl) (Lnt (Wp.ret ?_)))))))))))
  refine Blk.r ?_
  refine Thn.r ?_
  refine Rt (ResV.tmp rfl ResV.nil) ⟨(by first | rfl | (simp [packed] <;> done) | (simp_all [packed] <;> done)), rfl⟩
  refine Lp rfl rfl (Lp rfl rfl (Lp rfl rfl (Ls (Rdo.pick_f rfl rfl) (Ls (Rdo.assign rfl) (Lnt (Wp.seq (Wsr (Ls (Rdo.fieldAddr0 rfl) (Ls (Rdo.load rfl (Lds.one rfl)) (Lnt (Wp.block (Wsr (Ls (Rdo.eqi rfl rfl) ?_)))))))))))))
  refine Ls (Rdo.assign rfl) (Lnt (cK rfl (Wsr (Ls (Rdo.move rfl) (Ls (Rdo.move rfl) (Lp rfl rfl (Lp rfl rfl (Lp rfl rfl (Ls (Rdo.pick_f rfl rfl) (Ls (Rdo.move rfl) (Lp rfl rfl (Lp rfl rfl (Lp rfl rfl ?_)))))))))))))
  refine Ls (Rdo.pick_f rfl rfl) (Ls (Rdo.assign rfl) (Lnt (Wp.ret ?_)))
  refine Blk.r ?_
  refine Thn.r ?_
  refine Rt (ResV.tmp rfl ResV.nil) ⟨(by first | rfl | (simp [packed] <;> done) | (simp_all [packed] <;> done)), rfl⟩
  refine Lp rfl rfl (Lp rfl rfl (Lp rfl rfl (Ls (Rdo.pick_f rfl rfl) (Ls (Rdo.move rfl) (Lp rfl rfl (Lp rfl rfl (Lp rfl rfl (Ls (Rdo.pick_f rfl rfl) (Ls (Rdo.move rfl) (Lp rfl rfl (Lp rfl rfl (Lp rfl rfl (Ls (Rdo.pick_f rfl rfl) ?_)))))))))))))
  refine Ls (Rdo.assign rfl) (Lnt (Wp.seq (Wsr (Ls (Rdo.fieldAddr0 rfl) (Ls (Rdo.load rfl (Lds.one rfl)) (Lnt (Wp.block (Wsr (Ls (Rdo.eqi rfl rfl) (Ls (Rdo.assign rfl) (Lnt (cK rfl (Wsr ?_)))))))))))))
  refine Ls (Rdo.move rfl) (Ls (Rdo.move rfl) (Lp rfl rfl (Lp rfl rfl (Lp rfl rfl (Ls (Rdo.pick_f rfl rfl) (Ls (Rdo.move rfl) (Lp rfl rfl (Lp rfl rfl (Lp rfl rfl (Ls (Rdo.pick_f rfl rfl) (Ls (Rdo.assign rfl) (Lnt (Wp.ret ?_)))))))))))))
  refine Blk.r ?_
  refine Thn.r ?_
  refine Rt (ResV.tmp rfl ResV.nil) ⟨(by first | rfl | (simp [packed] <;> done) | (simp_all [packed] <;> done)), rfl⟩
  refine Lp rfl rfl (Lp rfl rfl (Lp rfl rfl (Ls (Rdo.pick_f rfl rfl) (Ls (Rdo.move rfl) (Lp rfl rfl (Lp rfl rfl (Lp rfl rfl (Ls (Rdo.pick_f rfl rfl) (Ls (Rdo.assign rfl) (Lnt (Wp.seq (Wsr (Ls (Rdo.fieldAddr0 rfl) ?_)))))))))))))
  refine Ls (Rdo.load rfl (Lds.one rfl)) (Lnt (Wp.block (Wsr (Ls (Rdo.eqi rfl rfl) (Ls (Rdo.assign rfl) (Lnt (cL rfl (Wsr (Ls (Rdo.eqi rfl rfl) (Ls (Rdo.assign rfl) (Lnt (cL rfl (Wp.skip ?_)))))))))))))
  refine Blk.n (Thn.n (Wsr (Ls (Rdo.fieldAddr0 rfl) (Ls (Rdo.load rfl (Lds.one rfl)) (Ls (Rdo.eqVs rfl rfl) (Ls (Rdo.move rfl) ?_))))))
  refine WpL.gD rfl rfl (fun c515 => ?_) (fun c515 => ?_)
  refine Lw rfl rfl (Rdo.fieldAddr0 rfl) (Lw rfl rfl (Rdo.load rfl (Lds.one rfl)) ?_)
  refine WpL.want rfl rfl rfl (Sc (s3) rfl ?_)
  rintro _ _ ⟨rfl, rfl⟩
  refine Ll ?_
  refine Ls (Rdo.pick_t rfl rfl) (Ls (Rdo.move rfl) ?_)
  refine WpL.gD rfl rfl (fun c523 => ?_) (fun c523 => ?_)
  refine Lw rfl rfl (Rdo.fieldAddr0 rfl) (Lw rfl rfl (Rdo.load rfl (Lds.one rfl)) ?_)
  refine WpL.want rfl rfl rfl (Sc (s4) rfl ?_)
  rintro _ _ ⟨rfl, rfl⟩
  refine Ll ?_
  refine Ls (Rdo.pick_t rfl rfl) (Ls (Rdo.move rfl) ?_)
  refine WpL.gD rfl rfl (fun c531 => ?_) (fun c531 => ?_)
  refine Lw rfl rfl (Rdo.fieldAddr0 rfl) (Lw rfl rfl (Rdo.load rfl (Lds.one rfl)) ?_)
  refine WpL.want rfl rfl rfl (Sc (s5) rfl ?_)
  rintro _ _ ⟨rfl, rfl⟩
  refine Ll ?_
  refine Ls (Rdo.pick_t rfl rfl) (Ls (Rdo.assign rfl) (Lnt (Wp.seq (Wsr (Ls (Rdo.fieldAddr0 rfl) (Ls (Rdo.load rfl (Lds.one rfl)) (Lnt (Wp.block (Wsr (Ls (Rdo.eqi rfl rfl) (Ls (Rdo.assign rfl) (Lnt (cK rfl ?_)))))))))))))
  refine Wsr (Ls (Rdo.move rfl) (Ls (Rdo.move rfl) ?_))
  refine WpL.gD rfl rfl (fun c560 => ?_) (fun c560 => ?_)
  refine Lw rfl rfl (Rdo.fieldAddr0 rfl) (Lw rfl rfl (Rdo.load rfl (Lds.one rfl)) ?_)
  refine WpL.want rfl rfl rfl (Sc (s6) rfl ?_)
  rintro _ _ ⟨rfl, rfl⟩
  refine Ll ?_
  refine Ls (Rdo.pick_t rfl rfl) (Ls (Rdo.move rfl) ?_)
  refine WpL.gD rfl rfl (fun c568 => ?_) (fun c568 => ?_)
  refine Lw rfl rfl (Rdo.fieldAddr0 rfl) (Lw rfl rfl (Rdo.load rfl (Lds.one rfl)) (Lw rfl rfl (Rdo.not rfl) (Ls (Rdo.pick_t rfl rfl) (Ls (Rdo.assign rfl) (Lnt (Wp.ret ?_))))))
  refine Blk.r ?_
  refine Thn.r ?_
  refine Rt (ResV.tmp rfl ResV.nil) ⟨(by first | rfl | (simp [packed] <;> done) | (simp_all [packed] <;> done)), rfl⟩
  refine Lp rfl rfl (Lp rfl rfl (Lp rfl rfl (Ls (Rdo.pick_f rfl rfl) (Ls (Rdo.assign rfl) (Lnt (Wp.ret ?_))))))
  refine Blk.r ?_
  refine Thn.r ?_
  refine Rt (ResV.tmp rfl ResV.nil) ⟨(by first | rfl | (simp [packed] <;> done) | (simp_all [packed] <;> done)), rfl⟩
  refine Lp rfl rfl (Lp rfl rfl (Lp rfl rfl (Ls (Rdo.pick_f rfl rfl) (Ls (Rdo.move rfl) (Lp rfl rfl (Lp rfl rfl (Lp rfl rfl (Ls (Rdo.pick_f rfl rfl) (Ls (Rdo.assign rfl) (Lnt (Wp.ret ?_)))))))))))
  refine Blk.r ?_
  refine Thn.r ?_
  refine Rt (ResV.tmp rfl ResV.nil) ⟨(by first | rfl | (simp [packed] <;> done) | (simp_all [packed] <;> done)), rfl⟩
  refine Lp rfl rfl (Lp rfl rfl (Lp rfl rfl (Ls (Rdo.pick_f rfl rfl) (Ls (Rdo.assign rfl) (Lnt (Wp.seq (Wsr (Ls (Rdo.fieldAddr0 rfl) (Ls (Rdo.load rfl (Lds.one rfl)) (Lnt (Wp.block (Wsr (Ls (Rdo.eqi rfl rfl) ?_)))))))))))))
  refine Ls (Rdo.assign rfl) (Lnt (cK rfl (Wsr (Ls (Rdo.move rfl) (Ls (Rdo.move rfl) (Lp rfl rfl (Lp rfl rfl (Lp rfl rfl (Ls (Rdo.pick_f rfl rfl) (Ls (Rdo.move rfl) (Lp rfl rfl (Lp rfl rfl (Lp rfl rfl ?_)))))))))))))
  refine Ls (Rdo.pick_f rfl rfl) (Ls (Rdo.assign rfl) (Lnt (Wp.ret ?_)))
  refine Blk.r ?_
  refine Thn.r ?_
  refine Rt (ResV.tmp rfl ResV.nil) ⟨(by first | rfl | (simp [packed] <;> done) | (simp_all [packed] <;> done)), rfl⟩
  refine Lp rfl rfl (Lp rfl rfl (Lp rfl rfl (Ls (Rdo.pick_f rfl rfl) (Ls (Rdo.move rfl) (Lp rfl rfl (Lp rfl rfl (Lp rfl rfl (Ls (Rdo.pick_f rfl rfl) (Ls (Rdo.assign rfl) (Lnt (Wp.seq (Wsr (Ls (Rdo.fieldAddr0 rfl) ?_)))))))))))))
  refine Ls (Rdo.load rfl (Lds.one rfl)) (Lnt (Wp.block (Wsr (Ls (Rdo.eqi rfl rfl) (Ls (Rdo.assign rfl) (Lnt (cK rfl (Wsr (Ls (Rdo.move rfl) (Ls (Rdo.move rfl) (Lp rfl rfl (Lp rfl rfl (Lp rfl rfl ?_)))))))))))))
  refine Ls (Rdo.pick_f rfl rfl) (Ls (Rdo.move rfl) (Lp rfl rfl (Lp rfl rfl (Lp rfl rfl (Ls (Rdo.pick_f rfl rfl) (Ls (Rdo.assign rfl) (Lnt (Wp.ret ?_))))))))
  refine Blk.r ?_
  refine Thn.r ?_
  refine Rt (ResV.tmp rfl ResV.nil) ⟨(by first | rfl | (simp [packed] <;> done) | (simp_all [packed] <;> done)), rfl⟩
  refine Lp rfl rfl (Lp rfl rfl (Lp rfl rfl (Ls (Rdo.pick_f rfl rfl) (Ls (Rdo.move rfl) (Lp rfl rfl (Lp rfl rfl (Lp rfl rfl (Ls (Rdo.pick_f rfl rfl) (Ls (Rdo.move rfl) (Lp rfl rfl (Lp rfl rfl (Lp rfl rfl (Ls (Rdo.pick_f rfl rfl) ?_)))))))))))))
  refine Ls (Rdo.assign rfl) (Lnt (Wp.seq (Wsr (Ls (Rdo.fieldAddr0 rfl) (Ls (Rdo.load rfl (Lds.one rfl)) (Lnt (Wp.block (Wsr (Ls (Rdo.eqi rfl rfl) (Ls (Rdo.assign rfl) (Lnt (cK rfl (Wsr ?_)))))))))))))
  refine Ls (Rdo.move rfl) (Ls (Rdo.move rfl) (Lp rfl rfl (Lp rfl rfl (Lp rfl rfl (Ls (Rdo.pick_f rfl rfl) (Ls (Rdo.move rfl) (Lp rfl rfl (Lp rfl rfl (Lp rfl rfl (Ls (Rdo.pick_f rfl rfl) (Ls (Rdo.assign rfl) (Lnt (Wp.ret ?_)))))))))))))
  refine Blk.r ?_
  refine Thn.r ?_
  refine Rt (ResV.tmp rfl ResV.nil) ⟨(by first | rfl | (simp [packed] <;> done) | (simp_all [packed] <;> done)), rfl⟩
theorem rOp_3 (o : Go.Proofs.YtccgdnocldmjeaaGreatDoor.Op) (hl : o.name.length ≤ 1000000) (hk : o.kind = 3) : Trip Tryz.prog 14 [.agg (opC o).toArray] [] (fun r l => r = vb (Decidable.decide (okOp o)) ∧ l = []) := by
  have s1 := rin_ok o.client 0 15
  have s2 := rin_ok o.seq 0 1048576
  have s3 := rin_ok o.producer 0 7
  have s4 := rin_ok o.epoch 0 100
  have s5 := rin_ok o.txn 0 100
  have hiff := okOp_3 hk
  refine Trip.of_body Tryz.func14 rfl Tryz.ntmps14 Tryz.results14 rfl ?_
  refine Wsr ?_
  (refine WpL.step (Stp.boxV rfl (VC.ag _) rfl ?_); intro nb2)
  refine Ls (Rdo.assign rfl) (Lnt (Wp.seq (Wsr (Ls (Rdo.fieldAddr0 rfl) (Ls (Rdo.load rfl (Lds.one rfl)) ?_)))))
  refine WpL.step (Sc (s1) rfl ?_)
  rintro _ _ ⟨rfl, rfl⟩
  refine Ll ?_
  refine Ls (Rdo.not rfl) (Ls (Rdo.move rfl) ?_)
  refine WpL.gN rfl rfl (fun c16 => ?_) (fun c16 => ?_)
  refine Lp rfl rfl (Lp rfl rfl (Lp rfl rfl (Lp rfl rfl (Ls (Rdo.pick_t rfl rfl) (Lnt ?_)))))
  refine Wp.condT rfl ?_
  refine Wsr (Ls (Rdo.assign rfl) (Lnt (Wp.ret ?_)))
  refine Thn.r ?_
  refine Rt (ResV.tmp rfl ResV.nil) ⟨(by first | rfl | (simp [packed] <;> done) | (simp_all [packed] <;> done)), rfl⟩
  refine Lw rfl rfl (Rdo.fieldAddr0 rfl) (Lw rfl rfl (Rdo.load rfl (Lds.one rfl)) ?_)
  refine WpL.want rfl rfl rfl (Sc (s2) rfl ?_)
  rintro _ _ ⟨rfl, rfl⟩
  refine Ll ?_
  refine Lw rfl rfl (Rdo.not rfl) (Ls (Rdo.pick_f rfl rfl) (Lnt ?_))
  refine Wp.condN rfl (fun c42 => ?_) (fun c42 => ?_)
  refine Wsr (Ls (Rdo.assign rfl) (Lnt (Wp.ret ?_)))
  refine Thn.r ?_
  refine Rt (ResV.tmp rfl ResV.nil) ⟨(by first | rfl | (simp [packed] <;> done) | (simp_all [packed] <;> done)), rfl⟩
  refine Wp.skip (Thn.n (Wsr (Ls (Rdo.fieldAddr0 rfl) (Ls (Rdo.load rfl (Lds.one rfl)) (Ls (Rdo.eqi rfl rfl) (Ls (Rdo.move rfl) ?_))))))
  refine WpL.gD rfl rfl (fun c59 => ?_) (fun c59 => ?_)
  refine Lw rfl rfl (Rdo.fieldAddr0 rfl) (Lw rfl rfl (Rdo.load rfl (Lds.one rfl)) (Lw rfl rfl (Rdo.eqi rfl rfl) (Ls (Rdo.pick_t rfl rfl) (Ls (Rdo.move rfl) ?_))))
  refine WpL.gD rfl rfl (fun c65 => ?_) (fun c65 => ?_)
  refine Lw rfl rfl (Rdo.fieldAddr0 rfl) (Lw rfl rfl (Rdo.load rfl (Lds.one rfl)) (Lw rfl rfl (Rdo.eqi rfl rfl) (Ls (Rdo.pick_t rfl rfl) (Ls (Rdo.assign rfl) (Lnt (Wp.seq (Wsr (Ls (Rdo.fieldAddr0 rfl) (Ls (Rdo.load rfl (Lds.one rfl)) (Lnt (Wp.block (Wsr (Ls (Rdo.eqi rfl rfl) ?_)))))))))))))
  refine Ls (Rdo.assign rfl) (Lnt (cL rfl (Wsr (Ls (Rdo.eqi rfl rfl) (Ls (Rdo.assign rfl) (Lnt (cL rfl (Wp.skip (Blk.n (Thn.n (Wsr (Ls (Rdo.fieldAddr0 rfl) (Ls (Rdo.load rfl (Lds.one rfl)) ?_)))))))))))))
  refine Ls (Rdo.eqVs rfl rfl) (Ls (Rdo.move rfl) ?_)
  refine WpL.gD rfl rfl (fun c104 => ?_) (fun c104 => ?_)
  refine Lw rfl rfl (Rdo.fieldAddr0 rfl) (Lw rfl rfl (Rdo.load rfl (Lds.one rfl)) ?_)
  refine WpL.want rfl rfl rfl (Sc (s3) rfl ?_)
  rintro _ _ ⟨rfl, rfl⟩
  refine Ll ?_
  refine Ls (Rdo.pick_t rfl rfl) (Ls (Rdo.move rfl) (Lg rfl rfl (Lw rfl rfl (Rdo.fieldAddr0 rfl) (Lw rfl rfl (Rdo.load rfl (Lds.one rfl)) ?_))))
  refine WpL.want rfl rfl rfl (Sc (s4) rfl ?_)
  rintro _ _ ⟨rfl, rfl⟩
  refine Ll ?_
  refine Ls (Rdo.pick_t rfl rfl) (Ls (Rdo.move rfl) (Lg rfl rfl (Lw rfl rfl (Rdo.fieldAddr0 rfl) (Lw rfl rfl (Rdo.load rfl (Lds.one rfl)) ?_))))
  refine WpL.want rfl rfl rfl (Sc (s5) rfl ?_)
  rintro _ _ ⟨rfl, rfl⟩
  refine Ll ?_
  refine Ls (Rdo.pick_t rfl rfl) (Ls (Rdo.assign rfl) (Lnt (Wp.seq (Wsr (Ls (Rdo.fieldAddr0 rfl) (Ls (Rdo.load rfl (Lds.one rfl)) (Lnt (Wp.block (Wsr (Ls (Rdo.eqi rfl rfl) (Ls (Rdo.assign rfl) (Lnt (cL rfl ?_)))))))))))))
  refine Wsr (Ls (Rdo.eqi rfl rfl) (Ls (Rdo.assign rfl) (Lnt (cK rfl (Wsr (Ls (Rdo.move rfl) (Ls (Rdo.move rfl) ?_)))))))
  refine WpL.gD rfl rfl (fun c156 => ?_) (fun c156 => ?_)
  refine Lw rfl rfl (Rdo.fieldAddr0 rfl) (Lw rfl rfl (Rdo.load rfl (Lds.one rfl)) (Lw rfl rfl (Rdo.eqi rfl rfl) (Ls (Rdo.pick_t rfl rfl) (Ls (Rdo.assign rfl) (Lnt (Wp.ret ?_))))))
  refine Blk.r ?_
  refine Thn.r ?_
  refine Rt (ResV.tmp rfl ResV.nil) ⟨(by first | rfl | (simp [packed] <;> done) | (simp_all [packed] <;> done)), rfl⟩
  refine Lp rfl rfl (Lp rfl rfl (Lp rfl rfl (Ls (Rdo.pick_f rfl rfl) (Ls (Rdo.assign rfl) (Lnt (Wp.ret ?_))))))
  refine Blk.r ?_
  refine Thn.r ?_
  refine Rt (ResV.tmp rfl ResV.nil) ⟨(by first | rfl | (simp [packed] <;> done) | (simp_all [packed] <;> done)), rfl⟩
  refine Lp rfl rfl (Lp rfl rfl (Lp rfl rfl (Ls (Rdo.pick_f rfl rfl) (Ls (Rdo.move rfl) (Lp rfl rfl (Lp rfl rfl (Lp rfl rfl (Ls (Rdo.pick_f rfl rfl) (Ls (Rdo.move rfl) (Lp rfl rfl (Lp rfl rfl (Lp rfl rfl (Ls (Rdo.pick_f rfl rfl) ?_)))))))))))))
  refine Ls (Rdo.assign rfl) (Lnt (Wp.seq (Wsr (Ls (Rdo.fieldAddr0 rfl) (Ls (Rdo.load rfl (Lds.one rfl)) (Lnt (Wp.block (Wsr (Ls (Rdo.eqi rfl rfl) (Ls (Rdo.assign rfl) (Lnt (cL rfl (Wsr ?_)))))))))))))
  refine Ls (Rdo.eqi rfl rfl) (Ls (Rdo.assign rfl) (Lnt (cK rfl (Wsr (Ls (Rdo.move rfl) (Ls (Rdo.move rfl) (Lp rfl rfl (Lp rfl rfl (Lp rfl rfl (Ls (Rdo.pick_f rfl rfl) (Ls (Rdo.assign rfl) (Lnt (Wp.ret ?_)))))))))))))
  refine Blk.r ?_
  refine Thn.r ?_
  refine Rt (ResV.tmp rfl ResV.nil) ⟨(by first | rfl | (simp [packed] <;> done) | (simp_all [packed] <;> done)), rfl⟩
  refine Lp rfl rfl (Lp rfl rfl (Lp rfl rfl (Ls (Rdo.pick_f rfl rfl) (Ls (Rdo.assign rfl) (Lnt (Wp.seq (Wsr (Ls (Rdo.fieldAddr0 rfl) (Ls (Rdo.load rfl (Lds.one rfl)) (Lnt (Wp.block (Wsr (Ls (Rdo.eqi rfl rfl) ?_)))))))))))))
  refine Ls (Rdo.assign rfl) (Lnt (cL rfl (Wsr (Ls (Rdo.eqi rfl rfl) (Ls (Rdo.assign rfl) (Lnt (cL rfl (Wp.skip (Blk.n (Thn.n (Wsr (Ls (Rdo.fieldAddr0 rfl) (Ls (Rdo.load rfl (Lds.one rfl)) ?_)))))))))))))
  refine Ls (Rdo.eqVs rfl rfl) (Ls (Rdo.move rfl) ?_)
  refine WpL.gD rfl rfl (fun c271 => ?_) (fun c271 => ?_)
  refine Lw rfl rfl (Rdo.fieldAddr0 rfl) (Lw rfl rfl (Rdo.load rfl (Lds.one rfl)) ?_)
  refine WpL.want rfl rfl rfl (Sc (s3) rfl ?_)
  rintro _ _ ⟨rfl, rfl⟩
  refine Ll ?_
  refine Ls (Rdo.pick_t rfl rfl) (Ls (Rdo.move rfl) (Lg rfl rfl (Lw rfl rfl (Rdo.fieldAddr0 rfl) (Lw rfl rfl (Rdo.load rfl (Lds.one rfl)) ?_))))
  refine WpL.want rfl rfl rfl (Sc (s4) rfl ?_)
  rintro _ _ ⟨rfl, rfl⟩
  refine Ll ?_
  refine Ls (Rdo.pick_t rfl rfl) (Ls (Rdo.move rfl) ?_)
  refine WpL.gD rfl rfl (fun c287 => ?_) (fun c287 => ?_)
  refine Lw rfl rfl (Rdo.fieldAddr0 rfl) (Lw rfl rfl (Rdo.load rfl (Lds.one rfl)) ?_)
  refine WpL.want rfl rfl rfl (Sc (s5) rfl ?_)
  rintro _ _ ⟨rfl, rfl⟩
  refine Ll ?_
  refine Ls (Rdo.pick_t rfl rfl) (Ls (Rdo.assign rfl) (Lnt (Wp.seq (Wsr (Ls (Rdo.fieldAddr0 rfl) (Ls (Rdo.load rfl (Lds.one rfl)) (Lnt (Wp.block (Wsr (Ls (Rdo.eqi rfl rfl) (Ls (Rdo.assign rfl) (Lnt (cL rfl ?_)))))))))))))
  refine Wsr (Ls (Rdo.eqi rfl rfl) (Ls (Rdo.assign rfl) (Lnt (cK rfl (Wsr (Ls (Rdo.move rfl) (Ls (Rdo.move rfl) ?_)))))))
  refine WpL.gD rfl rfl (fun c323 => ?_) (fun c323 => ?_)
  refine Lw rfl rfl (Rdo.fieldAddr0 rfl) (Lw rfl rfl (Rdo.load rfl (Lds.one rfl)) (Lw rfl rfl (Rdo.eqi rfl rfl) (Ls (Rdo.pick_t rfl rfl) (Ls (Rdo.assign rfl) (Lnt (Wp.ret ?_))))))
  refine Blk.r ?_
  refine Thn.r ?_
  refine Rt (ResV.tmp rfl ResV.nil) ⟨(by first | rfl | (simp [packed] <;> done) | (simp_all [packed] <;> done)), rfl⟩
  refine Lp rfl rfl (Lp rfl rfl (Lp rfl rfl (Ls (Rdo.pick_f rfl rfl) (Ls (Rdo.assign rfl) (Lnt (Wp.ret ?_))))))
  refine Blk.r ?_
  refine Thn.r ?_
  refine Rt (ResV.tmp rfl ResV.nil) ⟨(by first | rfl | (simp [packed] <;> done) | (simp_all [packed] <;> done)), rfl⟩
  refine Lp rfl rfl (Lp rfl rfl (Lp rfl rfl (Ls (Rdo.pick_f rfl rfl) (Ls (Rdo.assign rfl) (Lnt (Wp.seq (Wsr (Ls (Rdo.fieldAddr0 rfl) (Ls (Rdo.load rfl (Lds.one rfl)) (Lnt (Wp.block (Wsr (Ls (Rdo.eqi rfl rfl) ?_)))))))))))))
  refine Ls (Rdo.assign rfl) (Lnt (cL rfl (Wsr (Ls (Rdo.eqi rfl rfl) (Ls (Rdo.assign rfl) (Lnt (cK rfl (Wsr (Ls (Rdo.move rfl) (Ls (Rdo.move rfl) (Lp rfl rfl (Lp rfl rfl (Lp rfl rfl ?_)))))))))))))
  refine Ls (Rdo.pick_f rfl rfl) (Ls (Rdo.assign rfl) (Lnt (Wp.ret ?_)))
  refine Blk.r ?_
  refine Thn.r ?_
  refine Rt (ResV.tmp rfl ResV.nil) ⟨(by first | rfl | (simp [packed] <;> done) | (simp_all [packed] <;> done)), rfl⟩
  refine Lp rfl rfl (Lp rfl rfl (Lp rfl rfl (Ls (Rdo.pick_f rfl rfl) (Ls (Rdo.move rfl) (Lp rfl rfl (Lp rfl rfl (Lp rfl rfl (Ls (Rdo.pick_f rfl rfl) (Ls (Rdo.move rfl) (Lp rfl rfl (Lp rfl rfl (Lp rfl rfl (Ls (Rdo.pick_f rfl rfl) ?_)))))))))))))
  refine Ls (Rdo.assign rfl) (Lnt (Wp.seq (Wsr (Ls (Rdo.fieldAddr0 rfl) (Ls (Rdo.load rfl (Lds.one rfl)) (Lnt (Wp.block (Wsr (Ls (Rdo.eqi rfl rfl) (Ls (Rdo.assign rfl) (Lnt (cL rfl (Wsr ?_)))))))))))))
  refine Ls (Rdo.eqi rfl rfl) (Ls (Rdo.assign rfl) (Lnt (cK rfl (Wsr (Ls (Rdo.move rfl) (Ls (Rdo.move rfl) (Lp rfl rfl (Lp rfl rfl (Lp rfl rfl (Ls (Rdo.pick_f rfl rfl) (Ls (Rdo.assign rfl) (Lnt (Wp.ret ?_)))))))))))))
  refine Blk.r ?_
  refine Thn.r ?_
  refine Rt (ResV.tmp rfl ResV.nil) ⟨(by first | rfl | (simp [packed] <;> done) | (simp_all [packed] <;> done)), rfl⟩
  refine Lp rfl rfl (Lp rfl rfl (Lp rfl rfl (Ls (Rdo.pick_f rfl rfl) (Ls (Rdo.move rfl) (Lp rfl rfl (Lp rfl rfl (Lp rfl rfl (Ls (Rdo.pick_f rfl rfl) (Ls (Rdo.assign rfl) (Lnt (Wp.seq (Wsr (Ls (Rdo.fieldAddr0 rfl) ?_)))))))))))))
  refine Ls (Rdo.load rfl (Lds.one rfl)) (Lnt (Wp.block (Wsr (Ls (Rdo.eqi rfl rfl) (Ls (Rdo.assign rfl) (Lnt (cL rfl (Wsr (Ls (Rdo.eqi rfl rfl) (Ls (Rdo.assign rfl) (Lnt (cL rfl (Wp.skip ?_)))))))))))))
  refine Blk.n (Thn.n (Wsr (Ls (Rdo.fieldAddr0 rfl) (Ls (Rdo.load rfl (Lds.one rfl)) (Ls (Rdo.eqVs rfl rfl) (Ls (Rdo.move rfl) ?_))))))
  refine WpL.gD rfl rfl (fun c487 => ?_) (fun c487 => ?_)
  refine Lw rfl rfl (Rdo.fieldAddr0 rfl) (Lw rfl rfl (Rdo.load rfl (Lds.one rfl)) ?_)
  refine WpL.want rfl rfl rfl (Sc (s3) rfl ?_)
  rintro _ _ ⟨rfl, rfl⟩
  refine Ll ?_
  refine Ls (Rdo.pick_t rfl rfl) (Ls (Rdo.move rfl) ?_)
  refine WpL.gD rfl rfl (fun c495 => ?_) (fun c495 => ?_)
  refine Lw rfl rfl (Rdo.fieldAddr0 rfl) (Lw rfl rfl (Rdo.load rfl (Lds.one rfl)) ?_)
  refine WpL.want rfl rfl rfl (Sc (s4) rfl ?_)
  rintro _ _ ⟨rfl, rfl⟩
  refine Ll ?_
  refine Ls (Rdo.pick_t rfl rfl) (Ls (Rdo.move rfl) ?_)
  refine WpL.gD rfl rfl (fun c503 => ?_) (fun c503 => ?_)
  refine Lw rfl rfl (Rdo.fieldAddr0 rfl) (Lw rfl rfl (Rdo.load rfl (Lds.one rfl)) ?_)
  refine WpL.want rfl rfl rfl (Sc (s5) rfl ?_)
  rintro _ _ ⟨rfl, rfl⟩
  refine Ll ?_
  refine Ls (Rdo.pick_t rfl rfl) (Ls (Rdo.assign rfl) (Lnt (Wp.seq (Wsr (Ls (Rdo.fieldAddr0 rfl) (Ls (Rdo.load rfl (Lds.one rfl)) (Lnt (Wp.block (Wsr (Ls (Rdo.eqi rfl rfl) (Ls (Rdo.assign rfl) (Lnt (cL rfl ?_)))))))))))))
  refine Wsr (Ls (Rdo.eqi rfl rfl) (Ls (Rdo.assign rfl) (Lnt (cK rfl (Wsr (Ls (Rdo.move rfl) (Ls (Rdo.move rfl) ?_)))))))
  refine WpL.gD rfl rfl (fun c539 => ?_) (fun c539 => ?_)
  refine Lw rfl rfl (Rdo.fieldAddr0 rfl) (Lw rfl rfl (Rdo.load rfl (Lds.one rfl)) (Lw rfl rfl (Rdo.eqi rfl rfl) (Ls (Rdo.pick_t rfl rfl) (Ls (Rdo.assign rfl) (Lnt (Wp.ret ?_))))))
  refine Blk.r ?_
  refine Thn.r ?_
  refine Rt (ResV.tmp rfl ResV.nil) ⟨(by first | rfl | (simp [packed] <;> done) | (simp_all [packed] <;> done)), rfl⟩
  refine Lp rfl rfl (Lp rfl rfl (Lp rfl rfl (Ls (Rdo.pick_f rfl rfl) (Ls (Rdo.assign rfl) (Lnt (Wp.ret ?_))))))
  refine Blk.r ?_
  refine Thn.r ?_
  refine Rt (ResV.tmp rfl ResV.nil) ⟨(by first | rfl | (simp [packed] <;> done) | (simp_all [packed] <;> done)), rfl⟩
  refine Lp rfl rfl (Lp rfl rfl (Lp rfl rfl (Ls (Rdo.pick_f rfl rfl) (Ls (Rdo.assign rfl) (Lnt (Wp.seq (Wsr (Ls (Rdo.fieldAddr0 rfl) (Ls (Rdo.load rfl (Lds.one rfl)) (Lnt (Wp.block (Wsr (Ls (Rdo.eqi rfl rfl) ?_)))))))))))))
  refine Ls (Rdo.assign rfl) (Lnt (cL rfl (Wsr (Ls (Rdo.eqi rfl rfl) (Ls (Rdo.assign rfl) (Lnt (cK rfl (Wsr (Ls (Rdo.move rfl) (Ls (Rdo.move rfl) (Lp rfl rfl (Lp rfl rfl (Lp rfl rfl ?_)))))))))))))
  refine Ls (Rdo.pick_f rfl rfl) (Ls (Rdo.assign rfl) (Lnt (Wp.ret ?_)))
  refine Blk.r ?_
  refine Thn.r ?_
  refine Rt (ResV.tmp rfl ResV.nil) ⟨(by first | rfl | (simp [packed] <;> done) | (simp_all [packed] <;> done)), rfl⟩
  refine Lp rfl rfl (Lp rfl rfl (Lp rfl rfl (Ls (Rdo.pick_f rfl rfl) (Ls (Rdo.move rfl) (Lp rfl rfl (Lp rfl rfl (Lp rfl rfl (Ls (Rdo.pick_f rfl rfl) (Ls (Rdo.assign rfl) (Lnt (Wp.seq (Wsr (Ls (Rdo.fieldAddr0 rfl) ?_)))))))))))))
  refine Ls (Rdo.load rfl (Lds.one rfl)) (Lnt (Wp.block (Wsr (Ls (Rdo.eqi rfl rfl) (Ls (Rdo.assign rfl) (Lnt (cL rfl (Wsr (Ls (Rdo.eqi rfl rfl) (Ls (Rdo.assign rfl) (Lnt (cK rfl (Wsr ?_)))))))))))))
  refine Ls (Rdo.move rfl) (Ls (Rdo.move rfl) (Lp rfl rfl (Lp rfl rfl (Lp rfl rfl (Ls (Rdo.pick_f rfl rfl) (Ls (Rdo.assign rfl) (Lnt (Wp.ret ?_))))))))
  refine Blk.r ?_
  refine Thn.r ?_
  refine Rt (ResV.tmp rfl ResV.nil) ⟨(by first | rfl | (simp [packed] <;> done) | (simp_all [packed] <;> done)), rfl⟩
  refine Lp rfl rfl (Lp rfl rfl (Lp rfl rfl (Ls (Rdo.pick_f rfl rfl) (Ls (Rdo.move rfl) (Lp rfl rfl (Lp rfl rfl (Lp rfl rfl (Ls (Rdo.pick_f rfl rfl) (Ls (Rdo.move rfl) (Lp rfl rfl (Lp rfl rfl (Lp rfl rfl (Ls (Rdo.pick_f rfl rfl) ?_)))))))))))))
  refine Ls (Rdo.assign rfl) (Lnt (Wp.seq (Wsr (Ls (Rdo.fieldAddr0 rfl) (Ls (Rdo.load rfl (Lds.one rfl)) (Lnt (Wp.block (Wsr (Ls (Rdo.eqi rfl rfl) (Ls (Rdo.assign rfl) (Lnt (cL rfl (Wsr ?_)))))))))))))
  refine Ls (Rdo.eqi rfl rfl) (Ls (Rdo.assign rfl) (Lnt (cK rfl (Wsr (Ls (Rdo.move rfl) (Ls (Rdo.move rfl) (Lp rfl rfl (Lp rfl rfl (Lp rfl rfl (Ls (Rdo.pick_f rfl rfl) (Ls (Rdo.assign rfl) (Lnt (Wp.ret ?_)))))))))))))
  refine Blk.r ?_
  refine Thn.r ?_
  refine Rt (ResV.tmp rfl ResV.nil) ⟨(by first | rfl | (simp [packed] <;> done) | (simp_all [packed] <;> done)), rfl⟩
theorem rOp_4 (o : Go.Proofs.YtccgdnocldmjeaaGreatDoor.Op) (hl : o.name.length ≤ 1000000) (hk : o.kind = 4) : Trip Tryz.prog 14 [.agg (opC o).toArray] [] (fun r l => r = vb (Decidable.decide (okOp o)) ∧ l = []) := by
  have s1 := rin_ok o.client 0 15
  have s2 := rin_ok o.seq 0 1048576
  have hiff := okOp_4 hk
  refine Trip.of_body Tryz.func14 rfl Tryz.ntmps14 Tryz.results14 rfl ?_
  refine Wsr ?_
  (refine WpL.step (Stp.boxV rfl (VC.ag _) rfl ?_); intro nb2)
  refine Ls (Rdo.assign rfl) (Lnt (Wp.seq (Wsr (Ls (Rdo.fieldAddr0 rfl) (Ls (Rdo.load rfl (Lds.one rfl)) ?_)))))
  refine WpL.step (Sc (s1) rfl ?_)
  rintro _ _ ⟨rfl, rfl⟩
  refine Ll ?_
  refine Ls (Rdo.not rfl) (Ls (Rdo.move rfl) ?_)
  refine WpL.gN rfl rfl (fun c16 => ?_) (fun c16 => ?_)
  refine Lp rfl rfl (Lp rfl rfl (Lp rfl rfl (Lp rfl rfl (Ls (Rdo.pick_t rfl rfl) (Lnt ?_)))))
  refine Wp.condT rfl ?_
  refine Wsr (Ls (Rdo.assign rfl) (Lnt (Wp.ret ?_)))
  refine Thn.r ?_
  refine Rt (ResV.tmp rfl ResV.nil) ⟨(by first | rfl | (simp [packed] <;> done) | (simp_all [packed] <;> done)), rfl⟩
  refine Lw rfl rfl (Rdo.fieldAddr0 rfl) (Lw rfl rfl (Rdo.load rfl (Lds.one rfl)) ?_)
  refine WpL.want rfl rfl rfl (Sc (s2) rfl ?_)
  rintro _ _ ⟨rfl, rfl⟩
  refine Ll ?_
  refine Lw rfl rfl (Rdo.not rfl) (Ls (Rdo.pick_f rfl rfl) (Lnt ?_))
  refine Wp.condN rfl (fun c42 => ?_) (fun c42 => ?_)
  refine Wsr (Ls (Rdo.assign rfl) (Lnt (Wp.ret ?_)))
  refine Thn.r ?_
  refine Rt (ResV.tmp rfl ResV.nil) ⟨(by first | rfl | (simp [packed] <;> done) | (simp_all [packed] <;> done)), rfl⟩
  refine Wp.skip (Thn.n (Wsr (Ls (Rdo.fieldAddr0 rfl) (Ls (Rdo.load rfl (Lds.one rfl)) (Ls (Rdo.eqi rfl rfl) (Ls (Rdo.move rfl) ?_))))))
  refine WpL.gD rfl rfl (fun c59 => ?_) (fun c59 => ?_)
  refine Lw rfl rfl (Rdo.fieldAddr0 rfl) (Lw rfl rfl (Rdo.load rfl (Lds.one rfl)) (Lw rfl rfl (Rdo.eqi rfl rfl) (Ls (Rdo.pick_t rfl rfl) (Ls (Rdo.move rfl) ?_))))
  refine WpL.gD rfl rfl (fun c65 => ?_) (fun c65 => ?_)
  refine Lw rfl rfl (Rdo.fieldAddr0 rfl) (Lw rfl rfl (Rdo.load rfl (Lds.one rfl)) (Lw rfl rfl (Rdo.eqi rfl rfl) (Ls (Rdo.pick_t rfl rfl) (Ls (Rdo.assign rfl) (Lnt (Wp.seq (Wsr (Ls (Rdo.fieldAddr0 rfl) (Ls (Rdo.load rfl (Lds.one rfl)) (Lnt (Wp.block (Wsr (Ls (Rdo.eqi rfl rfl) ?_)))))))))))))
  refine Ls (Rdo.assign rfl) (Lnt (cL rfl (Wsr (Ls (Rdo.eqi rfl rfl) (Ls (Rdo.assign rfl) (Lnt (cK rfl (Wsr (Ls (Rdo.fieldAddr0 rfl) (Ls (Rdo.load rfl (Lds.one rfl)) (Ls (Rdo.eqVs rfl rfl) (Ls (Rdo.move rfl) ?_))))))))))))
  refine WpL.gD rfl rfl (fun c101 => ?_) (fun c101 => ?_)
  refine Lw rfl rfl (Rdo.move rfl) (Ls (Rdo.pick_t rfl rfl) (Ls (Rdo.move rfl) ?_))
  refine WpL.gD rfl rfl (fun c105 => ?_) (fun c105 => ?_)
  refine Lw rfl rfl (Rdo.fieldAddr0 rfl) (Lw rfl rfl (Rdo.load rfl (Lds.one rfl)) (Lw rfl rfl (Rdo.eqi rfl rfl) (Ls (Rdo.pick_t rfl rfl) (Ls (Rdo.move rfl) ?_))))
  refine WpL.gD rfl rfl (fun c111 => ?_) (fun c111 => ?_)
  refine Lw rfl rfl (Rdo.fieldAddr0 rfl) (Lw rfl rfl (Rdo.load rfl (Lds.one rfl)) (Lw rfl rfl (Rdo.not rfl) (Ls (Rdo.pick_t rfl rfl) (Ls (Rdo.assign rfl) (Lnt (Wp.ret ?_))))))
  refine Blk.r ?_
  refine Thn.r ?_
  refine Rt (ResV.tmp rfl ResV.nil) ⟨(by first | rfl | (simp [packed] <;> done) | (simp_all [packed] <;> done)), rfl⟩
  refine Lp rfl rfl (Lp rfl rfl (Lp rfl rfl (Ls (Rdo.pick_f rfl rfl) (Ls (Rdo.assign rfl) (Lnt (Wp.ret ?_))))))
  refine Blk.r ?_
  refine Thn.r ?_
  refine Rt (ResV.tmp rfl ResV.nil) ⟨(by first | rfl | (simp [packed] <;> done) | (simp_all [packed] <;> done)), rfl⟩
  refine Lp rfl rfl (Lp rfl rfl (Lp rfl rfl (Ls (Rdo.pick_f rfl rfl) (Ls (Rdo.move rfl) (Lp rfl rfl (Lp rfl rfl (Lp rfl rfl (Ls (Rdo.pick_f rfl rfl) (Ls (Rdo.assign rfl) (Lnt (Wp.ret ?_)))))))))))
  refine Blk.r ?_
  refine Thn.r ?_
  refine Rt (ResV.tmp rfl ResV.nil) ⟨(by first | rfl | (simp [packed] <;> done) | (simp_all [packed] <;> done)), rfl⟩
  refine Lp rfl rfl (Ls (Rdo.pick_f rfl rfl) (Ls (Rdo.move rfl) (Lp rfl rfl (Lp rfl rfl (Lp rfl rfl (Ls (Rdo.pick_f rfl rfl) (Ls (Rdo.move rfl) (Lp rfl rfl (Lp rfl rfl (Lp rfl rfl (Ls (Rdo.pick_f rfl rfl) (Ls (Rdo.assign rfl) (Lnt ?_)))))))))))))
  refine Wp.ret ?_
  refine Blk.r ?_
  refine Thn.r ?_
  refine Rt (ResV.tmp rfl ResV.nil) ⟨(by first | rfl | (simp [packed] <;> done) | (simp_all [packed] <;> done)), rfl⟩
  refine Lp rfl rfl (Lp rfl rfl (Lp rfl rfl (Ls (Rdo.pick_f rfl rfl) (Ls (Rdo.assign rfl) (Lnt (Wp.seq (Wsr (Ls (Rdo.fieldAddr0 rfl) (Ls (Rdo.load rfl (Lds.one rfl)) (Lnt (Wp.block (Wsr (Ls (Rdo.eqi rfl rfl) ?_)))))))))))))
  refine Ls (Rdo.assign rfl) (Lnt (cL rfl (Wsr (Ls (Rdo.eqi rfl rfl) (Ls (Rdo.assign rfl) (Lnt (cK rfl (Wsr (Ls (Rdo.fieldAddr0 rfl) (Ls (Rdo.load rfl (Lds.one rfl)) (Ls (Rdo.eqVs rfl rfl) (Ls (Rdo.move rfl) ?_))))))))))))
  refine WpL.gD rfl rfl (fun c204 => ?_) (fun c204 => ?_)
  refine Lw rfl rfl (Rdo.move rfl) (Ls (Rdo.pick_t rfl rfl) (Ls (Rdo.move rfl) (Lp rfl rfl (Lp rfl rfl (Lp rfl rfl (Ls (Rdo.pick_f rfl rfl) (Ls (Rdo.move rfl) (Lp rfl rfl (Lp rfl rfl (Lp rfl rfl (Ls (Rdo.pick_f rfl rfl) (Ls (Rdo.assign rfl) (Lnt ?_)))))))))))))
  refine Wp.ret ?_
  refine Blk.r ?_
  refine Thn.r ?_
  refine Rt (ResV.tmp rfl ResV.nil) ⟨(by first | rfl | (simp [packed] <;> done) | (simp_all [packed] <;> done)), rfl⟩
  refine Lp rfl rfl (Ls (Rdo.pick_f rfl rfl) (Ls (Rdo.move rfl) (Lp rfl rfl (Lp rfl rfl (Lp rfl rfl (Ls (Rdo.pick_f rfl rfl) (Ls (Rdo.move rfl) (Lp rfl rfl (Lp rfl rfl (Lp rfl rfl (Ls (Rdo.pick_f rfl rfl) (Ls (Rdo.assign rfl) (Lnt ?_)))))))))))))
  refine Wp.ret ?_
  refine Blk.r ?_
  refine Thn.r ?_
  refine Rt (ResV.tmp rfl ResV.nil) ⟨(by first | rfl | (simp [packed] <;> done) | (simp_all [packed] <;> done)), rfl⟩
  refine Lp rfl rfl (Lp rfl rfl (Lp rfl rfl (Ls (Rdo.pick_f rfl rfl) (Ls (Rdo.move rfl) (Lp rfl rfl (Lp rfl rfl (Lp rfl rfl (Ls (Rdo.pick_f rfl rfl) (Ls (Rdo.assign rfl) (Lnt (Wp.seq (Wsr (Ls (Rdo.fieldAddr0 rfl) ?_)))))))))))))
  refine Ls (Rdo.load rfl (Lds.one rfl)) (Lnt (Wp.block (Wsr (Ls (Rdo.eqi rfl rfl) (Ls (Rdo.assign rfl) (Lnt (cL rfl (Wsr (Ls (Rdo.eqi rfl rfl) (Ls (Rdo.assign rfl) (Lnt (cK rfl (Wsr ?_)))))))))))))
  refine Ls (Rdo.fieldAddr0 rfl) (Ls (Rdo.load rfl (Lds.one rfl)) (Ls (Rdo.eqVs rfl rfl) (Ls (Rdo.move rfl) ?_)))
  refine WpL.gD rfl rfl (fun c283 => ?_) (fun c283 => ?_)
  refine Lw rfl rfl (Rdo.move rfl) (Ls (Rdo.pick_t rfl rfl) (Ls (Rdo.move rfl) (Lp rfl rfl (Lp rfl rfl (Lp rfl rfl (Ls (Rdo.pick_f rfl rfl) (Ls (Rdo.move rfl) (Lp rfl rfl (Lp rfl rfl (Lp rfl rfl (Ls (Rdo.pick_f rfl rfl) (Ls (Rdo.assign rfl) (Lnt ?_)))))))))))))
  refine Wp.ret ?_
  refine Blk.r ?_
  refine Thn.r ?_
  refine Rt (ResV.tmp rfl ResV.nil) ⟨(by first | rfl | (simp [packed] <;> done) | (simp_all [packed] <;> done)), rfl⟩
  refine Lp rfl rfl (Ls (Rdo.pick_f rfl rfl) (Ls (Rdo.move rfl) (Lp rfl rfl (Lp rfl rfl (Lp rfl rfl (Ls (Rdo.pick_f rfl rfl) (Ls (Rdo.move rfl) (Lp rfl rfl (Lp rfl rfl (Lp rfl rfl (Ls (Rdo.pick_f rfl rfl) (Ls (Rdo.assign rfl) (Lnt ?_)))))))))))))
  refine Wp.ret ?_
  refine Blk.r ?_
  refine Thn.r ?_
  refine Rt (ResV.tmp rfl ResV.nil) ⟨(by first | rfl | (simp [packed] <;> done) | (simp_all [packed] <;> done)), rfl⟩
theorem rOp_ok (o : Go.Proofs.YtccgdnocldmjeaaGreatDoor.Op) (hl : o.name.length ≤ 1000000) : Trip Tryz.prog 14 [.agg (opC o).toArray] [] (fun r l => r = vb (Decidable.decide (okOp o)) ∧ l = []) := by
  by_cases h1 : o.kind = 1
  · exact rOp_1 o hl h1
  by_cases h2 : o.kind = 2
  · exact rOp_2 o hl h2
  by_cases h3 : o.kind = 3
  · exact rOp_3 o hl h3
  by_cases h4 : o.kind = 4
  · exact rOp_4 o hl h4
  have hno : ¬ okOp o := fun h => by have := h.kind; omega
  have s1 := rin_ok o.client 0 15
  have s2 := rin_ok o.seq 0 1048576
  have s3 := rin_ok o.producer 0 7
  have s4 := rin_ok o.epoch 0 100
  have s5 := rin_ok o.txn 0 100
  refine Trip.of_body Tryz.func14 rfl Tryz.ntmps14 Tryz.results14 rfl ?_
  refine Wsr ?_
  (refine WpL.step (Stp.boxV rfl (VC.ag _) rfl ?_); intro nb2)
  refine Ls (Rdo.assign rfl) (Lnt (Wp.seq (Wsr (Ls (Rdo.fieldAddr0 rfl) (Ls (Rdo.load rfl (Lds.one rfl)) ?_)))))
  refine WpL.step (Sc (s1) rfl ?_)
  rintro _ _ ⟨rfl, rfl⟩
  refine Ll ?_
  refine Ls (Rdo.not rfl) (Ls (Rdo.move rfl) ?_)
  refine WpL.gN rfl rfl (fun c16 => ?_) (fun c16 => ?_)
  refine Lp rfl rfl (Lp rfl rfl (Lp rfl rfl (Lp rfl rfl (Ls (Rdo.pick_t rfl rfl) (Lnt ?_)))))
  refine Wp.condT rfl ?_
  refine Wsr (Ls (Rdo.assign rfl) (Lnt (Wp.ret ?_)))
  refine Thn.r ?_
  refine Rt (ResV.tmp rfl ResV.nil) ⟨(by first | rfl | (simp [packed] <;> done) | (simp_all [packed] <;> done)), rfl⟩
  refine Lw rfl rfl (Rdo.fieldAddr0 rfl) (Lw rfl rfl (Rdo.load rfl (Lds.one rfl)) ?_)
  refine WpL.want rfl rfl rfl (Sc (s2) rfl ?_)
  rintro _ _ ⟨rfl, rfl⟩
  refine Ll ?_
  refine Lw rfl rfl (Rdo.not rfl) (Ls (Rdo.pick_f rfl rfl) (Lnt ?_))
  refine Wp.condN rfl (fun c42 => ?_) (fun c42 => ?_)
  refine Wsr (Ls (Rdo.assign rfl) (Lnt (Wp.ret ?_)))
  refine Thn.r ?_
  refine Rt (ResV.tmp rfl ResV.nil) ⟨(by first | rfl | (simp [packed] <;> done) | (simp_all [packed] <;> done)), rfl⟩
  refine Wp.skip (Thn.n (Wsr (Ls (Rdo.fieldAddr0 rfl) (Ls (Rdo.load rfl (Lds.one rfl)) (Ls (Rdo.eqi rfl rfl) (Ls (Rdo.move rfl) ?_))))))
  refine WpL.gD rfl rfl (fun c59 => ?_) (fun c59 => ?_)
  refine Lw rfl rfl (Rdo.fieldAddr0 rfl) (Lw rfl rfl (Rdo.load rfl (Lds.one rfl)) (Lw rfl rfl (Rdo.eqi rfl rfl) (Ls (Rdo.pick_t rfl rfl) (Ls (Rdo.move rfl) ?_))))
  refine WpL.gD rfl rfl (fun c65 => ?_) (fun c65 => ?_)
  refine Lw rfl rfl (Rdo.fieldAddr0 rfl) (Lw rfl rfl (Rdo.load rfl (Lds.one rfl)) (Lw rfl rfl (Rdo.eqi rfl rfl) (Ls (Rdo.pick_t rfl rfl) (Ls (Rdo.assign rfl) (Lnt (Wp.seq (Wsr (Ls (Rdo.fieldAddr0 rfl) (Ls (Rdo.load rfl (Lds.one rfl)) (Lnt (Wp.block (Wsr (Ls (Rdo.eqi rfl rfl) ?_)))))))))))))
  refine Ls (Rdo.assign rfl) (Lnt (cL rfl (Wsr (Ls (Rdo.eqi rfl rfl) (Ls (Rdo.assign rfl) (Lnt (cL rfl (Wp.skip (Blk.n (Thn.n (Wsr (Ls (Rdo.fieldAddr0 rfl) (Ls (Rdo.load rfl (Lds.one rfl)) ?_)))))))))))))
  refine Ls (Rdo.eqVs rfl rfl) (Ls (Rdo.move rfl) ?_)
  refine WpL.gD rfl rfl (fun c104 => ?_) (fun c104 => ?_)
  refine Lw rfl rfl (Rdo.fieldAddr0 rfl) (Lw rfl rfl (Rdo.load rfl (Lds.one rfl)) ?_)
  refine WpL.want rfl rfl rfl (Sc (s3) rfl ?_)
  rintro _ _ ⟨rfl, rfl⟩
  refine Ll ?_
  refine Ls (Rdo.pick_t rfl rfl) (Ls (Rdo.move rfl) (Lg rfl rfl (Lw rfl rfl (Rdo.fieldAddr0 rfl) (Lw rfl rfl (Rdo.load rfl (Lds.one rfl)) ?_))))
  refine WpL.want rfl rfl rfl (Sc (s4) rfl ?_)
  rintro _ _ ⟨rfl, rfl⟩
  refine Ll ?_
  refine Ls (Rdo.pick_t rfl rfl) (Ls (Rdo.move rfl) (Lg rfl rfl (Lw rfl rfl (Rdo.fieldAddr0 rfl) (Lw rfl rfl (Rdo.load rfl (Lds.one rfl)) ?_))))
  refine WpL.want rfl rfl rfl (Sc (s5) rfl ?_)
  rintro _ _ ⟨rfl, rfl⟩
  refine Ll ?_
  refine Ls (Rdo.pick_t rfl rfl) (Ls (Rdo.assign rfl) (Lnt (Wp.seq (Wsr (Ls (Rdo.fieldAddr0 rfl) (Ls (Rdo.load rfl (Lds.one rfl)) (Lnt (Wp.block (Wsr (Ls (Rdo.eqi rfl rfl) (Ls (Rdo.assign rfl) (Lnt (cL rfl ?_)))))))))))))
  refine Wsr (Ls (Rdo.eqi rfl rfl) (Ls (Rdo.assign rfl) (Lnt (cL rfl (Wp.skip (Blk.n (Thn.n (Wsr (Ls (Rdo.assign rfl) (Lnt (Wp.ret ?_)))))))))))
  refine Rt (ResV.tmp rfl ResV.nil) ⟨(by first | rfl | (simp [packed] <;> done) | (simp_all [packed] <;> done)), rfl⟩
  refine Lp rfl rfl (Lp rfl rfl (Lp rfl rfl (Ls (Rdo.pick_f rfl rfl) (Ls (Rdo.move rfl) (Lp rfl rfl (Lp rfl rfl (Lp rfl rfl (Ls (Rdo.pick_f rfl rfl) (Ls (Rdo.move rfl) (Lp rfl rfl (Lp rfl rfl (Lp rfl rfl (Ls (Rdo.pick_f rfl rfl) ?_)))))))))))))
  refine Ls (Rdo.assign rfl) (Lnt (Wp.seq (Wsr (Ls (Rdo.fieldAddr0 rfl) (Ls (Rdo.load rfl (Lds.one rfl)) (Lnt (Wp.block (Wsr (Ls (Rdo.eqi rfl rfl) (Ls (Rdo.assign rfl) (Lnt (cL rfl (Wsr ?_)))))))))))))
  refine Ls (Rdo.eqi rfl rfl) (Ls (Rdo.assign rfl) (Lnt (cL rfl (Wp.skip (Blk.n (Thn.n (Wsr (Ls (Rdo.assign rfl) (Lnt (Wp.ret ?_))))))))))
  refine Rt (ResV.tmp rfl ResV.nil) ⟨(by first | rfl | (simp [packed] <;> done) | (simp_all [packed] <;> done)), rfl⟩
  refine Lp rfl rfl (Lp rfl rfl (Lp rfl rfl (Ls (Rdo.pick_f rfl rfl) (Ls (Rdo.assign rfl) (Lnt (Wp.seq (Wsr (Ls (Rdo.fieldAddr0 rfl) (Ls (Rdo.load rfl (Lds.one rfl)) (Lnt (Wp.block (Wsr (Ls (Rdo.eqi rfl rfl) ?_)))))))))))))
  refine Ls (Rdo.assign rfl) (Lnt (cL rfl (Wsr (Ls (Rdo.eqi rfl rfl) (Ls (Rdo.assign rfl) (Lnt (cL rfl (Wp.skip (Blk.n (Thn.n (Wsr (Ls (Rdo.fieldAddr0 rfl) (Ls (Rdo.load rfl (Lds.one rfl)) ?_)))))))))))))
  refine Ls (Rdo.eqVs rfl rfl) (Ls (Rdo.move rfl) ?_)
  refine WpL.gD rfl rfl (fun c249 => ?_) (fun c249 => ?_)
  refine Lw rfl rfl (Rdo.fieldAddr0 rfl) (Lw rfl rfl (Rdo.load rfl (Lds.one rfl)) ?_)
  refine WpL.want rfl rfl rfl (Sc (s3) rfl ?_)
  rintro _ _ ⟨rfl, rfl⟩
  refine Ll ?_
  refine Ls (Rdo.pick_t rfl rfl) (Ls (Rdo.move rfl) (Lg rfl rfl (Lw rfl rfl (Rdo.fieldAddr0 rfl) (Lw rfl rfl (Rdo.load rfl (Lds.one rfl)) ?_))))
  refine WpL.want rfl rfl rfl (Sc (s4) rfl ?_)
  rintro _ _ ⟨rfl, rfl⟩
  refine Ll ?_
  refine Ls (Rdo.pick_t rfl rfl) (Ls (Rdo.move rfl) ?_)
  refine WpL.gD rfl rfl (fun c265 => ?_) (fun c265 => ?_)
  refine Lw rfl rfl (Rdo.fieldAddr0 rfl) (Lw rfl rfl (Rdo.load rfl (Lds.one rfl)) ?_)
  refine WpL.want rfl rfl rfl (Sc (s5) rfl ?_)
  rintro _ _ ⟨rfl, rfl⟩
  refine Ll ?_
  refine Ls (Rdo.pick_t rfl rfl) (Ls (Rdo.assign rfl) (Lnt (Wp.seq (Wsr (Ls (Rdo.fieldAddr0 rfl) (Ls (Rdo.load rfl (Lds.one rfl)) (Lnt (Wp.block (Wsr (Ls (Rdo.eqi rfl rfl) (Ls (Rdo.assign rfl) (Lnt (cL rfl ?_)))))))))))))
  refine Wsr (Ls (Rdo.eqi rfl rfl) (Ls (Rdo.assign rfl) (Lnt (cL rfl (Wp.skip (Blk.n (Thn.n (Wsr (Ls (Rdo.assign rfl) (Lnt (Wp.ret ?_)))))))))))
  refine Rt (ResV.tmp rfl ResV.nil) ⟨(by first | rfl | (simp [packed] <;> done) | (simp_all [packed] <;> done)), rfl⟩
  refine Lp rfl rfl (Lp rfl rfl (Lp rfl rfl (Ls (Rdo.pick_f rfl rfl) (Ls (Rdo.assign rfl) (Lnt (Wp.seq (Wsr (Ls (Rdo.fieldAddr0 rfl) (Ls (Rdo.load rfl (Lds.one rfl)) (Lnt (Wp.block (Wsr (Ls (Rdo.eqi rfl rfl) ?_)))))))))))))
  refine Ls (Rdo.assign rfl) (Lnt (cL rfl (Wsr (Ls (Rdo.eqi rfl rfl) (Ls (Rdo.assign rfl) (Lnt (cL rfl (Wp.skip (Blk.n (Thn.n (Wsr (Ls (Rdo.assign rfl) (Lnt ?_)))))))))))))
  refine Wp.ret ?_
  refine Rt (ResV.tmp rfl ResV.nil) ⟨(by first | rfl | (simp [packed] <;> done) | (simp_all [packed] <;> done)), rfl⟩
  refine Lp rfl rfl (Lp rfl rfl (Lp rfl rfl (Ls (Rdo.pick_f rfl rfl) (Ls (Rdo.move rfl) (Lp rfl rfl (Lp rfl rfl (Lp rfl rfl (Ls (Rdo.pick_f rfl rfl) (Ls (Rdo.move rfl) (Lp rfl rfl (Lp rfl rfl (Lp rfl rfl (Ls (Rdo.pick_f rfl rfl) ?_)))))))))))))
  refine Ls (Rdo.assign rfl) (Lnt (Wp.seq (Wsr (Ls (Rdo.fieldAddr0 rfl) (Ls (Rdo.load rfl (Lds.one rfl)) (Lnt (Wp.block (Wsr (Ls (Rdo.eqi rfl rfl) (Ls (Rdo.assign rfl) (Lnt (cL rfl (Wsr ?_)))))))))))))
  refine Ls (Rdo.eqi rfl rfl) (Ls (Rdo.assign rfl) (Lnt (cL rfl (Wp.skip (Blk.n (Thn.n (Wsr (Ls (Rdo.assign rfl) (Lnt (Wp.ret ?_))))))))))
  refine Rt (ResV.tmp rfl ResV.nil) ⟨(by first | rfl | (simp [packed] <;> done) | (simp_all [packed] <;> done)), rfl⟩
  refine Lp rfl rfl (Lp rfl rfl (Lp rfl rfl (Ls (Rdo.pick_f rfl rfl) (Ls (Rdo.move rfl) (Lp rfl rfl (Lp rfl rfl (Lp rfl rfl (Ls (Rdo.pick_f rfl rfl) (Ls (Rdo.assign rfl) (Lnt (Wp.seq (Wsr (Ls (Rdo.fieldAddr0 rfl) ?_)))))))))))))
  refine Ls (Rdo.load rfl (Lds.one rfl)) (Lnt (Wp.block (Wsr (Ls (Rdo.eqi rfl rfl) (Ls (Rdo.assign rfl) (Lnt (cL rfl (Wsr (Ls (Rdo.eqi rfl rfl) (Ls (Rdo.assign rfl) (Lnt (cL rfl (Wp.skip ?_)))))))))))))
  refine Blk.n (Thn.n (Wsr (Ls (Rdo.fieldAddr0 rfl) (Ls (Rdo.load rfl (Lds.one rfl)) (Ls (Rdo.eqVs rfl rfl) (Ls (Rdo.move rfl) ?_))))))
  refine WpL.gD rfl rfl (fun c438 => ?_) (fun c438 => ?_)
  refine Lw rfl rfl (Rdo.fieldAddr0 rfl) (Lw rfl rfl (Rdo.load rfl (Lds.one rfl)) ?_)
  refine WpL.want rfl rfl rfl (Sc (s3) rfl ?_)
  rintro _ _ ⟨rfl, rfl⟩
  refine Ll ?_
  refine Ls (Rdo.pick_t rfl rfl) (Ls (Rdo.move rfl) ?_)
  refine WpL.gD rfl rfl (fun c446 => ?_) (fun c446 => ?_)
  refine Lw rfl rfl (Rdo.fieldAddr0 rfl) (Lw rfl rfl (Rdo.load rfl (Lds.one rfl)) ?_)
  refine WpL.want rfl rfl rfl (Sc (s4) rfl ?_)
  rintro _ _ ⟨rfl, rfl⟩
  refine Ll ?_
  refine Ls (Rdo.pick_t rfl rfl) (Ls (Rdo.move rfl) ?_)
  refine WpL.gD rfl rfl (fun c454 => ?_) (fun c454 => ?_)
  refine Lw rfl rfl (Rdo.fieldAddr0 rfl) (Lw rfl rfl (Rdo.load rfl (Lds.one rfl)) ?_)
  refine WpL.want rfl rfl rfl (Sc (s5) rfl ?_)
  rintro _ _ ⟨rfl, rfl⟩
  refine Ll ?_
  refine Ls (Rdo.pick_t rfl rfl) (Ls (Rdo.assign rfl) (Lnt (Wp.seq (Wsr (Ls (Rdo.fieldAddr0 rfl) (Ls (Rdo.load rfl (Lds.one rfl)) (Lnt (Wp.block (Wsr (Ls (Rdo.eqi rfl rfl) (Ls (Rdo.assign rfl) (Lnt (cL rfl ?_)))))))))))))
  refine Wsr (Ls (Rdo.eqi rfl rfl) (Ls (Rdo.assign rfl) (Lnt (cL rfl (Wp.skip (Blk.n (Thn.n (Wsr (Ls (Rdo.assign rfl) (Lnt (Wp.ret ?_)))))))))))
  refine Rt (ResV.tmp rfl ResV.nil) ⟨(by first | rfl | (simp [packed] <;> done) | (simp_all [packed] <;> done)), rfl⟩
  refine Lp rfl rfl (Lp rfl rfl (Lp rfl rfl (Ls (Rdo.pick_f rfl rfl) (Ls (Rdo.assign rfl) (Lnt (Wp.seq (Wsr (Ls (Rdo.fieldAddr0 rfl) (Ls (Rdo.load rfl (Lds.one rfl)) (Lnt (Wp.block (Wsr (Ls (Rdo.eqi rfl rfl) ?_)))))))))))))
  refine Ls (Rdo.assign rfl) (Lnt (cL rfl (Wsr (Ls (Rdo.eqi rfl rfl) (Ls (Rdo.assign rfl) (Lnt (cL rfl (Wp.skip (Blk.n (Thn.n (Wsr (Ls (Rdo.assign rfl) (Lnt ?_)))))))))))))
  refine Wp.ret ?_
  refine Rt (ResV.tmp rfl ResV.nil) ⟨(by first | rfl | (simp [packed] <;> done) | (simp_all [packed] <;> done)), rfl⟩
  refine Lp rfl rfl (Lp rfl rfl (Lp rfl rfl (Ls (Rdo.pick_f rfl rfl) (Ls (Rdo.move rfl) (Lp rfl rfl (Lp rfl rfl (Lp rfl rfl (Ls (Rdo.pick_f rfl rfl) (Ls (Rdo.assign rfl) (Lnt (Wp.seq (Wsr (Ls (Rdo.fieldAddr0 rfl) ?_)))))))))))))
  refine Ls (Rdo.load rfl (Lds.one rfl)) (Lnt (Wp.block (Wsr (Ls (Rdo.eqi rfl rfl) (Ls (Rdo.assign rfl) (Lnt (cL rfl (Wsr (Ls (Rdo.eqi rfl rfl) (Ls (Rdo.assign rfl) (Lnt (cL rfl (Wp.skip ?_)))))))))))))
  refine Blk.n (Thn.n (Wsr (Ls (Rdo.assign rfl) (Lnt (Wp.ret ?_)))))
  refine Rt (ResV.tmp rfl ResV.nil) ⟨(by first | rfl | (simp [packed] <;> done) | (simp_all [packed] <;> done)), rfl⟩
  refine Lp rfl rfl (Lp rfl rfl (Lp rfl rfl (Ls (Rdo.pick_f rfl rfl) (Ls (Rdo.move rfl) (Lp rfl rfl (Lp rfl rfl (Lp rfl rfl (Ls (Rdo.pick_f rfl rfl) (Ls (Rdo.move rfl) (Lp rfl rfl (Lp rfl rfl (Lp rfl rfl (Ls (Rdo.pick_f rfl rfl) ?_)))))))))))))
  refine Ls (Rdo.assign rfl) (Lnt (Wp.seq (Wsr (Ls (Rdo.fieldAddr0 rfl) (Ls (Rdo.load rfl (Lds.one rfl)) (Lnt (Wp.block (Wsr (Ls (Rdo.eqi rfl rfl) (Ls (Rdo.assign rfl) (Lnt (cL rfl (Wsr ?_)))))))))))))
  refine Ls (Rdo.eqi rfl rfl) (Ls (Rdo.assign rfl) (Lnt (cL rfl (Wp.skip (Blk.n (Thn.n (Wsr (Ls (Rdo.assign rfl) (Lnt (Wp.ret ?_))))))))))
  refine Rt (ResV.tmp rfl ResV.nil) ⟨(by first | rfl | (simp [packed] <;> done) | (simp_all [packed] <;> done)), rfl⟩
end Go.Proofs.YtccgdnocldmjeaaGreatDoor
namespace Go.Proofs.YtccgdnocldmjeaaGreatDoor
open Go
set_option maxHeartbeats 4000000
set_option linter.unusedSimpArgs false
set_option linter.unusedVariables false
set_option maxRecDepth 20000
theorem again_marks (c : CoS) (i : Nat) (p : Prod) : (c.again i p).2.2.marks = c.marks ++ (c.again i p).2.1 := by
  unfold CoS.again
  split
  · simp
  · split <;> simp [CoS.lay, CoS.put, CoS.decide]
theorem begins_marks (c : CoS) (s : List UInt8) : (c.begins s).2.2.marks = c.marks ++ (c.begins s).2.1 := by
  unfold CoS.begins
  split
  · split <;> simp
  · exact again_marks _ _ _
theorem adds_marks (c : CoS) (o : Go.Proofs.YtccgdnocldmjeaaGreatDoor.Op) (i : Nat) (p : Prod) : (c.adds o i p).2.marks = c.marks := by
  unfold CoS.adds
  split
  · split <;> simp [CoS.put]
  · split
    · rfl
    · split <;> simp [CoS.put]
theorem ends_marks (c : CoS) (o : Go.Proofs.YtccgdnocldmjeaaGreatDoor.Op) (i : Nat) (p : Prod) : (c.ends o i p).2.2.marks = c.marks ++ (c.ends o i p).2.1 := by
  unfold CoS.ends
  split
  · simp [CoS.decide]
  · split <;> simp
theorem does_marks (c : CoS) (o : Go.Proofs.YtccgdnocldmjeaaGreatDoor.Op) : (c.does o).2.2.marks = c.marks ++ (c.does o).2.1 := by
  unfold CoS.does
  split
  · exact begins_marks _ _
  · split
    · exact (c.tickN_spec _).2.2.2.1
    · split
      · dsimp only
        generalize c.prods.getD o.producer.toNat prod0 = p
        by_cases he : o.epoch = p.epoch <;> by_cases hk : o.kind = 2 <;> simp [he, hk, adds_marks, ends_marks]
      · simp
theorem apply_marks (c : CoS) (o : Go.Proofs.YtccgdnocldmjeaaGreatDoor.Op) : (c.apply o).2.2.marks = c.marks ++ (c.apply o).2.1 := by
  unfold CoS.apply
  split
  · split
    · simp
    · simp [does_marks]
  · simp
end Go.Proofs.YtccgdnocldmjeaaGreatDoor
namespace Go.Proofs.YtccgdnocldmjeaaGreatDoor
open Go
set_option maxHeartbeats 4000000
set_option linter.unusedSimpArgs false
set_option linter.unusedVariables false
set_option maxRecDepth 20000
/-- A row's end, as a source. -/
theorem Src.rowEnd {P : Program} {l : List HP} {t : TypeId} {sz n cap b o k : Nat} {xs : List Value} (hk : k ≤ n) : Src P (rowA t sz (.slice (some ⟨b, o, none⟩) n cap) n xs :: l) sz (.slice (some (slA b o k cap sz)) (n - k) (cap - k)) (n - k) (xs.drop (k * sz)) := by
  by_cases h0 : n = k
  · subst h0
    have key : ∀ F w, Holds (rowA t sz (.slice (some ⟨b, o, none⟩) n cap) n xs :: l) F w → xs.length = n * sz := by
      intro F w hl
      obtain ⟨r, hr, _⟩ := hl.sees
      unfold rowA at hr
      exact hr.1
    unfold Src
    intro F w hl
    have hx := key F w hl
    have h1 : xs.drop (n * sz) = [] := List.drop_eq_nil_of_le (by omega)
    rw [h1, Nat.sub_self]
    have := Src.none_ (P := P) (l := rowA t sz (.slice (some ⟨b, o, none⟩) n cap) n xs :: l) (sz := sz) (c := cap - n) (a := slA b o n cap sz)
    unfold Src at this
    exact this F w hl
  · unfold Src
    intro F w hl
    obtain ⟨r, hr, _⟩ := hl.sees
    unfold rowA at hr
    obtain ⟨hlen, hr⟩ := hr
    have hcap : n ≤ cap := by
      rcases hr with ⟨h1, h2⟩ | ⟨_, _, _, cur, h1, _, h3, _⟩
      · cases h1
      · simp only [Value.slice.injEq, true_and] at h1
        omega
    rw [slA_ne (by omega)]
    have := Src.of_cells (P := P) (C := rowA t sz (.slice (some ⟨b, o, none⟩) n cap) n xs :: l) (sz := sz) (b := b) (off := o + k * sz) (m := n - k) (c := cap - k) (news := xs.drop (k * sz)) (by rw [List.length_drop, hlen, Nat.sub_mul]) (fun F w hl j u hj => by
      have := row_cell hl (k * sz + j) u (by rw [List.getElem?_drop] at hj; exact hj)
      rwa [show o + (k * sz + j) = o + k * sz + j by omega] at this)
    unfold Src at this
    exact this F w hl
theorem Rdo.sl_nil_l {P : Program} {e : Env} {C : List HP} {t ty e' s : Nat} {x lo : Operand} {k : IntKind} {li : Int} [ht : EL P t e'] [hs : SZ P e' s] (hx : evl e x = some (.slice none 0 0)) (hl : evl e lo = some (.int k li)) (h0 : li = 0) :
    Rdo P e C (.slice t x (some lo) none none) ty (.slice none 0 0) := by
  subst h0
  unfold Rdo
  intro G w a n' dst pos after g hG he
  have hsz := hs.run (w := w)
  rw [← (EL.eq ht).2] at hsz
  simp only [execOp, he.eval hx, he.eval hl, Option.map_some, Option.map_none, run_sliceAt_slice w t _ _ _ _ (EL.eq ht).1, Sem.run_bind]
  rw [run_slice_l w t _ 0 0 (EL.eq ht).1 k _ (by omega) (by omega)]
  simp [hsz, sliced]
theorem GhE.fact_ {l rest : List HP} {p : HP} {φ : Prop} (hp : Pk l p rest) (hφ : ∀ r, p r → φ) : GhE l (fun _ : Unit => φ) (fun _ => l) :=
  GhE.mk fun F w hl => ⟨(), Holds.fact hφ ((Gh.front hp).use hl), hl⟩
theorem rdone_snoc (v : Value) (ds : List ((Int × Int) × Rep)) (y : (Int × Int) × Rep) : rowA 59 5 v (ds.length + 1) ((ds.map doneC).flatten ++ doneC y) = rdA v (ds ++ [y]) := by
  have h1 : (ds ++ [y]).length = ds.length + 1 := by simp
  have h2 : ((ds ++ [y]).map doneC).flatten = (ds.map doneC).flatten ++ doneC y := by simp
  unfold rdA
  rw [h1, h2]
theorem rapply_no (x : Nat) (c : CoS) (o : Go.Proofs.YtccgdnocldmjeaaGreatDoor.Op) (hl : o.name.length ≤ 1000000) (ho : ¬ okOp o) :
    Trip Tryz.prog 7 [vp x 0, .agg (opC o).toArray] [rfA x c] (fun r l => ∃ a cp, r = .tuple #[.agg (repC (c.apply o).1).toArray, .slice a (c.apply o).2.1.length cp] ∧ l = [rfA x (c.apply o).2.2, markA (.slice a (c.apply o).2.1.length cp) (c.apply o).2.1]) := by
  have s1 := rOp_ok o hl
  rw [decide_eq_false ho] at s1
  have he : c.apply o = (⟨6, 0, 0⟩, [], c) := by unfold CoS.apply; rw [if_neg ho]
  rw [he]
  refine Trip.of_body Tryz.func7 rfl Tryz.ntmps7 Tryz.results7 rfl ?_
  refine Wsr ?_
  (refine WpL.step (Stp.boxV rfl (VC.ag _) rfl ?_); intro nb2)
  (refine WpL.step (Stp.alloc rfl ?_); intro nb3)
  refine Ls (Rdo.assign rfl) (Lnt (Wp.seq (Wsr ?_)))
  refine Ls (Rdo.load rfl (Lds.next Ld)) ?_
  refine WpL.step (Sc (s1) rfl ?_)
  rintro _ _ ⟨rfl, rfl⟩
  refine Ll ?_
  refine Ls (Rdo.not rfl) (Lnt ?_)
  refine Wp.condT rfl ?_
  refine Wsr ?_
  refine Ls (Rdo.bld rfl (BldL.cons rfl (VC.i _ _) (by first | rfl | assumption | (simp <;> done)) (by repeat (first | exact LPut.nil _ | apply LPut.here | apply LPut.next)) (BldL.nil _))) ?_
  refine WpL.step (St rfl rfl (VC.ag _) ?_)
  refine Ls (Rdo.assign rfl) (Lnt (Wp.ret ?_))
  refine Thn.r ?_
  exact Ret.now (by repeat (first | exact ResV.nil | apply ResV.tmp rfl | apply ResV.cell rfl (by repeat (first | exact Lds.one rfl | (apply Lds.all; (first | rfl | assumption | (simp <;> fail))) | exact Lds.ione0 | exact Lds.ione rfl | (apply Lds.iall; (first | rfl | assumption | (simp <;> fail))) | apply Lds.next)))) (Gh.trans (Gh.nil 61 4) Gk) ⟨none, 0, rfl, rfl⟩
theorem rapply_had (x : Nat) (c : CoS) (o : Go.Proofs.YtccgdnocldmjeaaGreatDoor.Op) (hl : o.name.length ≤ 1000000) (ho : okOp o) (a : Rep) (h : alook c.answers (o.client, o.seq) = some a) (ha : c.answers.length ≤ 100000) :
    Trip Tryz.prog 7 [vp x 0, .agg (opC o).toArray] [rfA x c] (fun r l => ∃ a cp, r = .tuple #[.agg (repC (c.apply o).1).toArray, .slice a (c.apply o).2.1.length cp] ∧ l = [rfA x (c.apply o).2.2, markA (.slice a (c.apply o).2.1.length cp) (c.apply o).2.1]) := by
  have s1 := rOp_ok o hl
  rw [decide_eq_true ho] at s1
  have s2 := rans_ok x c o.client o.seq ha
  have h2 : ansOf c (o.client, o.seq) = (a, true) := by unfold ansOf; rw [h]
  rw [h2] at s2
  have he : c.apply o = (a, [], c) := by unfold CoS.apply; rw [if_pos ho, h]
  rw [he]
  refine Trip.of_body Tryz.func7 rfl Tryz.ntmps7 Tryz.results7 rfl ?_
  refine Wsr ?_
  (refine WpL.step (Stp.boxV rfl (VC.ag _) rfl ?_); intro nb2)
  (refine WpL.step (Stp.alloc rfl ?_); intro nb3)
  refine Ls (Rdo.assign rfl) (Lnt (Wp.seq (Wsr ?_)))
  refine Ls (Rdo.load rfl (Lds.next Ld)) ?_
  refine WpL.step (Sc (s1) rfl ?_)
  rintro _ _ ⟨rfl, rfl⟩
  refine Ll ?_
  refine Ls (Rdo.not rfl) (Lnt ?_)
  refine Wp.condF rfl ?_
  refine Wp.skip (Thn.n (Wsr (Ls (Rdo.move rfl) (Ls (Rdo.fieldAddr0 rfl) (Ls (Rdo.load rfl (Lds.next (Lds.one rfl))) (Ls (Rdo.fieldAddr0 rfl) (Ls (Rdo.load rfl (Lds.next (Lds.one rfl))) ?_)))))))
  refine WpL.step (Sc (s2) rfl ?_)
  rintro _ _ ⟨rfl, rfl⟩
  refine Ll ?_
  refine Ls (Rdo.move rfl) (Ls (Rdo.extract rfl rfl) (Ls (Rdo.extract rfl rfl) ?_))
  (refine WpL.step (Stp.alloc rfl ?_); intro nb33)
  refine WpL.step (St rfl rfl (VC.ag _) ?_)
  refine Ls (Rdo.assign rfl) (Lnt (Wp.seq (Wsr (Ls (Rdo.move rfl) (Lnt ?_)))))
  refine Wp.condT rfl ?_
  refine Wsr ?_
  refine Ls (Rdo.load rfl Ld) ?_
  refine WpL.step (St rfl rfl (VC.ag _) ?_)
  refine Ls (Rdo.assign rfl) (Lnt (Wp.ret ?_))
  refine Thn.r ?_
  exact Ret.now (by repeat (first | exact ResV.nil | apply ResV.tmp rfl | apply ResV.cell rfl (by repeat (first | exact Lds.one rfl | (apply Lds.all; (first | rfl | assumption | (simp <;> fail))) | exact Lds.ione0 | exact Lds.ione rfl | (apply Lds.iall; (first | rfl | assumption | (simp <;> fail))) | apply Lds.next)))) (Gh.trans (Gh.nil 61 4) Gk) ⟨none, 0, rfl, rfl⟩
theorem row_or {t : TypeId} {sz n c : Nat} {a : Option Addr} {xs : List Value} {r : Res} (h : rowA t sz (.slice a n c) n xs r) : (a = none ∧ n = 0 ∧ c = 0 ∧ xs = []) ∨ ∃ b o, a = some ⟨b, o, none⟩ := by
  unfold rowA at h
  obtain ⟨hl, h⟩ := h
  rcases h with ⟨h1, h2⟩ | ⟨b, o, cap, cur, h1, _⟩
  · simp only [Value.slice.injEq] at h1
    obtain ⟨rfl, rfl, rfl⟩ := h1
    exact .inl ⟨rfl, rfl, rfl, List.eq_nil_of_length_eq_zero (by simpa using hl)⟩
  · simp only [Value.slice.injEq, true_and] at h1
    exact .inr ⟨b, o, h1.1⟩
theorem rapply_new (x : Nat) (c : CoS) (o : Go.Proofs.YtccgdnocldmjeaaGreatDoor.Op) (hl : o.name.length ≤ 1000000) (ho : okOp o) (h : alook c.answers (o.client, o.seq) = none) (k : Nat) (hk : k ≤ 1000) (hok : c.Ok k) (hd : DecOk c) (hpa : PaL c.prods) :
    Trip Tryz.prog 7 [vp x 0, .agg (opC o).toArray] [rfA x c] (fun r l => ∃ a cp, r = .tuple #[.agg (repC (c.apply o).1).toArray, .slice a (c.apply o).2.1.length cp] ∧ l = [rfA x (c.apply o).2.2, markA (.slice a (c.apply o).2.1.length cp) (c.apply o).2.1]) := by
  have h8 := hok.n8
  have hml := hok.ml
  have hal := hok.al
  have s1 := rOp_ok o hl
  rw [decide_eq_true ho] at s1
  have s2 := rans_ok x c o.client o.seq (by omega)
  have h2 : ansOf c (o.client, o.seq) = (⟨0, 0, 0⟩, false) := by unfold ansOf; rw [h]
  rw [h2] at s2
  have s3 := rdoes_ok x c o k hk hok ho hd hpa
  have hda : (c.does o).2.2.answers = c.answers := does_answers c o
  have hdm := does_marks c o
  have hdl := (does_Ok hok o ho).ml
  have he : c.apply o = ((c.does o).1, (c.does o).2.1, { (c.does o).2.2 with answers := c.answers ++ [((o.client, o.seq), (c.does o).1)] }) := by
    unfold CoS.apply; rw [if_pos ho, h]; simp only [hda]
  rw [he]
  clear he
  generalize c.does o = R at *
  refine Trip.of_body Tryz.func7 rfl Tryz.ntmps7 Tryz.results7 rfl ?_
  refine Wsr ?_
  (refine WpL.step (Stp.boxV rfl (VC.ag _) rfl ?_); intro nb2)
  (refine WpL.step (Stp.alloc rfl ?_); intro nb3)
  refine Ls (Rdo.assign rfl) (Lnt (Wp.seq (Wsr ?_)))
  refine Ls (Rdo.load rfl (Lds.next Ld)) ?_
  refine WpL.step (Sc (s1) rfl ?_)
  rintro _ _ ⟨rfl, rfl⟩
  refine Ll ?_
  refine Ls (Rdo.not rfl) (Lnt ?_)
  refine Wp.condF rfl ?_
  refine Wp.skip (Thn.n (Wsr (Ls (Rdo.move rfl) (Ls (Rdo.fieldAddr0 rfl) (Ls (Rdo.load rfl (Lds.next (Lds.one rfl))) (Ls (Rdo.fieldAddr0 rfl) (Ls (Rdo.load rfl (Lds.next (Lds.one rfl))) ?_)))))))
  refine WpL.step (Sc (s2) rfl ?_)
  rintro _ _ ⟨rfl, rfl⟩
  refine Ll ?_
  refine Ls (Rdo.move rfl) (Ls (Rdo.extract rfl rfl) (Ls (Rdo.extract rfl rfl) ?_))
  (refine WpL.step (Stp.alloc rfl ?_); intro nb33)
  refine WpL.step (St rfl rfl (VC.ag _) ?_)
  refine Ls (Rdo.assign rfl) (Lnt (Wp.seq (Wsr (Ls (Rdo.move rfl) (Lnt ?_)))))
  refine Wp.condF rfl ?_
  refine Wp.skip (Thn.n (Wsr (Ls (Rdo.move rfl) (Ls (Rdo.nilCheck rfl) (Ls (Rdo.fieldAddr0 rfl) ?_)))))
  refine WpL.gh (Gh.front (Pk.next Pk.here)) ?_
  refine WpL.ghE rfA_open ?_
  rintro ⟨pv, mv, dv, vs⟩ hvl
  simp only [rfX, List.cons_append, List.nil_append] at hvl ⊢
  refine WpL.get (Pk.next Pk.here) (fun r => rowA_shape) ?_
  rintro ⟨pa, pc, rfl⟩
  refine WpL.get (Pk.next (Pk.next Pk.here)) (fun r => rowA_shape) ?_
  rintro ⟨ma, mc, rfl⟩
  refine WpL.get (Pk.next (Pk.next (Pk.next (Pk.next Pk.here)))) rps_one ?_
  intro hone
  have hlen := rpsC_len hvl
  refine Ls (Rdo.load rfl (Lds.one rfl)) (Ls (Rdo.lenSlice rfl) (Ls (Rdo.assign rfl) (Lnt (Wsr (Ls (Rdo.move rfl) ?_)))))
  (refine WpL.step (Stp.slice0 rfl ?_); intro nb8)
  refine Ls (Rdo.move rfl) (Ls (Rdo.nilCheck rfl) (Ls (Rdo.fieldAddr0 rfl) (Ls (Rdo.load rfl (Lds.next (Lds.one rfl))) ?_)))
  (refine WpL.step (Stp.append0P rfl rfl Pk.here (Src.next Src.row) (by first | rfl | assumption | (simp <;> done) | (simp <;> omega)) (by first | assumption | exact oneCells1 rfl | exact oneCells1 (by assumption) | exact oneCells_bytesC _ | exact oneCells_votesC _ | (simp [oneCells, Value.oneCell'] <;> done)) (by first | omega | (simp <;> omega)) (by first | omega | (simp <;> omega)) rfl (by first | rfl | (simp <;> done)) ?_); intro na13 nc13)
  refine Ls (Rdo.nilCheck rfl) (Ls (Rdo.fieldAddr0 rfl) ?_)
  refine WpL.step (Stp.storeV rfl rfl (VC.sl _ _ _) rfl (Sts.next (Sp (oneCells1 rfl))) ?_)
  refine Lnt (Wsr (Ls (Rdo.move rfl) ?_))
  refine Ls (Rdo.load rfl (Lds.next (Lds.next (Lds.next (Lds.next (Lds.next (Lds.next (Lds.next (Lds.next Ld))))))))) ?_
  refine WpL.gh (Gh.trans Gk (rf_close (x := x) (pv := .slice na13 c.prods.length nc13) (mv := .slice ma c.marks.length mc) (dv := dv) (vs := vs) (l := [cel nb3 34 [vi 0, vi 0, vi 0], cel nb2 38 (opC o)]) c rfl rfl rfl rfl rfl)) ?_
  refine WpL.step (Sc (s3) rfl ?_)
  rintro _ _ ⟨rfl, rfl⟩
  refine Ll ?_
  (refine WpL.step (Stp.alloc rfl ?_); intro nb3)
  refine WpL.step (St rfl rfl (VC.ag _) ?_)
  refine Lnt (Wp.seq ?_)
  refine Wp.draw (by kernel_rfl) ?_
  refine Qt (i := 0) rfl (Rdo.move rfl) (Qt (i := 2) rfl (Rdo.move rfl) (Qt (i := 3) rfl (Rdo.nilCheck rfl) (Qt (i := 4) rfl (Rdo.fieldAddr0 rfl) (Qt (i := 7) rfl (Rdo.fieldAddr0 rfl) (Qt (i := 9) rfl (Rdo.fieldAddr0 rfl) ?_)))))
  clear s1 s2 s3
  refine WpR.gh (Gh.front (p := rfA x R.2.2) (by repeat (first | exact Pk.here | apply Pk.next))) ?_
  refine WpR.ghE rfA_open ?_
  rintro ⟨pv2, mv2, dv2, vs2⟩ hvl2
  simp only [rfX, List.cons_append, List.nil_append] at hvl2 ⊢
  rw [hda]
  refine WpR.ghE (GhE.fact_ (Pk.next (Pk.next (Pk.next Pk.here))) (fun r => rowA_shape)) ?_
  rintro ⟨⟩ ⟨da, dc, rfl⟩
  have hlen2 : ((c.answers.map doneC).flatten).length = c.answers.length * 5 := by rw [flat_lt (doneC_5 _), List.length_map]
  have hone2 : oneCells (c.answers.map doneC).flatten := by
    intro u hu
    obtain ⟨l, hl, hu⟩ := List.mem_flatten.1 hu
    obtain ⟨y, _, rfl⟩ := List.mem_map.1 hl
    simp only [doneC, List.mem_cons, List.not_mem_nil, or_false] at hu
    rcases hu with rfl | rfl | rfl | rfl | rfl <;> rfl
  refine WpR.phaseL (m := 3) #[true, true, true, true, true, true, true, true, true, true, true, true, true, true, true, false, false, false] 9 _ rfl (by kernel_rfl) (Tk.cons Pk.here (Tk.cons (Pk.next (Pk.next (Pk.next (Pk.next Pk.here)))) (Tk.cons (Pk.next (Pk.next (Pk.next (Pk.next (Pk.next Pk.here))))) Tk.nil))) ?_
  refine At (i := 5) rfl (Rdo.load rfl (Lds.one rfl)) (At (i := 8) rfl (Rdo.load rfl (Lds.next (Lds.next (Lds.one rfl)))) (At (i := 10) rfl (Rdo.load rfl (Lds.next (Lds.next (Lds.one rfl)))) ?_))
  refine At (i := 11) rfl (Rdo.load rfl (Lds.next Ld)) ?_
  refine At (i := 12) rfl (Rdo.bld rfl (BldL.cons rfl (VC.i _ _) (by first | rfl | assumption | (simp <;> done)) (by repeat (first | exact LPut.nil _ | apply LPut.here | apply LPut.next)) (BldL.cons rfl (VC.i _ _) (by first | rfl | assumption | (simp <;> done)) (by repeat (first | exact LPut.nil _ | apply LPut.here | apply LPut.next)) (BldL.cons rfl (VC.ag _) (by first | rfl | assumption | (simp <;> done)) (by repeat (first | exact LPut.nil _ | apply LPut.here | apply LPut.next)) (BldL.nil _))))) ?_
  refine PendA.start (hz := MK.sl rfl rfl (VCs.cons (VC.ag _) (by first | rfl | assumption | (simp <;> done)) VCs.nil) (by first | exact rfl | (simp only [List.cons_append, List.nil_append, List.append_nil]; exact rfl)) rfl) (i := 13) rfl ?_
  (refine PendA.one (hz := MK.sl rfl rfl (VCs.cons (VC.ag _) (by first | rfl | assumption | (simp <;> done)) VCs.nil) (by first | exact rfl | (simp only [List.cons_append, List.nil_append, List.append_nil]; exact rfl)) rfl) (j := 1) rfl rfl (by kernel_rfl) (by kernel_rfl) (by kernel_rfl) rfl (by simp) rfl rfl (Stp.slice0 rfl ?_); intro nb7)
  (refine PendA.one (hz := MK.sl rfl rfl (VCs.cons (VC.ag _) (by first | rfl | assumption | (simp <;> done)) VCs.nil) (by first | exact rfl | (simp only [List.cons_append, List.nil_append, List.append_nil]; exact rfl)) rfl) (j := 6) rfl rfl (by kernel_rfl) (by kernel_rfl) (by kernel_rfl) rfl (by simp) rfl rfl (Stp.append0P rfl rfl Pk.here (Src.next (Src.next Src.row)) (by first | rfl | assumption | (simp <;> done) | (simp <;> omega)) (by first | assumption | exact oneCells1 rfl | exact oneCells1 (by assumption) | exact oneCells_bytesC _ | exact oneCells_votesC _ | (simp [oneCells, Value.oneCell'] <;> done)) (by first | omega | (simp <;> omega)) (by first | omega | (simp <;> omega)) rfl (by first | rfl | (simp <;> done)) ?_); intro na8 nc8)
  refine PendA.made (hz := MK.sl rfl rfl (VCs.cons (VC.ag _) (by first | rfl | assumption | (simp <;> done)) VCs.nil) (by first | exact rfl | (simp only [List.cons_append, List.nil_append, List.append_nil]; exact rfl)) rfl) rfl (by kernel_rfl) rfl (fun nb9 => ?_)
  (refine WpA.one (i := 14) rfl (by kernel_rfl) (Stp.appendP rfl rfl (Pk.next Pk.here) (Src.cel (by first | rfl | (simp <;> done) | (simp <;> omega))) (by first | rfl | assumption | (simp <;> done) | (simp <;> omega)) (by first | assumption | exact oneCells1 rfl | exact oneCells1 (by assumption) | exact oneCells_bytesC _ | exact oneCells_votesC _ | (simp [oneCells, Value.oneCell'] <;> done)) (by first | omega | (simp <;> omega)) (by first | omega | (simp <;> omega)) rfl (by first | rfl | (simp <;> done)) ?_); intro na10 nc10)
  refine WpA.stop (by kernel_rfl) ?_
  refine Ql ?_
  refine Qt (i := 15) rfl (Rdo.nilCheck rfl) (Qt (i := 16) rfl (Rdo.fieldAddr0 rfl) ?_)
  refine Qo (i := 17) rfl (Stp.storeV rfl rfl (VC.sl _ _ _) rfl (Sp (oneCells1 rfl)) ?_)
  refine WpR.done (by kernel_rfl) ?_
  refine Thn.n (Wp.seq ?_)
  refine Wp.draw (by kernel_rfl) ?_
  refine Qt (i := 2) rfl (Rdo.move rfl) (Qt (i := 3) rfl (Rdo.nilCheck rfl) (Qt (i := 4) rfl (Rdo.fieldAddr0 rfl) (Qt (i := 6) rfl (Rdo.move rfl) ?_)))
  have e1 := rdone_snoc (.slice na10 (c.answers.length + 1) nc10) c.answers ((o.client, o.seq), R.1)
  rw [e1]
  refine WpR.ghE (GhE.fact_ (p := markA mv2 R.2.2.marks) (by repeat (first | exact Pk.here | apply Pk.next)) (fun r => rowA_shape)) ?_
  rintro ⟨⟩ ⟨m2a, m2c, rfl⟩
  have hll : R.2.2.marks.length = c.marks.length + R.2.1.length := by rw [hdm, List.length_append]
  refine WpR.ghE (GhE.fact_ (p := markA (.slice m2a R.2.2.marks.length m2c) R.2.2.marks) (by repeat (first | exact Pk.here | apply Pk.next)) (fun r => row_or)) ?_
  rintro ⟨⟩ (⟨rfl, h1, rfl, h3⟩ | ⟨mb, mo, rfl⟩)
  · have hz1 : c.marks.length = 0 := by omega
    have hz2 : R.2.1 = [] := List.eq_nil_of_length_eq_zero (by omega)
    have h5 : R.2.2.marks = [] := List.eq_nil_of_length_eq_zero h1
    rw [hz2, h5, List.length_nil]
    refine WpR.phaseL (m := 0) #[true, true, true, true, true, true, true, true, true, true, true] 7 _ rfl (by kernel_rfl) (Tk.cons Pk.here (Tk.cons Pk.here Tk.nil)) ?_
    refine At (i := 0) rfl (Rdo.load rfl (Lds.next Ld)) ?_
    refine At (i := 5) rfl (Rdo.load rfl (Lds.one rfl)) ?_
    refine At (i := 7) rfl (Rdo.sl_nil_l rfl rfl (by omega)) ?_
    (refine WpA.one (i := 1) rfl (by kernel_rfl) (Stp.slice0 rfl ?_); intro nb4)
    (refine WpA.one (i := 8) rfl (by kernel_rfl) (Stp.append0P rfl rfl Pk.here Src.nil (by first | rfl | assumption | (simp <;> done) | (simp <;> omega)) (by first | assumption | exact oneCells1 rfl | exact oneCells1 (by assumption) | exact oneCells_bytesC _ | exact oneCells_votesC _ | (simp [oneCells, Value.oneCell'] <;> done)) (by first | omega | (simp <;> omega)) (by first | omega | (simp <;> omega)) rfl (by first | rfl | (simp <;> done)) ?_); intro na5 nc5)
    refine WpA.one (i := 9) rfl (by kernel_rfl) (St rfl rfl (VC.ag _) ?_)
    refine At (i := 10) rfl (Rdo.assign rfl) ?_
    refine WpA.stop (by kernel_rfl) ?_
    refine Ql ?_
    refine WpR.done (by kernel_rfl) ?_
    refine Thn.n (Wp.ret ?_)
    exact Ret.now (by repeat (first | exact ResV.nil | apply ResV.tmp rfl | apply ResV.cell rfl (by repeat (first | exact Lds.one rfl | (apply Lds.all; (first | rfl | assumption | (simp <;> fail))) | exact Lds.ione0 | exact Lds.ione rfl | (apply Lds.iall; (first | rfl | assumption | (simp <;> fail))) | apply Lds.next)))) (Gh.trans Gk (rf_close (l := [markA _ []]) ⟨R.2.2.prods, [], R.2.2.decided, c.answers ++ [((o.client, o.seq), R.1)], R.2.2.now⟩ rfl rfl rfl rfl rfl)) ⟨_, _, rfl, rfl⟩
  · have hlen3 : ((R.2.2.marks.map markC).flatten.drop (c.marks.length * 4)).length = (R.2.2.marks.length - c.marks.length) * 4 := by rw [List.length_drop, marksC_length, Nat.sub_mul]
    have hone3 : oneCells ((R.2.2.marks.map markC).flatten.drop (c.marks.length * 4)) := fun u hu => marksC_one R.2.2.marks u (List.mem_of_mem_drop hu)
    have e3 : R.2.2.marks.length - c.marks.length = R.2.1.length := by omega
    have e4 : (R.2.2.marks.map markC).flatten.drop (c.marks.length * 4) = (R.2.1.map markC).flatten := by rw [hdm, List.map_append, List.flatten_append, ← marksC_length c.marks, List.drop_left]
    refine WpR.phaseL (m := 0) #[true, true, true, true, true, true, true, true, true, true, true] 7 _ rfl (by kernel_rfl) (Tk.cons Pk.here (Tk.cons Pk.here Tk.nil)) ?_
    refine At (i := 0) rfl (Rdo.load rfl (Lds.next Ld)) ?_
    refine At (i := 5) rfl (Rdo.load rfl (Lds.one rfl)) ?_
    refine At (i := 7) rfl (Rdo.sl_l _ rfl rfl rfl (by omega)) ?_
    (refine WpA.one (i := 1) rfl (by kernel_rfl) (Stp.slice0 rfl ?_); intro nb4)
    (refine WpA.one (i := 8) rfl (by kernel_rfl) (Stp.append0P rfl rfl Pk.here (Src.next (Src.next (Src.next (Src.next (Src.rowEnd (by omega)))))) (by first | rfl | assumption | (simp <;> done) | (simp <;> omega)) (by first | assumption | exact oneCells1 rfl | exact oneCells1 (by assumption) | exact oneCells_bytesC _ | exact oneCells_votesC _ | (simp [oneCells, Value.oneCell'] <;> done)) (by first | omega | (simp <;> omega)) (by first | omega | (simp <;> omega)) rfl (by first | rfl | (simp <;> done)) ?_); intro na5 nc5)
    refine WpA.one (i := 9) rfl (by kernel_rfl) (St rfl rfl (VC.ag _) ?_)
    refine At (i := 10) rfl (Rdo.assign rfl) ?_
    refine WpA.stop (by kernel_rfl) ?_
    refine Ql ?_
    refine WpR.done (by kernel_rfl) ?_
    refine Thn.n (Wp.ret ?_)
    rw [e3, e4]
    exact Ret.now (by repeat (first | exact ResV.nil | apply ResV.tmp rfl | apply ResV.cell rfl (by repeat (first | exact Lds.one rfl | (apply Lds.all; (first | rfl | assumption | (simp <;> fail))) | exact Lds.ione0 | exact Lds.ione rfl | (apply Lds.iall; (first | rfl | assumption | (simp <;> fail))) | apply Lds.next)))) (Gh.trans Gk (rf_close (l := [markA _ R.2.1]) { R.2.2 with answers := c.answers ++ [((o.client, o.seq), R.1)] } rfl rfl rfl rfl rfl)) ⟨_, _, rfl, rfl⟩
theorem rapply_ok (x : Nat) (c : CoS) (o : Go.Proofs.YtccgdnocldmjeaaGreatDoor.Op) (hl : o.name.length ≤ 1000000) (k : Nat) (hk : k ≤ 1000) (hok : c.Ok k) (hd : DecOk c) (hpa : PaL c.prods) :
    Trip Tryz.prog 7 [vp x 0, .agg (opC o).toArray] [rfA x c] (fun r l => ∃ a cp, r = .tuple #[.agg (repC (c.apply o).1).toArray, .slice a (c.apply o).2.1.length cp] ∧ l = [rfA x (c.apply o).2.2, markA (.slice a (c.apply o).2.1.length cp) (c.apply o).2.1]) := by
  by_cases ho : okOp o
  · cases h : alook c.answers (o.client, o.seq) with
    | none => exact rapply_new x c o hl ho h k hk hok hd hpa
    | some a => exact rapply_had x c o hl ho a h (by have := hok.al; omega)
  · exact rapply_no x c o hl ho
end Go.Proofs.YtccgdnocldmjeaaGreatDoor
namespace Go.Proofs.YtccgdnocldmjeaaGreatDoor
open Go
set_option maxHeartbeats 4000000
set_option linter.unusedSimpArgs false
set_option linter.unusedVariables false
set_option maxRecDepth 20000
/-- What is told of an operation as bytes. -/
def EncNo (o : Go.Proofs.YtccgdnocldmjeaaGreatDoor.Op) : Prop := Trip Tryz.prog 12 [.agg (opC o).toArray] [] (fun r l => r = .tuple #[vnil, vi 1] ∧ l = [])
def EncYes (o : Go.Proofs.YtccgdnocldmjeaaGreatDoor.Op) : Prop := Trip Tryz.prog 12 [.agg (opC o).toArray] [] (fun r l => ∃ v, r = .tuple #[v, vi 0] ∧ l = [])
theorem alook_map {κ α β : Type} [DecidableEq κ] (f : α → β) (l : List (κ × α)) (k : κ) : alook (l.map fun x => (x.1, f x.2)) k = (alook l k).map f := by
  induction l with
  | nil => rfl
  | cons x l ih =>
    obtain ⟨a, b⟩ := x
    simp only [List.map_cons, alook, ih]
    split <;> rfl
theorem apply_bad (b : Nat) (c : CoS) (o : Go.Proofs.YtccgdnocldmjeaaGreatDoor.Op) (he : EncNo o) :
    Trip Tryz.prog 6 [vp b 0, .agg (opC o).toArray] [coA b c] (fun r l => ∃ v, r = .tuple #[.agg (repC ⟨6, 0, 0⟩).toArray, v] ∧ l = [coA b c, markA v []]) := by
  unfold EncNo at he
  refine Trip.of_body Tryz.func6 rfl Tryz.ntmps6 Tryz.results6 rfl ?_
  refine Wsr ?_
  (refine WpL.step (Stp.boxV rfl (VC.ag _) rfl ?_); intro nb2)
  (refine WpL.step (Stp.alloc rfl ?_); intro nb3)
  refine Ls (Rdo.assign rfl) (Lnt (Wp.seq (Wsr ?_)))
  refine Ls (Rdo.load rfl (Lds.next Ld)) ?_
  refine WpL.step (Sc (he) rfl ?_)
  rintro _ _ ⟨rfl, rfl⟩
  refine Ll ?_
  refine Ls (Rdo.move rfl) (Ls (Rdo.extract rfl rfl) (Ls (Rdo.extract rfl rfl) (Ls (Rdo.assign rfl) (Ls (Rdo.assign rfl) (Lnt (Wsr (Ls (Rdo.move rfl) (Ls (Rdo.eqnil rfl rfl) (Ls (Rdo.move rfl) (Lw rfl rfl (Rdo.move rfl) (Lw rfl rfl (Rdo.nei rfl rfl) (Ls (Rdo.pick_f rfl rfl) (Lnt ?_)))))))))))))
  refine Wp.condT rfl ?_
  refine Wsr ?_
  refine Ls (Rdo.bld rfl (BldL.cons rfl (VC.i _ _) (by first | rfl | assumption | (simp <;> done)) (by repeat (first | exact LPut.nil _ | apply LPut.here | apply LPut.next)) (BldL.nil _))) ?_
  refine WpL.step (St rfl rfl (VC.ag _) ?_)
  refine Ls (Rdo.assign rfl) (Lnt (Wp.ret ?_))
  refine Thn.r ?_
  refine Ret.now (by repeat (first | exact ResV.nil | apply ResV.tmp rfl | apply ResV.cell rfl (by repeat (first | exact Lds.one rfl | (apply Lds.all; (first | rfl | assumption | (simp <;> fail))) | exact Lds.ione0 | exact Lds.ione rfl | (apply Lds.iall; (first | rfl | assumption | (simp <;> fail))) | apply Lds.next)))) (Gh.trans (Gh.nil 61 4) Gk) ⟨_, rfl, rfl⟩
theorem apply_nilN (o : Go.Proofs.YtccgdnocldmjeaaGreatDoor.Op) (he : EncNo o) :
    Trip Tryz.prog 6 [.pointer none, .agg (opC o).toArray] [] (fun r l => ∃ v, r = .tuple #[.agg (repC ⟨6, 0, 0⟩).toArray, v] ∧ l = [markA v []]) := by
  unfold EncNo at he
  refine Trip.of_body Tryz.func6 rfl Tryz.ntmps6 Tryz.results6 rfl ?_
  refine Wsr ?_
  (refine WpL.step (Stp.boxV rfl (VC.ag _) rfl ?_); intro nb2)
  (refine WpL.step (Stp.alloc rfl ?_); intro nb3)
  refine Ls (Rdo.assign rfl) (Lnt (Wp.seq (Wsr ?_)))
  refine Ls (Rdo.load rfl (Lds.next Ld)) ?_
  refine WpL.step (Sc (he) rfl ?_)
  rintro _ _ ⟨rfl, rfl⟩
  refine Ll ?_
  refine Ls (Rdo.move rfl) (Ls (Rdo.extract rfl rfl) (Ls (Rdo.extract rfl rfl) (Ls (Rdo.assign rfl) (Ls (Rdo.assign rfl) (Lnt (Wsr (Ls (Rdo.move rfl) (Ls (Rdo.eqnil rfl rfl) (Ls (Rdo.move rfl) (Lp rfl rfl (Lp rfl rfl (Ls (Rdo.pick_t rfl rfl) (Lnt ?_)))))))))))))
  refine Wp.condT rfl ?_
  refine Wsr ?_
  refine Ls (Rdo.bld rfl (BldL.cons rfl (VC.i _ _) (by first | rfl | assumption | (simp <;> done)) (by repeat (first | exact LPut.nil _ | apply LPut.here | apply LPut.next)) (BldL.nil _))) ?_
  refine WpL.step (St rfl rfl (VC.ag _) ?_)
  refine Ls (Rdo.assign rfl) (Lnt (Wp.ret ?_))
  refine Thn.r ?_
  refine Ret.now (by repeat (first | exact ResV.nil | apply ResV.tmp rfl | apply ResV.cell rfl (by repeat (first | exact Lds.one rfl | (apply Lds.all; (first | rfl | assumption | (simp <;> fail))) | exact Lds.ione0 | exact Lds.ione rfl | (apply Lds.iall; (first | rfl | assumption | (simp <;> fail))) | apply Lds.next)))) (Gh.trans (Gh.nil 61 4) Gk) ⟨_, rfl, rfl⟩
theorem apply_nilY (o : Go.Proofs.YtccgdnocldmjeaaGreatDoor.Op) (he : EncYes o) :
    Trip Tryz.prog 6 [.pointer none, .agg (opC o).toArray] [] (fun r l => ∃ v, r = .tuple #[.agg (repC ⟨6, 0, 0⟩).toArray, v] ∧ l = [markA v []]) := by
  unfold EncYes at he
  refine Trip.of_body Tryz.func6 rfl Tryz.ntmps6 Tryz.results6 rfl ?_
  refine Wsr ?_
  (refine WpL.step (Stp.boxV rfl (VC.ag _) rfl ?_); intro nb2)
  (refine WpL.step (Stp.alloc rfl ?_); intro nb3)
  refine Ls (Rdo.assign rfl) (Lnt (Wp.seq (Wsr ?_)))
  refine Ls (Rdo.load rfl (Lds.next Ld)) ?_
  refine WpL.step (Sc (he) rfl ?_)
  rintro _ _ ⟨v12_0, ⟨rfl, rfl⟩⟩
  refine Ll ?_
  refine Ls (Rdo.move rfl) (Ls (Rdo.extract rfl rfl) (Ls (Rdo.extract rfl rfl) (Ls (Rdo.assign rfl) (Ls (Rdo.assign rfl) (Lnt (Wsr (Ls (Rdo.move rfl) (Ls (Rdo.eqnil rfl rfl) (Ls (Rdo.move rfl) (Lp rfl rfl (Lp rfl rfl (Ls (Rdo.pick_t rfl rfl) (Lnt ?_)))))))))))))
  refine Wp.condT rfl ?_
  refine Wsr ?_
  refine Ls (Rdo.bld rfl (BldL.cons rfl (VC.i _ _) (by first | rfl | assumption | (simp <;> done)) (by repeat (first | exact LPut.nil _ | apply LPut.here | apply LPut.next)) (BldL.nil _))) ?_
  refine WpL.step (St rfl rfl (VC.ag _) ?_)
  refine Ls (Rdo.assign rfl) (Lnt (Wp.ret ?_))
  refine Thn.r ?_
  refine Ret.now (by repeat (first | exact ResV.nil | apply ResV.tmp rfl | apply ResV.cell rfl (by repeat (first | exact Lds.one rfl | (apply Lds.all; (first | rfl | assumption | (simp <;> fail))) | exact Lds.ione0 | exact Lds.ione rfl | (apply Lds.iall; (first | rfl | assumption | (simp <;> fail))) | apply Lds.next)))) (Gh.trans (Gh.nil 61 4) Gk) ⟨_, rfl, rfl⟩
theorem apply_was (b : Nat) (c : CoS) (o : Go.Proofs.YtccgdnocldmjeaaGreatDoor.Op) (he : EncYes o) (a : Rep) (ha : alook c.answers (o.client, o.seq) = some a) :
    Trip Tryz.prog 6 [vp b 0, .agg (opC o).toArray] [coA b c] (fun r l => ∃ v, r = .tuple #[.agg (repC a).toArray, v] ∧ l = [coA b c, markA v []]) := by
  unfold EncYes at he
  refine Trip.ghE coA_open ?_
  rintro m hm
  simp only [coX, List.cons_append, List.nil_append]
  refine Trip.of_body Tryz.func6 rfl Tryz.ntmps6 Tryz.results6 rfl ?_
  have hl : alook (c.answers.map fun x => (x.1, Value.agg (repC x.2).toArray)) (o.client, o.seq) = some (.agg (repC a).toArray) := by rw [alook_map (fun x => Value.agg (repC x).toArray), ha]; rfl
  refine Wsr ?_
  (refine WpL.step (Stp.boxV rfl (VC.ag _) rfl ?_); intro nb2)
  (refine WpL.step (Stp.alloc rfl ?_); intro nb3)
  refine Ls (Rdo.assign rfl) (Lnt (Wp.seq (Wsr ?_)))
  refine Ls (Rdo.load rfl (Lds.next Ld)) ?_
  refine WpL.step (Sc (he) rfl ?_)
  rintro _ _ ⟨v12_0, ⟨rfl, rfl⟩⟩
  refine Ll ?_
  refine Ls (Rdo.move rfl) (Ls (Rdo.extract rfl rfl) (Ls (Rdo.extract rfl rfl) (Ls (Rdo.assign rfl) (Ls (Rdo.assign rfl) (Lnt (Wsr (Ls (Rdo.move rfl) (Ls (Rdo.eqnil rfl rfl) (Ls (Rdo.move rfl) (Lw rfl rfl (Rdo.move rfl) (Lw rfl rfl (Rdo.nei rfl rfl) (Ls (Rdo.pick_f rfl rfl) (Lnt ?_)))))))))))))
  refine Wp.condF rfl ?_
  refine Wp.skip (Thn.n (Wsr (Ls (Rdo.fieldAddr0 rfl) (Ls (Rdo.load rfl (Lds.next (Lds.one rfl))) (Ls (Rdo.fieldAddr0 rfl) (Ls (Rdo.load rfl (Lds.next (Lds.one rfl))) ?_))))))
  refine Ls (Rdo.bld rfl (BldL.cons rfl (VC.i _ _) (by first | rfl | assumption | (simp <;> done)) (by repeat (first | exact LPut.nil _ | apply LPut.here | apply LPut.next)) (BldL.cons rfl (VC.i _ _) (by first | rfl | assumption | (simp <;> done)) (by repeat (first | exact LPut.nil _ | apply LPut.here | apply LPut.next)) (BldL.nil _)))) ?_
  (refine WpL.step (Stp.alloc rfl ?_); intro nb41)
  refine WpL.step (St rfl rfl (VC.ag _) ?_)
  refine Lnt (Wp.seq (Wp.seq ?_))
  refine Wp.draw (by kernel_rfl) ?_
  refine Qt (i := 0) rfl (Rdo.move rfl) (Qt (i := 1) rfl (Rdo.nilCheck rfl) (Qt (i := 2) rfl (Rdo.fieldAddr0 rfl) ?_))
  refine WpR.load (i := 4) [3, 9] rfl (by kernel_rfl) (by kernel_rfl) (by kernel_rfl) (by kernel_rfl) (by kernel_rfl) rfl Tk.rfl_ (Harm.rd rfl (Rdo.load rfl (Lds.next (Lds.next (Lds.next (Lds.one rfl))))) (Harm.al rfl inferInstance Harm.nil)) (Rdo.load rfl Ld) rfl ?_
  refine WpR.load (i := 3) [9] rfl (by kernel_rfl) (by kernel_rfl) (by kernel_rfl) (by kernel_rfl) (by kernel_rfl) rfl Tk.rfl_ (Harm.al rfl inferInstance Harm.nil) (Rdo.load rfl (Lds.next (Lds.next (Lds.next (Lds.one rfl))))) rfl ?_
  refine Pend.start (i := 9) rfl ?_
  refine Pend.one (j := 5) rfl rfl (by kernel_rfl) (by kernel_rfl) (by kernel_rfl) rfl (by simp) rfl rfl (Stp.rd (Rdo.lookup2 (enc := askV) (k := (o.client, o.seq)) rfl rfl (Mps.next (Mps.next (Mps.next (Mps.next (Mps.next (Mps.next (Mps.next (Mps.next (Mps.next Mps.here)))))))))) rfl ?_)
  unfold mapVal
  rw [hl]
  simp only [Option.getD_some, Option.isSome_some]
  refine Pend.take (j := 6) rfl (by kernel_rfl) (by kernel_rfl) (by kernel_rfl) rfl rfl (Rdo.move rfl) rfl ?_
  refine Pend.take (j := 7) rfl (by kernel_rfl) (by kernel_rfl) (by kernel_rfl) rfl rfl (Rdo.extract rfl rfl) rfl ?_
  refine Pend.take (j := 8) rfl (by kernel_rfl) (by kernel_rfl) (by kernel_rfl) rfl rfl (Rdo.extract rfl rfl) rfl ?_
  refine Pend.made rfl (by kernel_rfl) rfl (fun nb3 => ?_)
  refine Qo (i := 10) rfl (St rfl rfl (VC.ag _) ?_)
  refine Qt (i := 11) rfl (Rdo.assign rfl) ?_
  refine WpR.done (by kernel_rfl) ?_
  refine Thn.n (Wsr (Ls (Rdo.move rfl) (Lnt ?_)))
  refine Wp.condT rfl ?_
  refine Wsr ?_
  refine Ls (Rdo.load rfl Ld) ?_
  refine WpL.step (St rfl rfl (VC.ag _) ?_)
  refine Ls (Rdo.assign rfl) (Lnt (Wp.ret ?_))
  refine Thn.r ?_
  exact Ret.now (by repeat (first | exact ResV.nil | apply ResV.tmp rfl | apply ResV.cell rfl (by repeat (first | exact Lds.one rfl | (apply Lds.all; (first | rfl | assumption | (simp <;> fail))) | exact Lds.ione0 | exact Lds.ione rfl | (apply Lds.iall; (first | rfl | assumption | (simp <;> fail))) | apply Lds.next)))) (Gh.trans Gk (fin0 m hm)) ⟨_, rfl, rfl⟩
theorem apply_new (b : Nat) (c : CoS) (o : Go.Proofs.YtccgdnocldmjeaaGreatDoor.Op) (he : EncYes o) (k : Nat) (hk : k ≤ 1000) (h : c.Ok k) (ho : okOp o) (ha : alook c.answers (o.client, o.seq) = none) :
    Trip Tryz.prog 6 [vp b 0, .agg (opC o).toArray] [coA b c] (fun r l => ∃ v, r = .tuple #[.agg (repC (c.does o).1).toArray, v] ∧ l = [coA b { (c.does o).2.2 with answers := (c.does o).2.2.answers ++ [((o.client, o.seq), (c.does o).1)] }, markA v (c.does o).2.1]) := by
  unfold EncYes at he
  refine Trip.ghE coA_open ?_
  rintro m hm
  have s2 : Trip Tryz.prog 13 [vp b 0, .agg (opC o).toArray] (coX b c m) (fun r l => ∃ x : {x : CoM × Value // x.1.qs.length = (c.does o).2.2.prods.length}, r = .tuple #[.agg (repC (c.does o).1).toArray, x.1.2] ∧ l = coX b (c.does o).2.2 x.1.1 ++ [markA x.1.2 (c.does o).2.1]) := by
    refine Trip.gh (Gh.trans Gk (coA_shut (l := []) m hm)) (Trip.viaG (does_ok b c o k hk h ho) (rest := []) Tk.rfl_ ?_)
    rintro r l ⟨v, rfl, rfl⟩ F w hl
    rw [List.append_nil] at hl
    obtain ⟨m', hm', h2⟩ := coA_open.use hl
    exact ⟨_, ⟨⟨(m', v), hm'⟩, rfl, rfl⟩, h2⟩
  have hl : alook (c.answers.map fun x => (x.1, Value.agg (repC x.2).toArray)) (o.client, o.seq) = none := by rw [alook_map (fun x => Value.agg (repC x).toArray), ha]; rfl
  simp only [coX, List.cons_append, List.nil_append] at s2 ⊢
  refine Trip.of_body Tryz.func6 rfl Tryz.ntmps6 Tryz.results6 rfl ?_
  refine Wsr ?_
  (refine WpL.step (Stp.boxV rfl (VC.ag _) rfl ?_); intro nb2)
  (refine WpL.step (Stp.alloc rfl ?_); intro nb3)
  refine Ls (Rdo.assign rfl) (Lnt (Wp.seq (Wsr ?_)))
  refine Ls (Rdo.load rfl (Lds.next Ld)) ?_
  refine WpL.step (Sc (he) rfl ?_)
  rintro _ _ ⟨v12_0, ⟨rfl, rfl⟩⟩
  refine Ll ?_
  refine Ls (Rdo.move rfl) (Ls (Rdo.extract rfl rfl) (Ls (Rdo.extract rfl rfl) (Ls (Rdo.assign rfl) (Ls (Rdo.assign rfl) (Lnt (Wsr (Ls (Rdo.move rfl) (Ls (Rdo.eqnil rfl rfl) (Ls (Rdo.move rfl) (Lw rfl rfl (Rdo.move rfl) (Lw rfl rfl (Rdo.nei rfl rfl) (Ls (Rdo.pick_f rfl rfl) (Lnt ?_)))))))))))))
  refine Wp.condF rfl ?_
  refine Wp.skip (Thn.n (Wsr (Ls (Rdo.fieldAddr0 rfl) (Ls (Rdo.load rfl (Lds.next (Lds.one rfl))) (Ls (Rdo.fieldAddr0 rfl) (Ls (Rdo.load rfl (Lds.next (Lds.one rfl))) ?_))))))
  refine Ls (Rdo.bld rfl (BldL.cons rfl (VC.i _ _) (by first | rfl | assumption | (simp <;> done)) (by repeat (first | exact LPut.nil _ | apply LPut.here | apply LPut.next)) (BldL.cons rfl (VC.i _ _) (by first | rfl | assumption | (simp <;> done)) (by repeat (first | exact LPut.nil _ | apply LPut.here | apply LPut.next)) (BldL.nil _)))) ?_
  (refine WpL.step (Stp.alloc rfl ?_); intro nb41)
  refine WpL.step (St rfl rfl (VC.ag _) ?_)
  refine Lnt (Wp.seq (Wp.seq ?_))
  refine Wp.draw (by kernel_rfl) ?_
  refine Qt (i := 0) rfl (Rdo.move rfl) (Qt (i := 1) rfl (Rdo.nilCheck rfl) (Qt (i := 2) rfl (Rdo.fieldAddr0 rfl) ?_))
  refine WpR.load (i := 4) [3, 9] rfl (by kernel_rfl) (by kernel_rfl) (by kernel_rfl) (by kernel_rfl) (by kernel_rfl) rfl Tk.rfl_ (Harm.rd rfl (Rdo.load rfl (Lds.next (Lds.next (Lds.next (Lds.one rfl))))) (Harm.al rfl inferInstance Harm.nil)) (Rdo.load rfl Ld) rfl ?_
  refine WpR.load (i := 3) [9] rfl (by kernel_rfl) (by kernel_rfl) (by kernel_rfl) (by kernel_rfl) (by kernel_rfl) rfl Tk.rfl_ (Harm.al rfl inferInstance Harm.nil) (Rdo.load rfl (Lds.next (Lds.next (Lds.next (Lds.one rfl))))) rfl ?_
  refine Pend.start (i := 9) rfl ?_
  refine Pend.one (j := 5) rfl rfl (by kernel_rfl) (by kernel_rfl) (by kernel_rfl) rfl (by simp) rfl rfl (Stp.rd (Rdo.lookup2 (enc := askV) (k := (o.client, o.seq)) rfl rfl (Mps.next (Mps.next (Mps.next (Mps.next (Mps.next (Mps.next (Mps.next (Mps.next (Mps.next Mps.here)))))))))) rfl ?_)
  unfold mapVal
  rw [hl]
  simp only [Option.getD_none, Option.isSome_none]
  refine Pend.take (j := 6) rfl (by kernel_rfl) (by kernel_rfl) (by kernel_rfl) rfl rfl (Rdo.move rfl) rfl ?_
  refine Pend.take (j := 7) rfl (by kernel_rfl) (by kernel_rfl) (by kernel_rfl) rfl rfl (Rdo.extract rfl rfl) rfl ?_
  refine Pend.take (j := 8) rfl (by kernel_rfl) (by kernel_rfl) (by kernel_rfl) rfl rfl (Rdo.extract rfl rfl) rfl ?_
  refine Pend.made rfl (by kernel_rfl) rfl (fun nb3 => ?_)
  refine Qo (i := 10) rfl (St rfl rfl (VC.ag _) ?_)
  refine Qt (i := 11) rfl (Rdo.assign rfl) ?_
  refine WpR.done (by kernel_rfl) ?_
  refine Thn.n (Wsr (Ls (Rdo.move rfl) (Lnt ?_)))
  refine Wp.condF rfl ?_
  refine Wp.skip (Thn.n (Wsr (Ls (Rdo.move rfl) ?_)))
  refine Ls (Rdo.load rfl (Lds.next (Lds.next (Lds.next Ld)))) ?_
  refine WpL.step (Sc (s2) rfl ?_)
  rintro _ _ ⟨v21_0, ⟨rfl, rfl⟩⟩
  refine Ll ?_
  refine Ls (Rdo.move rfl) (Ls (Rdo.extract rfl rfl) (Ls (Rdo.extract rfl rfl) ?_))
  (refine WpL.step (Stp.alloc rfl ?_); intro nb26)
  refine WpL.step (St rfl rfl (VC.ag _) ?_)
  refine Ls (Rdo.assign rfl) (Lnt (Wp.seq ?_))
  refine Wp.draw (by kernel_rfl) ?_
  refine Qt (i := 0) rfl (Rdo.move rfl) (Qt (i := 1) rfl (Rdo.nilCheck rfl) (Qt (i := 2) rfl (Rdo.fieldAddr0 rfl) ?_))
  refine WpR.phaseL (m := 1) #[true, true, true, true, true, true, false] 3 _ rfl (by kernel_rfl) Tk.rfl_ ?_
  refine At (i := 3) rfl (Rdo.load rfl (Lds.next (Lds.one rfl))) ?_
  refine At (i := 4) rfl (Rdo.load rfl (Lds.next (Lds.next (Lds.next (Lds.next (Lds.next (Lds.next (Lds.next (Lds.next (Lds.next (Lds.next Ld))))))))))) ?_
  refine At (i := 5) rfl (Rdo.load rfl Ld) ?_
  refine WpA.stop (by kernel_rfl) ?_
  refine WpR.lst (by simp only [List.cons_append, List.nil_append, List.append_nil]; exact rfl) ?_
  refine Qo (i := 6) rfl (Stp.mapUpdate (enc := askV) (k := (o.client, o.seq)) rfl rfl rfl (Pk.next (Pk.next (Pk.next (Pk.next (Pk.next (Pk.next (Pk.next Pk.here))))))) ?_)
  have hl2 : aset ((c.does o).2.2.answers.map fun x => (x.1, Value.agg (repC x.2).toArray)) (o.client, o.seq) (.agg (repC (c.does o).1).toArray) = ((c.does o).2.2.answers ++ [((o.client, o.seq), (c.does o).1)]).map fun x => (x.1, Value.agg (repC x.2).toArray) := by
    rw [does_answers, aset_new hl, List.map_append]
    rfl
  rw [hl2]
  refine WpR.done (by kernel_rfl) ?_
  refine Thn.n (Wsr ?_)
  refine Ls (Rdo.load rfl (Lds.next Ld)) ?_
  refine Ls (Rdo.move rfl) ?_
  refine WpL.step (St rfl rfl (VC.ag _) ?_)
  refine Ls (Rdo.assign rfl) (Lnt (Wp.ret ?_))
  exact Ret.now (by repeat (first | exact ResV.nil | apply ResV.tmp rfl | apply ResV.cell rfl (by repeat (first | exact Lds.one rfl | (apply Lds.all; (first | rfl | assumption | (simp <;> fail))) | exact Lds.ione0 | exact Lds.ione rfl | (apply Lds.iall; (first | rfl | assumption | (simp <;> fail))) | apply Lds.next)))) (Gh.trans Gk (fin1 (c := { (c.does o).2.2 with answers := (c.does o).2.2.answers ++ [((o.client, o.seq), (c.does o).1)] }) v21_0.1.1 v21_0.2)) ⟨_, rfl, rfl⟩
theorem apply_ok_ (b : Nat) (c : CoS) (o : Go.Proofs.YtccgdnocldmjeaaGreatDoor.Op) (hn : ¬ okOp o → EncNo o) (hy : okOp o → EncYes o) (k : Nat) (hk : k ≤ 1000) (h : c.Ok k) :
    Trip Tryz.prog 6 [vp b 0, .agg (opC o).toArray] [coA b c] (fun r l => ∃ v, r = .tuple #[.agg (repC (c.apply o).1).toArray, v] ∧ l = [coA b (c.apply o).2.2, markA v (c.apply o).2.1]) := by
  unfold CoS.apply
  by_cases ho : okOp o
  · simp only [if_pos ho]
    cases ha : alook c.answers (o.client, o.seq) with
    | some a => exact apply_was b c o (hy ho) a ha
    | none => exact apply_new b c o (hy ho) k hk h ho ha
  · simp only [if_neg ho]
    exact apply_bad b c o (hn ho)
end Go.Proofs.YtccgdnocldmjeaaGreatDoor
namespace Go.Proofs.YtccgdnocldmjeaaGreatDoor
open Go
set_option maxHeartbeats 4000000
set_option linter.unusedSimpArgs false
set_option linter.unusedVariables false
set_option maxRecDepth 20000
theorem encNo (o : Go.Proofs.YtccgdnocldmjeaaGreatDoor.Op) (hl : o.name.length ≤ 1000000) (h : ¬ okOp o) : EncNo o := encOp_no o hl h
theorem encYes (o : Go.Proofs.YtccgdnocldmjeaaGreatDoor.Op) (hl : o.name.length ≤ 1000000) (h : okOp o) : EncYes o := by
  unfold EncYes
  refine Trip.viaG (encOp_ok o h hl) (rest := []) Tk.rfl_ ?_
  rintro r l ⟨a, c, rfl, rfl⟩ F w hw
  exact ⟨[], ⟨_, rfl, rfl⟩, (Gh.tk Tk.nil : Gh _ []).use hw⟩
theorem apply_ok (b : Nat) (c : CoS) (o : Go.Proofs.YtccgdnocldmjeaaGreatDoor.Op) (hl : o.name.length ≤ 1000000) (k : Nat) (hk : k ≤ 1000) (h : c.Ok k) :
    Trip Tryz.prog 6 [vp b 0, .agg (opC o).toArray] [coA b c]
      (fun r l => ∃ a cp, r = .tuple #[.agg (repC (c.apply o).1).toArray, .slice a (c.apply o).2.1.length cp] ∧ l = [coA b (c.apply o).2.2, markA (.slice a (c.apply o).2.1.length cp) (c.apply o).2.1]) := by
  refine Trip.viaG (apply_ok_ b c o (encNo o hl) (encYes o hl) k hk h) (rest := []) Tk.rfl_ ?_
  rintro r l ⟨v, rfl, rfl⟩ F w hw
  rw [List.append_nil] at hw
  have hg : GhE [coA b (c.apply o).2.2, markA v (c.apply o).2.1] (fun x : Option Addr × Nat => v = .slice x.1 (c.apply o).2.1.length x.2) (fun _ => [coA b (c.apply o).2.2, markA v (c.apply o).2.1]) := by
    refine GhE.mk fun F w hl => ?_
    obtain ⟨a, cp, hv⟩ := Holds.fact (fun r => rowA_shape) (hl.perm (List.Perm.swap _ _ _))
    exact ⟨(a, cp), hv, hl⟩
  obtain ⟨⟨a, cp⟩, rfl, h3⟩ := hg.use hw
  exact ⟨_, ⟨a, cp, rfl, rfl⟩, h3⟩
/-- The same, where there is a mark. -/
theorem apply_ok1 (b : Nat) (c : CoS) (o : Go.Proofs.YtccgdnocldmjeaaGreatDoor.Op) (hl : o.name.length ≤ 1000000) (k : Nat) (hk : k ≤ 1000) (h : c.Ok k) (hm : 0 < (c.apply o).2.1.length) :
    Trip Tryz.prog 6 [vp b 0, .agg (opC o).toArray] [coA b c]
      (fun r l => ∃ mb of cp, r = .tuple #[.agg (repC (c.apply o).1).toArray, .slice (some ⟨mb, of, none⟩) (c.apply o).2.1.length cp] ∧ l = [coA b (c.apply o).2.2, markA (.slice (some ⟨mb, of, none⟩) (c.apply o).2.1.length cp) (c.apply o).2.1]) := by
  refine Trip.viaG (apply_ok b c o hl k hk h) (rest := []) Tk.rfl_ ?_
  rintro r l ⟨a, cp, rfl, rfl⟩ F w hw
  rw [List.append_nil] at hw
  obtain ⟨mb, of, cp', hv⟩ := Holds.fact (fun r hr => rowA_at 0 hm hr) (hw.perm (List.Perm.swap _ _ _))
  simp only [Value.slice.injEq, true_and] at hv
  obtain ⟨rfl, rfl⟩ := hv
  exact ⟨_, ⟨mb, of, cp, rfl, rfl⟩, hw⟩
abbrev k1 : Go.Proofs.YtccgdnocldmjeaaGreatDoor.Op := ⟨1, 0, 0, [97], 0, 0, 0, 0, false⟩
abbrev k2 : Go.Proofs.YtccgdnocldmjeaaGreatDoor.Op := ⟨2, 0, 1, [], 0, 0, 1, 0, false⟩
abbrev k3 : Go.Proofs.YtccgdnocldmjeaaGreatDoor.Op := ⟨3, 0, 2, [], 0, 0, 1, 0, true⟩
def ck1 : CoS := (CoS.new.apply k1).2.2
def ck2 : CoS := (ck1.apply k2).2.2
def ck3 : CoS := (ck2.apply k3).2.2
theorem known_ok : Trip Tryz.prog 10 [] [] (fun r l => r = vb true ∧ l = []) := by
  have o0 := CoS.Ok.new
  have o1 : ck1.Ok 1 := apply_Ok o0 k1
  have o2 : ck2.Ok 2 := apply_Ok o1 k2
  have s1 : ∀ b, Trip Tryz.prog 6 [vp b 0, .agg (opC k1).toArray] [coA b CoS.new]
      (fun r l => ∃ mb of cp, r = .tuple #[.agg (repC ⟨0, 0, 0⟩).toArray, .slice (some ⟨mb, of, none⟩) 1 cp] ∧ l = [coA b ck1, markA (.slice (some ⟨mb, of, none⟩) 1 cp) [⟨1, 0, 0, 0⟩]]) := by
    intro b
    have h := apply_ok1 b CoS.new k1 (by decide) 0 (by omega) o0 (by decide)
    have e1 : (CoS.new.apply k1).1 = ⟨0, 0, 0⟩ := by rfl
    have e2 : (CoS.new.apply k1).2.1 = [⟨1, 0, 0, 0⟩] := by rfl
    rw [e1, e2] at h
    exact h
  have s2 : ∀ b, Trip Tryz.prog 6 [vp b 0, .agg (opC k2).toArray] [coA b ck1]
      (fun r l => ∃ a cp, r = .tuple #[.agg (repC ⟨0, 0, 0⟩).toArray, .slice a 0 cp] ∧ l = [coA b ck2, markA (.slice a 0 cp) []]) := by
    intro b
    have h := apply_ok b ck1 k2 (by decide) 1 (by omega) o1
    have e1 : (ck1.apply k2).1 = ⟨0, 0, 0⟩ := by rfl
    have e2 : (ck1.apply k2).2.1 = [] := by rfl
    rw [e1, e2] at h
    exact h
  have s3 : ∀ b, Trip Tryz.prog 6 [vp b 0, .agg (opC k3).toArray] [coA b ck2]
      (fun r l => ∃ mb of cp, r = .tuple #[.agg (repC ⟨0, 0, 0⟩).toArray, .slice (some ⟨mb, of, none⟩) 1 cp] ∧ l = [coA b ck3, markA (.slice (some ⟨mb, of, none⟩) 1 cp) [⟨2, 0, 0, 1⟩]]) := by
    intro b
    have h := apply_ok1 b ck2 k3 (by decide) 2 (by omega) o2 (by decide)
    have e1 : (ck2.apply k3).1 = ⟨0, 0, 0⟩ := by rfl
    have e2 : (ck2.apply k3).2.1 = [⟨2, 0, 0, 1⟩] := by rfl
    rw [e1, e2] at h
    exact h
  refine Trip.of_body Tryz.func10 rfl Tryz.ntmps10 Tryz.results10 rfl ?_
  have f1 : (([⟨1, 0, 0, 0⟩] : List Mark).map markC).flatten[0 * 4 + 0]? = some (vi 1) := rfl
  have f2 : (([⟨2, 0, 0, 1⟩] : List Mark).map markC).flatten = [] ++ (markC ⟨2, 0, 0, 1⟩ ++ []) := rfl
  refine Wsr (Ls (Rdo.assign rfl) (Lnt (Wsr ?_)))
  refine WpL.step (Sc (new_ok) rfl ?_)
  rintro _ _ ⟨v8_0, ⟨rfl, rfl⟩⟩
  refine Ll ?_
  refine Ls (Rdo.assign rfl) (Lnt (Wp.seq (Wsr (Ls (Rdo.move rfl) (Ls (Rdo.eqnil rfl rfl) (Lnt ?_))))))
  refine Wp.condF rfl ?_
  refine Wp.skip (Thn.n (Wsr (Ls (Rdo.move rfl) ?_)))
  refine Ls (Rdo.bld rfl (BldL.cons rfl (VC.i _ _) (by first | rfl | assumption | (simp <;> done)) (by repeat (first | exact LPut.nil _ | apply LPut.here | apply LPut.next)) (BldL.cons rfl (VC.s _) (by first | rfl | assumption | (simp <;> done)) (by repeat (first | exact LPut.nil _ | apply LPut.here | apply LPut.next)) (BldL.nil _)))) ?_
  refine WpL.step (Sc (s1 _) rfl ?_)
  rintro _ _ ⟨v28_0, ⟨v28_1, ⟨v28_2, ⟨rfl, rfl⟩⟩⟩⟩
  refine Ll ?_
  refine Ls (Rdo.move rfl) (Ls (Rdo.extract rfl rfl) (Ls (Rdo.extract rfl rfl) ?_))
  (refine WpL.step (Stp.alloc rfl ?_); intro nb33)
  refine WpL.step (St rfl rfl (VC.ag _) ?_)
  refine Ls (Rdo.assign rfl) (Lnt (Wsr (Ls (Rdo.move rfl) ?_)))
  refine Ls (Rdo.bld rfl (BldL.cons rfl (VC.i _ _) (by first | rfl | assumption | (simp <;> done)) (by repeat (first | exact LPut.nil _ | apply LPut.here | apply LPut.next)) (BldL.cons rfl (VC.i _ _) (by first | rfl | assumption | (simp <;> done)) (by repeat (first | exact LPut.nil _ | apply LPut.here | apply LPut.next)) (BldL.cons rfl (VC.i _ _) (by first | rfl | assumption | (simp <;> done)) (by repeat (first | exact LPut.nil _ | apply LPut.here | apply LPut.next)) (BldL.nil _))))) ?_
  refine WpL.step (Sc (s2 _) rfl ?_)
  rintro _ _ ⟨v43_0, ⟨v43_1, ⟨rfl, rfl⟩⟩⟩
  refine Ll ?_
  refine Lnt (Wsr (Ls (Rdo.move rfl) ?_))
  refine Ls (Rdo.bld rfl (BldL.cons rfl (VC.i _ _) (by first | rfl | assumption | (simp <;> done)) (by repeat (first | exact LPut.nil _ | apply LPut.here | apply LPut.next)) (BldL.cons rfl (VC.i _ _) (by first | rfl | assumption | (simp <;> done)) (by repeat (first | exact LPut.nil _ | apply LPut.here | apply LPut.next)) (BldL.cons rfl (VC.i _ _) (by first | rfl | assumption | (simp <;> done)) (by repeat (first | exact LPut.nil _ | apply LPut.here | apply LPut.next)) (BldL.cons rfl (VC.b _) (by first | rfl | assumption | (simp <;> done)) (by repeat (first | exact LPut.nil _ | apply LPut.here | apply LPut.next)) (BldL.nil _)))))) ?_
  refine WpL.step (Sc (s3 _) rfl ?_)
  rintro _ _ ⟨v52_0, ⟨v52_1, ⟨v52_2, ⟨rfl, rfl⟩⟩⟩⟩
  refine Ll ?_
  refine Ls (Rdo.move rfl) (Ls (Rdo.extract rfl rfl) (Ls (Rdo.extract rfl rfl) ?_))
  (refine WpL.step (Stp.alloc rfl ?_); intro nb57)
  refine WpL.step (St rfl rfl (VC.ag _) ?_)
  refine Ls (Rdo.assign rfl) (Lnt (Wsr (Ls (Rdo.fieldAddr0 rfl) (Ls (Rdo.load rfl (Lds.next (Lds.next (Lds.next (Lds.next (Lds.one rfl)))))) (Ls (Rdo.eqi rfl rfl) (Ls (Rdo.move rfl) (Lw rfl rfl (Rdo.move rfl) (Lw rfl rfl (Rdo.lenSlice rfl) (Lw rfl rfl (Rdo.eqi rfl rfl) (Ls (Rdo.pick_t rfl rfl) (Ls (Rdo.move rfl) (Lw rfl rfl (Rdo.move rfl) ?_))))))))))))
  refine Lw rfl rfl (Rdo.indexSliceE (i := 0) rfl rfl rfl (by first | omega | (simp <;> omega))) ?_
  refine Lw rfl rfl (Rdo.fieldAddr rfl) ?_
  refine Lw rfl rfl (Rdo.load rfl (Lds.next (Lds.next (Lds.next (Lds.next (Lds.next (Lds.rowF (by assumption)))))))) ?_
  refine Lw rfl rfl (Rdo.eqi rfl rfl) (Ls (Rdo.pick_t rfl rfl) (Ls (Rdo.move rfl) (Lw rfl rfl (Rdo.move rfl) (Lw rfl rfl (Rdo.lenSlice rfl) (Lw rfl rfl (Rdo.eqi rfl rfl) (Ls (Rdo.pick_t rfl rfl) (Ls (Rdo.move rfl) (Lw rfl rfl (Rdo.move rfl) ?_))))))))
  refine Lw rfl rfl (Rdo.indexSliceE (i := 0) rfl rfl rfl (by first | omega | (simp <;> omega))) ?_
  refine Lw rfl rfl (Rdo.load rfl (Lds.next (Lds.next (Lds.row (by assumption) (by first | assumption | omega | (simp <;> omega)) (by first | assumption | rfl))))) ?_
  refine Lw rfl rfl (Rdo.bld rfl (BldL.cons rfl (VC.i _ _) (by first | rfl | assumption | (simp <;> done)) (by repeat (first | exact LPut.nil _ | apply LPut.here | apply LPut.next)) (BldL.cons rfl (VC.i _ _) (by first | rfl | assumption | (simp <;> done)) (by repeat (first | exact LPut.nil _ | apply LPut.here | apply LPut.next)) (BldL.nil _)))) ?_
  refine Lw rfl rfl (Rdo.eqagg rfl rfl (by first | rfl | exact oks_hc _ | exact oks_voteC _ | assumption) (by first | rfl | exact oks_hc _ | exact oks_voteC _ | assumption)) ?_
  refine Ls (Rdo.pick_t rfl rfl) (Ls (Rdo.assign rfl) (Lnt (Wp.ret ?_)))
  refine Rt (ResV.tmp rfl ResV.nil) ⟨(by first | rfl | (simp [packed] <;> done) | (simp_all [packed] <;> done)), rfl⟩
end Go.Proofs.YtccgdnocldmjeaaGreatDoor
namespace Go.Proofs.YtccgdnocldmjeaaGreatDoor
open Go
set_option maxHeartbeats 4000000
set_option linter.unusedSimpArgs false
set_option linter.unusedVariables false
set_option maxRecDepth 20000
abbrev ROp (g : FH) (cs : List Value) (o : Go.Proofs.YtccgdnocldmjeaaGreatDoor.Op) : Prop := cs = opC o ∧ o.name.length ≤ reachBytes
theorem opnI : Opn Tryz.prog 3 1 (fun _ cs (n : Int) => cs = [vi n]) := Opn.map id (Opn.int (k := .i64) (by kernel_rfl)) fun g cs a h => h.1
theorem opnB : Opn Tryz.prog 4 1 (fun _ cs (b : Bool) => cs = [vb b]) := Opn.bool (by kernel_rfl)
theorem opnS : Opn Tryz.prog 9 1 (fun _ cs (s : List UInt8) => cs = [vs s] ∧ s.length ≤ reachBytes) := Opn.string (by kernel_rfl)
theorem opnOp : Opn Tryz.prog 38 9 ROp := by
  refine Opn.map (fun x => ⟨x.1, x.2.1, x.2.2.1, x.2.2.2.1, x.2.2.2.2.1, x.2.2.2.2.2.1, x.2.2.2.2.2.2.1, x.2.2.2.2.2.2.2.1, x.2.2.2.2.2.2.2.2.1⟩) (Opn.struct (by kernel_rfl) (OpnF.cons (k := 0) opnI (OpnF.cons (k := 1) opnI (OpnF.cons (k := 2) opnI (OpnF.cons (k := 3) opnS (OpnF.cons (k := 4) opnI (OpnF.cons (k := 5) opnI (OpnF.cons (k := 6) opnI (OpnF.cons (k := 7) opnI (OpnF.cons (k := 8) opnB (OpnF.nil (k := 9) (by kernel_rfl)))))))))))) ?_
  rintro g cs ⟨a1, a2, a3, a4, a5, a6, a7, a8, a9, _⟩ ⟨c1, d1, rfl, _, rfl, c2, d2, rfl, _, rfl, c3, d3, rfl, _, rfl, c4, d4, rfl, _, ⟨rfl, h4⟩, c5, d5, rfl, _, rfl, c6, d6, rfl, _, rfl, c7, d7, rfl, _, rfl, c8, d8, rfl, _, rfl, c9, d9, rfl, _, rfl, rfl⟩
  exact ⟨rfl, h4⟩
abbrev ROps (g : FH) (cs : List Value) (ops : List Go.Proofs.YtccgdnocldmjeaaGreatDoor.Op) : Prop := ∃ v, cs = [v] ∧ RdSl ROp 9 g v ops ∧ ops.length * 80 ≤ reachBytes
theorem opnOps : Opn Tryz.prog 22 1 ROps := Opn.slice (e := 38) (by_ := 80) (by kernel_rfl) (by kernel_rfl) (by omega) (by kernel_rfl) opnOp
abbrev opsF (v : Value) (ops : List Go.Proofs.YtccgdnocldmjeaaGreatDoor.Op) : HP := fz (fun g => RdSl ROp 9 g v ops)
theorem rop_ {cs : List Value} {o : Go.Proofs.YtccgdnocldmjeaaGreatDoor.Op} (r : Res) (h : fz (fun g => ROp g cs o) r) : cs = opC o ∧ o.name.length ≤ reachBytes := by unfold fz at h; exact h
/-- No name is too long. -/
def NmTo (ops : List Go.Proofs.YtccgdnocldmjeaaGreatDoor.Op) (i : Nat) : Prop := ∀ j o, j < i → ops[j]? = some o → o.name.length ≤ 2000
theorem NmTo.succ {ops : List Go.Proofs.YtccgdnocldmjeaaGreatDoor.Op} {i : Nat} {o : Go.Proofs.YtccgdnocldmjeaaGreatDoor.Op} (h : NmTo ops i) (ha : ops[i]? = some o) (hok : o.name.length ≤ 2000) : NmTo ops (i + 1) := fun j b hj hb => by
  by_cases hji : j = i
  · subst hji
    rw [ha] at hb
    cases hb
    exact hok
  · exact h j b (by omega) hb
theorem NmTo.all {ops : List Go.Proofs.YtccgdnocldmjeaaGreatDoor.Op} (h : NmTo ops ops.length) (i : Nat) : NmTo ops i := fun j b _ hb => h j b (List.getElem?_eq_some_iff.1 hb).1 hb
theorem long_ok (v : Value) (ops : List Go.Proofs.YtccgdnocldmjeaaGreatDoor.Op) (hl : ops.length ≤ reachBytes) : Trip Tryz.prog 4 [v] [opsF v ops] (fun r l => ∃ b : {b : Bool // b = false → NmTo ops 80}, r = vb b.1 ∧ l = [opsF v ops]) := by
  have hR : reachBytes = 140737488351232 := by decide
  refine Trip.get Pk.here shape_rdsl ?_
  rintro ⟨a1, c1, rfl⟩
  refine Trip.of_body Tryz.func4 rfl Tryz.ntmps4 Tryz.results4 rfl ?_
  refine Wsr (Ls (Rdo.assign rfl) (Lnt (Wsr (Ls (Rdo.assign rfl) (Lnt (Wp.seq (Wsr (Ls (Rdo.assign rfl) (Lnt (Wp.block ?_))))))))))
  refine Wp.loopE (fun k e h => ∃ (i : Nat) (n : Int), i + k = ops.length ∧ (0 ≤ n ∧ n ≤ 2000) ∧ NmTo ops i ∧ e = [(0, .slice a1 ops.length c1), (2, vb false), (3, vi n), (4, vi i)] ∧ h = [opsF (.slice a1 ops.length c1) ops]) ops.length
    (e0 := [(0, .slice a1 ops.length c1), (2, vb false), (3, vi 0), (4, vi (0 : Nat))]) (l0 := [opsF (.slice a1 ops.length c1) ops]) (by repeat (first | exact trivial | refine ⟨rfl, ?_⟩)) (by repeat (first | exact trivial | refine ⟨rfl, ?_⟩)) Gk ⟨0, 0, by simp, by omega, fun j a hj => by omega, rfl, rfl⟩ ?_
  rintro k e h ⟨i, n, hik, hn, hto, rfl, rfl⟩
  by_cases hi : i < ops.length
  · have hi' : (i : Int) < ops.length := by omega
    by_cases h80 : (i : Int) < 80
    · refine Wp.ghE (GhE.elem (R := ROp) Pk.here i hi) ?_
      rintro ⟨bb, o, cap, cs⟩ ⟨hv, hcs⟩
      simp only [Value.slice.injEq, true_and] at hv
      obtain ⟨rfl, rfl⟩ := hv
      simp only
      refine Wp.get (Pk.next Pk.here) rop_ ?_
      rintro ⟨rfl, hnl⟩
      have hat : ops[i]? = some ops[i] := List.getElem?_eq_getElem hi
      generalize ops[i] = x at hnl hat
      by_cases hbig : 2000 < n + 1 + (x.name.length : Int)
      · refine Wp.seq (Wsr (Ls (Rdo.move rfl) (Ls (Rdo.move rfl) (Ls (Rdo.lenSlice rfl) (Ls (Rdo.lti rfl rfl) (Ls (Rdo.move rfl) (Lg rfl rfl (Lw rfl rfl (Rdo.move rfl) (Lw rfl rfl (Rdo.lti rfl rfl) (Ls (Rdo.pick_t rfl rfl) (Lnt (cK rfl (Wp.skip ?_)))))))))))))
        refine Thn.n (Wp.seq (Wp.block (Wsr (Ls (Rdo.move rfl) ?_))))
        refine Ls (Rdo.add64 rfl rfl (by first | omega | (dsimp only; omega))) ?_
        refine Ls (Rdo.move rfl) (Ls (Rdo.move rfl) ?_)
        refine Ls (Rdo.indexSlice rfl rfl (by omega)) ?_
        refine Ls (Rdo.fieldAddr rfl) (Ls (Rdo.load rfl (Lds.ione rfl)) (Ls (Rdo.lenVs rfl) ?_))
        refine Ls (Rdo.add64 rfl rfl (by first | omega | (dsimp only; omega))) ?_
        refine Ls (Rdo.assign rfl) (Lnt (Wsr (Ls (Rdo.move rfl) (Ls (Rdo.gti rfl rfl) (Lnt (cK rfl (Wsr (Ls (Rdo.assign rfl) (Lnt (Wp.ret ?_))))))))))
        refine Blk.r ?_
        refine Thn.r ?_
        refine Thn.r ?_
        refine Blk.r ?_
        refine Thn.r ?_
        refine Rt (by repeat (first | exact ResV.nil | apply ResV.tmp rfl | apply ResV.cell rfl (by repeat (first | exact Lds.one rfl | (apply Lds.all; (first | rfl | assumption | (simp <;> fail))) | exact Lds.ione0 | exact Lds.ione rfl | (apply Lds.iall; (first | rfl | assumption | (simp <;> fail))) | apply Lds.next)))) ⟨⟨true, fun h => by cases h⟩, rfl, rfl⟩
      · refine Wp.seq (Wsr (Ls (Rdo.move rfl) (Ls (Rdo.move rfl) (Ls (Rdo.lenSlice rfl) (Ls (Rdo.lti rfl rfl) (Ls (Rdo.move rfl) (Lg rfl rfl (Lw rfl rfl (Rdo.move rfl) (Lw rfl rfl (Rdo.lti rfl rfl) (Ls (Rdo.pick_t rfl rfl) (Lnt (cK rfl (Wp.skip ?_)))))))))))))
        refine Thn.n (Wp.seq (Wp.block (Wsr (Ls (Rdo.move rfl) ?_))))
        refine Ls (Rdo.add64 rfl rfl (by first | omega | (dsimp only; omega))) ?_
        refine Ls (Rdo.move rfl) (Ls (Rdo.move rfl) ?_)
        refine Ls (Rdo.indexSlice rfl rfl (by omega)) ?_
        refine Ls (Rdo.fieldAddr rfl) (Ls (Rdo.load rfl (Lds.ione rfl)) (Ls (Rdo.lenVs rfl) ?_))
        refine Ls (Rdo.add64 rfl rfl (by first | omega | (dsimp only; omega))) ?_
        refine Ls (Rdo.assign rfl) (Lnt (Wsr (Ls (Rdo.move rfl) (Ls (Rdo.gti rfl rfl) (Lnt (cL rfl (Wp.skip (Blk.n (Thn.n (Wp.region (Ls (Rdo.move rfl) ?_)))))))))))
        refine Ls (Rdo.succ rfl rfl (by omega)) ?_
        refine Ls (Rdo.assign rfl) (Lnt ?_)
        exact ⟨k - 1, _, _, by omega, ⟨i + 1, n + 1 + (x.name.length : Int), by omega, by omega, hto.succ hat (by omega), rfl, rfl⟩, (by repeat (first | exact trivial | refine ⟨rfl, ?_⟩)), Gk⟩
    · refine Wp.seq (Wsr (Ls (Rdo.move rfl) (Ls (Rdo.move rfl) (Ls (Rdo.lenSlice rfl) (Ls (Rdo.lti rfl rfl) (Ls (Rdo.move rfl) (Lg rfl rfl (Lw rfl rfl (Rdo.move rfl) (Lw rfl rfl (Rdo.lti rfl rfl) (Ls (Rdo.pick_t rfl rfl) (Lnt (cL rfl ?_))))))))))))
      refine Wp.exit ?_
      refine Thn.x ?_
      refine Thn.x ?_
      refine Blk.here ?_
      refine Thn.n (Wsr (Ls (Rdo.assign rfl) (Lnt (Wp.ret ?_))))
      refine Rt (by repeat (first | exact ResV.nil | apply ResV.tmp rfl | apply ResV.cell rfl (by repeat (first | exact Lds.one rfl | (apply Lds.all; (first | rfl | assumption | (simp <;> fail))) | exact Lds.ione0 | exact Lds.ione rfl | (apply Lds.iall; (first | rfl | assumption | (simp <;> fail))) | apply Lds.next)))) ⟨⟨_, fun _ j a hj => hto j a (by omega)⟩, rfl, rfl⟩
  · have hi' : i = ops.length := by omega
    subst hi'
    refine Wp.seq (Wsr (Ls (Rdo.move rfl) (Ls (Rdo.move rfl) (Ls (Rdo.lenSlice rfl) (Ls (Rdo.lti rfl rfl) (Ls (Rdo.move rfl) (Lf rfl rfl (Lp rfl rfl (Lp rfl rfl (Ls (Rdo.pick_f rfl rfl) (Lnt ?_)))))))))))
    refine Wp.condF rfl ?_
    refine Wp.exit ?_
    refine Thn.x ?_
    refine Thn.x ?_
    refine Blk.here ?_
    refine Thn.n (Wsr (Ls (Rdo.assign rfl) (Lnt (Wp.ret ?_))))
    refine Rt (by repeat (first | exact ResV.nil | apply ResV.tmp rfl | apply ResV.cell rfl (by repeat (first | exact Lds.one rfl | (apply Lds.all; (first | rfl | assumption | (simp <;> fail))) | exact Lds.ione0 | exact Lds.ione rfl | (apply Lds.iall; (first | rfl | assumption | (simp <;> fail))) | apply Lds.next)))) ⟨⟨_, fun _ => hto.all _⟩, rfl, rfl⟩
/-- Operations, one after the other. -/
def run (c : CoS) (ops : List Go.Proofs.YtccgdnocldmjeaaGreatDoor.Op) : CoS := ops.foldl (fun c o => (c.apply o).2.2) c
theorem run_snoc (c : CoS) (ops : List Go.Proofs.YtccgdnocldmjeaaGreatDoor.Op) (o : Go.Proofs.YtccgdnocldmjeaaGreatDoor.Op) : run c (ops ++ [o]) = ((run c ops).apply o).2.2 := by simp [run]
theorem run_Ok (ops : List Go.Proofs.YtccgdnocldmjeaaGreatDoor.Op) : ∀ {k : Nat} {c : CoS}, c.Ok k → (run c ops).Ok (k + ops.length) := by
  induction ops with
  | nil => intro k c h; exact h
  | cons o ops ih =>
    intro k c h
    have h2 := ih (apply_Ok h o)
    rw [show k + 1 + ops.length = k + (o :: ops).length by simp; omega] at h2
    exact h2
theorem run_Pa (ops : List Go.Proofs.YtccgdnocldmjeaaGreatDoor.Op) : ∀ {c : CoS}, PaL c.prods → PaL (run c ops).prods := by
  induction ops with
  | nil => intro c h; exact h
  | cons o ops ih =>
    intro c h
    exact ih (apply_Pa h o)
theorem apply_new_eq {c : CoS} {o : Go.Proofs.YtccgdnocldmjeaaGreatDoor.Op} (ho : okOp o) (ha : alook c.answers (o.client, o.seq) = none) :
    c.apply o = ((c.does o).1, (c.does o).2.1, { (c.does o).2.2 with answers := c.answers ++ [((o.client, o.seq), (c.does o).1)] }) := by
  unfold CoS.apply
  rw [if_pos ho, ha]
  simp only [does_answers]
end Go.Proofs.YtccgdnocldmjeaaGreatDoor
namespace Go.Proofs.YtccgdnocldmjeaaGreatDoor
open Go
set_option maxHeartbeats 4000000
set_option linter.unusedSimpArgs false
set_option linter.unusedVariables false
set_option maxRecDepth 20000
def marksB (ms : List Mark) : List UInt8 := (ms.map markB).flatten
theorem marksB_snoc (ms : List Mark) (m : Mark) : marksB (ms ++ [m]) = marksB ms ++ markB m := by simp [marksB]
theorem marksB_len (ms : List Mark) : (marksB ms).length ≤ 45 * ms.length := by
  induction ms with
  | nil => simp [marksB]
  | cons m ms ih =>
    have := markB_len m
    simp only [marksB, List.map_cons, List.flatten_cons, List.length_append, List.length_cons] at ih ⊢
    omega
abbrev hashV (h : List Int) : Value := .agg (h.map v8).toArray
/-- The digest of a coordinator's marks. -/
def CoS.sum (c : CoS) : List Int := dSum (marksB c.marks)
theorem sum_nil : Trip Tryz.prog 19 [.pointer none] [] (fun r l => r = hashV (List.replicate 32 0) ∧ l = []) := by
  refine Trip.of_body Tryz.func19 rfl Tryz.ntmps19 Tryz.results19 rfl ?_
  refine Wsr ?_
  (refine WpL.step (Stp.alloc rfl ?_); intro nb2)
  refine Lnt (Wp.seq (Wsr (Ls (Rdo.move rfl) (Ls (Rdo.eqnil rfl rfl) (Lnt ?_)))))
  refine Wp.condT rfl ?_
  refine Wsr (Ls (Rdo.bldArr0) ?_)
  refine WpL.step (St rfl rfl (VC.ag _) ?_)
  refine Lnt (Wp.ret ?_)
  refine Thn.r ?_
  refine Rt (ResV.cell rfl (by repeat (first | exact Lds.one rfl | (apply Lds.all; (first | rfl | assumption | (simp <;> fail))) | exact Lds.ione0 | exact Lds.ione rfl | (apply Lds.iall; (first | rfl | assumption | (simp <;> fail))) | apply Lds.next)) ResV.nil) ⟨rfl, rfl⟩
theorem rowA_cap {t : TypeId} {sz n c : Nat} {a : Option Addr} {xs : List Value} {r : Res} (h : rowA t sz (.slice a n c) n xs r) : n ≤ c := by
  unfold rowA at h
  rcases h.2 with ⟨h1, h2⟩ | ⟨b, o, cap, cur, h1, _, h3, _⟩
  · omega
  · simp only [Value.slice.injEq, true_and] at h1
    omega
theorem marks_split {ms : List Mark} {i : Nat} {m : Mark} (h : ms[i]? = some m) : (ms.map markC).flatten = ((ms.take i).map markC).flatten ++ (markC m ++ ((ms.drop (i + 1)).map markC).flatten) := by
  obtain ⟨hi, he⟩ := List.getElem?_eq_some_iff.1 h
  conv => lhs; rw [← List.take_append_drop i ms, List.drop_eq_getElem_cons hi, he]
  simp
abbrev smE (b : Nat) (mvv : Value) (n nh : Nat) (a : Option Addr) (bl cp i : Nat) : Env := [(0, vp b 0), (2, vp nh 0), (3, .slice a bl cp), (14, mvv), (15, .int .i64 n), (16, vi i)]
theorem csum_ok (b : Nat) (c : CoS) (hm : c.marks.length ≤ 1000000) : Trip Tryz.prog 19 [vp b 0] [coA b c] (fun r l => r = hashV c.sum ∧ l = [coA b c]) := by
  obtain ⟨Z, hZ⟩ : ∃ Z, Z = dSum (marksB c.marks) := ⟨_, rfl⟩
  have hZ2 : c.sum = Z := by rw [hZ]; rfl
  have hz1 : (Z.map (Value.int .u8)).length = 32 := by rw [List.length_map, hZ]; unfold dSum; exact dOut_len _ _
  have hz2 : oneCells (Z.map (Value.int .u8)) := by
    intro v hv
    obtain ⟨x, _, rfl⟩ := List.mem_map.1 hv
    rfl
  rw [hZ2]
  clear hZ2
  refine Trip.ghE coA_open ?_
  rintro ⟨tb, mb, db, ab, qs, mv⟩ hq
  simp only [coX, List.cons_append, List.nil_append] at hq ⊢
  refine Trip.get (Pk.next (Pk.next (Pk.next (Pk.next Pk.here)))) (fun r => rowA_shape) ?_
  rintro ⟨ma, mc, rfl⟩
  refine Trip.of_body Tryz.func19 rfl Tryz.ntmps19 Tryz.results19 rfl ?_
  refine Wsr ?_
  (refine WpL.step (Stp.alloc rfl ?_); intro nb2)
  refine Lnt (Wp.seq (Wsr (Ls (Rdo.move rfl) (Ls (Rdo.eqnil rfl rfl) (Lnt ?_)))))
  refine Wp.condF rfl ?_
  refine Wp.skip (Thn.n (Wsr (Ls (Rdo.assign rfl) (Lnt (Wp.seq (Wsr (Ls (Rdo.move rfl) (Ls (Rdo.nilCheck rfl) (Ls (Rdo.fieldAddr0 rfl) (Ls (Rdo.load rfl (Lds.next (Lds.one rfl))) (Ls (Rdo.lenSlice rfl) (Ls (Rdo.move rfl) (Lnt ?_)))))))))))))
  refine Wp.block ?_
  refine Wp.loopE (fun k e h => ∃ (i : Nat) (a : Option Addr) (cp : Nat), i + k = c.marks.length ∧ e = smE b (.slice ma c.marks.length mc) c.marks.length nb2 a (marksB (c.marks.take i)).length cp i ∧
      h = rowA 5 1 (.slice a (marksB (c.marks.take i)).length cp) (marksB (c.marks.take i)).length (bytesC (marksB (c.marks.take i))) :: cel nb2 65 (List.replicate 32 (.int .u8 0)) :: coX b c ⟨tb, mb, db, ab, qs, .slice ma c.marks.length mc⟩) c.marks.length
    (e0 := smE b (.slice ma c.marks.length mc) c.marks.length nb2 none 0 0 0) (l0 := rowA 5 1 (.slice none 0 0) 0 [] :: cel nb2 65 (List.replicate 32 (.int .u8 0)) :: coX b c ⟨tb, mb, db, ab, qs, .slice ma c.marks.length mc⟩) (by repeat (first | exact trivial | refine ⟨rfl, ?_⟩)) (by repeat (first | exact trivial | refine ⟨rfl, ?_⟩)) (Gh.trans (Gh.nil 5 1) Gk) ⟨0, none, 0, by omega, rfl, rfl⟩ ?_
  rintro k e h ⟨i, a, cp, hik, rfl, rfl⟩
  have hbl := marksB_len (c.marks.take i)
  rw [List.length_take] at hbl
  by_cases hi : i < c.marks.length
  · have hi' : (i : Int) < c.marks.length := by omega
    have hM : c.marks[i]? = some c.marks[i] := List.getElem?_eq_getElem hi
    have hsp := marks_split hM
    have hpl : (((c.marks.take i).map markC).flatten).length = i * 4 := by
      have : ∀ l : List Mark, ((l.map markC).flatten).length = l.length * 4 := by
        intro l
        induction l with
        | nil => rfl
        | cons x l ih => simp [ih]; omega
      rw [this, List.length_take, Nat.min_eq_left (by omega)]
    have htk : marksB (c.marks.take (i + 1)) = marksB (c.marks.take i) ++ markB c.marks[i] := by
      rw [List.take_add_one, hM, Option.toList_some, marksB_snoc]
    have s1 := encMark_ok c.marks[i]
    have hml := markB_len c.marks[i]
    generalize c.marks[i] = M at *
    refine Wp.get (Pk.next (Pk.next (Pk.next (Pk.next (Pk.next (Pk.next Pk.here)))))) (fun r => rowA_at i hi) ?_
    rintro ⟨rb, ro, rc, hv⟩
    simp only [Value.slice.injEq, true_and] at hv
    obtain ⟨rfl, rfl⟩ := hv
    simp only [coX]
    clear hZ
    refine Wsr (Ls (Rdo.lti rfl rfl) (Lnt (Wp.seq (cK rfl (Wp.skip (Thn.n (Wp.seq (Wp.block (Wsr ?_)))))))))
    refine Ls (Rdo.indexSlice rfl rfl (by omega)) ?_
    refine Ls (Rdo.load rfl (Lds.next (Lds.next (Lds.next (Lds.next (Lds.next (Lds.next (Lds.row (by assumption) (by first | assumption | omega | (simp <;> omega)) (by first | assumption | rfl))))))))) ?_
    (refine WpL.step (Stp.alloc rfl ?_); intro nb15)
    refine WpL.step (St rfl rfl (VC.ag _) ?_)
    refine Lnt (Wsr ?_)
    refine Ls (Rdo.load rfl Ld) ?_
    refine WpL.step (Sc (s1) rfl ?_)
    rintro _ _ ⟨v23_0, ⟨v23_1, ⟨rfl, rfl⟩⟩⟩
    refine Ll ?_
    refine Ls (Rdo.move rfl) (Ls (Rdo.extract rfl rfl) (Ls (Rdo.extract rfl rfl) (Ls (Rdo.assign rfl) (Ls (Rdo.assign rfl) (Lnt (Wp.region (Ls (Rdo.move rfl) (Ls (Rdo.move rfl) ?_))))))))
    refine WpL.step (Stp.appendP rfl rfl (Pk.next (Pk.next Pk.here)) Src.frozen (by simp [bytesC_length]) (oneCells_bytesC (markB M)) (by omega) (by omega) rfl (by rfl) ?_)
    intro na nc
    have e1 : (marksB (c.marks.take i)).length + (markB M).length = (marksB (c.marks.take (i + 1))).length := by rw [htk, List.length_append]
    have e2 : bytesC (marksB (c.marks.take i)) ++ bytesC (markB M) = bytesC (marksB (c.marks.take (i + 1))) := by rw [htk]; simp [bytesC]
    rw [e1, e2]
    refine Ls (Rdo.assign rfl) (WpL.nil (Blk.n (Thn.n (Wp.region ?_))))
    refine Ls (Rdo.succ rfl rfl (by omega)) ?_
    refine Ls (Rdo.move rfl) (Lnt ?_)
    exact ⟨k - 1, _, _, by omega, ⟨i + 1, na, nc, by omega, rfl, rfl⟩, (by repeat (first | exact trivial | refine ⟨rfl, ?_⟩)), Gk⟩
  · have hfull : c.marks.take i = c.marks := List.take_of_length_le (by omega)
    rw [hfull] at hbl ⊢
    refine Wp.get Pk.here (fun r => rowA_cap) ?_
    intro hcap
    have s2 := sum_ok a cp (marksB c.marks) (by omega) hcap
    rw [← hZ] at s2
    clear hZ
    refine Wp.gh (Gh.ice Pk.here) ?_
    simp only [coX]
    refine Wsr (Ls (Rdo.lti rfl rfl) (Lnt (Wp.seq (cL rfl ?_))))
    refine Wp.exit ?_
    refine Thn.x ?_
    refine Thn.x ?_
    refine Blk.here ?_
    refine Thn.n (Wsr (Ls (Rdo.move rfl) ?_))
    refine WpL.step (Sc (s2) rfl ?_)
    rintro _ _ ⟨rfl, rfl⟩
    refine Ll ?_
    refine WpL.step (St rfl rfl (VC.ag _) ?_)
    refine Lnt (Wp.ret ?_)
    exact Ret.now (by repeat (first | exact ResV.nil | apply ResV.tmp rfl | apply ResV.cell rfl (by repeat (first | exact Lds.one rfl | (apply Lds.all; (first | rfl | assumption | (simp <;> fail))) | exact Lds.ione0 | exact Lds.ione rfl | (apply Lds.iall; (first | rfl | assumption | (simp <;> fail))) | apply Lds.next)))) (Gh.trans Gk (coA_shut (l := []) ⟨tb, mb, db, ab, qs, .slice ma c.marks.length mc⟩ hq)) ⟨rfl, rfl⟩
end Go.Proofs.YtccgdnocldmjeaaGreatDoor
namespace Go.Proofs.YtccgdnocldmjeaaGreatDoor
open Go
set_option maxHeartbeats 4000000
set_option linter.unusedSimpArgs false
set_option linter.unusedVariables false
set_option maxRecDepth 20000
theorem repoch_ok (x : Nat) (c : CoS) (n : Int) (h8 : c.prods.length ≤ 8) : Trip Tryz.prog 22 [vp x 0, vi n] [rfA x c] (fun r l => r = .tuple #[vi (c.epoch n).1, vb (c.epoch n).2] ∧ l = [rfA x c]) := by
  refine Trip.ghE rfA_open ?_
  rintro ⟨pv, mv, dv, vs⟩ hvl
  simp only [rfX, List.cons_append, List.nil_append] at hvl ⊢
  refine Trip.get (Pk.next Pk.here) (fun r => rowA_shape) ?_
  rintro ⟨pa, pc, rfl⟩
  unfold CoS.epoch
  by_cases h0 : n < 0
  · rw [if_neg (by omega)]
    refine Trip.of_body Tryz.func22 rfl Tryz.ntmps22 Tryz.results22 rfl ?_
    refine Wsr (Ls (Rdo.assign rfl) (Ls (Rdo.assign rfl) (Lnt (Wp.seq (Wsr (Ls (Rdo.move rfl) (Ls (Rdo.lti rfl rfl) (Ls (Rdo.move rfl) (Lg rfl rfl (Lp rfl rfl (Lp rfl rfl (Lp rfl rfl (Lp rfl rfl ?_)))))))))))))
    refine Lp rfl rfl (Lp rfl rfl (Lp rfl rfl (Ls (Rdo.pick_t rfl rfl) (Lnt ?_))))
    refine Wp.condT rfl ?_
    refine Wsr (Ls (Rdo.assign rfl) (Ls (Rdo.assign rfl) (Lnt (Wp.ret ?_))))
    refine Thn.r ?_
    exact Ret.now (by repeat (first | exact ResV.nil | apply ResV.tmp rfl | apply ResV.cell rfl (by repeat (first | exact Lds.one rfl | (apply Lds.all; (first | rfl | assumption | (simp <;> fail))) | exact Lds.ione0 | exact Lds.ione rfl | (apply Lds.iall; (first | rfl | assumption | (simp <;> fail))) | apply Lds.next)))) (Gh.trans Gk (rf_close (l := []) c rfl rfl rfl rfl rfl)) ⟨rfl, rfl⟩
  · by_cases h1 : n ≥ c.prods.length
    · rw [if_neg (by omega)]
      refine Trip.of_body Tryz.func22 rfl Tryz.ntmps22 Tryz.results22 rfl ?_
      refine Wsr (Ls (Rdo.assign rfl) (Ls (Rdo.assign rfl) (Lnt (Wp.seq (Wsr (Ls (Rdo.move rfl) (Ls (Rdo.lti rfl rfl) (Ls (Rdo.move rfl) (Lf rfl rfl (Lw rfl rfl (Rdo.move rfl) (Lw rfl rfl (Rdo.move rfl) (Lw rfl rfl (Rdo.nilCheck rfl) (Lw rfl rfl (Rdo.fieldAddr0 rfl) ?_)))))))))))))
      refine Lw rfl rfl (Rdo.load rfl (Lds.one rfl)) (Lw rfl rfl (Rdo.lenSlice rfl) (Lw rfl rfl (Rdo.gei rfl rfl) (Ls (Rdo.pick_f rfl rfl) (Lnt (cK rfl (Wsr (Ls (Rdo.assign rfl) (Ls (Rdo.assign rfl) (Lnt (Wp.ret ?_))))))))))
      refine Thn.r ?_
      exact Ret.now (by repeat (first | exact ResV.nil | apply ResV.tmp rfl | apply ResV.cell rfl (by repeat (first | exact Lds.one rfl | (apply Lds.all; (first | rfl | assumption | (simp <;> fail))) | exact Lds.ione0 | exact Lds.ione rfl | (apply Lds.iall; (first | rfl | assumption | (simp <;> fail))) | apply Lds.next)))) (Gh.trans Gk (rf_close (l := []) c rfl rfl rfl rfl rfl)) ⟨rfl, rfl⟩
    · rw [if_pos (by omega)]
      obtain ⟨i, rfl⟩ : ∃ i : Nat, n = i := ⟨n.toNat, by omega⟩
      have hil : i < c.prods.length := by omega
      have hpi := getD_get (ps := c.prods) (i := i) hil
      rw [Int.toNat_natCast]
      generalize c.prods.getD i prod0 = p at *
      obtain ⟨v, hv⟩ : ∃ v, vs[i]? = some v := ⟨vs[i]'(by omega), List.getElem?_eq_getElem (by omega)⟩
      have f1 := rps_at (f := 1) hpi hv rfl
      refine Trip.get (Pk.next Pk.here) (fun r => rowA_at i hil) ?_
      rintro ⟨pb, po, pc2, hv1⟩
      simp only [Value.slice.injEq, true_and] at hv1
      obtain ⟨rfl, rfl⟩ := hv1
      refine Trip.of_body Tryz.func22 rfl Tryz.ntmps22 Tryz.results22 rfl ?_
      refine Wsr (Ls (Rdo.assign rfl) (Ls (Rdo.assign rfl) (Lnt (Wp.seq (Wsr (Ls (Rdo.move rfl) (Ls (Rdo.lti rfl rfl) (Ls (Rdo.move rfl) (Lw rfl rfl (Rdo.move rfl) (Lw rfl rfl (Rdo.move rfl) (Lw rfl rfl (Rdo.nilCheck rfl) (Lw rfl rfl (Rdo.fieldAddr0 rfl) (Lw rfl rfl (Rdo.load rfl (Lds.one rfl)) ?_)))))))))))))
      refine Lw rfl rfl (Rdo.lenSlice rfl) (Lw rfl rfl (Rdo.gei rfl rfl) (Ls (Rdo.pick_f rfl rfl) (Lnt (cL rfl (Wp.skip (Thn.n (Wsr (Ls (Rdo.move rfl) (Ls (Rdo.nilCheck rfl) (Ls (Rdo.fieldAddr0 rfl) (Ls (Rdo.load rfl (Lds.one rfl)) (Ls (Rdo.move rfl) ?_))))))))))))
      refine Ls (Rdo.indexSlice rfl rfl (by omega)) ?_
      refine Ls (Rdo.fieldAddr rfl) ?_
      refine Ls (Rdo.load rfl (Lds.next (Lds.rowF (by assumption)))) ?_
      refine Ls (Rdo.assign rfl) (Ls (Rdo.assign rfl) (Lnt (Wp.ret ?_)))
      exact Ret.now (by repeat (first | exact ResV.nil | apply ResV.tmp rfl | apply ResV.cell rfl (by repeat (first | exact Lds.one rfl | (apply Lds.all; (first | rfl | assumption | (simp <;> fail))) | exact Lds.ione0 | exact Lds.ione rfl | (apply Lds.iall; (first | rfl | assumption | (simp <;> fail))) | apply Lds.next)))) (Gh.trans Gk (rf_close (l := []) c rfl rfl rfl rfl rfl)) ⟨rfl, rfl⟩
abbrev rsE (x nh : Nat) (a : Option Addr) (bl cp i : Nat) : Env := [(0, vp x 0), (2, vp nh 0), (3, .slice a bl cp), (4, vi i)]
abbrev rsL (x nh : Nat) (a : Option Addr) (cp : Nat) (B : List UInt8) (pv mv dv : Value) (n : Int) (ms : List Mark) : List HP := [rowA 5 1 (.slice a B.length cp) B.length (bytesC B), cel nh 65 (List.replicate 32 (.int .u8 0)), cel x 31 (rcC pv mv dv n), markA mv ms]
theorem rsum10_op (x : Nat) (pv mv dv : Value) (n : Int) (ms : List Mark) (Z : List Int) (hZ : Z = dSum (marksB ms)) (hm : ms.length ≤ 1000000) : Trip Tryz.prog 20 [vp x 0] [cel x 31 (rcC pv mv dv n), markA mv ms] (fun r l => r = hashV Z ∧ l = [cel x 31 (rcC pv mv dv n), markA mv ms]) := by
  refine Trip.get (Pk.next Pk.here) (fun r => rowA_shape) ?_
  rintro ⟨ma, mc, rfl⟩
  refine Trip.of_body Tryz.func20 rfl Tryz.ntmps20 Tryz.results20 rfl ?_
  refine Wsr ?_
  (refine WpL.step (Stp.alloc rfl ?_); intro nb2)
  refine Lnt (Wsr (Ls (Rdo.assign rfl) (Lnt (Wp.seq (Wsr (Ls (Rdo.assign rfl) (Lnt (Wp.block ?_))))))))
  refine Wp.loopE (fun k e h => ∃ (i : Nat) (a : Option Addr) (cp : Nat), i + k = ms.length ∧ e = rsE x nb2 a (marksB (ms.take i)).length cp i ∧ h = rsL x nb2 a cp (marksB (ms.take i)) pv (.slice ma ms.length mc) dv n ms) ms.length
    (e0 := rsE x nb2 none 0 0 0) (l0 := rsL x nb2 none 0 [] pv (.slice ma ms.length mc) dv n ms) (by repeat (first | exact trivial | refine ⟨rfl, ?_⟩)) (by repeat (first | exact trivial | refine ⟨rfl, ?_⟩)) (Gh.trans (Gh.nil 5 1) Gk) ⟨0, none, 0, by omega, rfl, rfl⟩ ?_
  rintro k e h ⟨i, a, cp, hik, rfl, rfl⟩
  have hbl := marksB_len (ms.take i)
  rw [List.length_take] at hbl
  simp only [rsL]
  by_cases hi : i < ms.length
  · have hi' : (i : Int) < ms.length := by omega
    have hM : ms[i]? = some ms[i] := List.getElem?_eq_getElem hi
    have hsp := marks_split hM
    have hpl : (((ms.take i).map markC).flatten).length = i * 4 := by rw [marksC_length, List.length_take, Nat.min_eq_left (by omega)]
    have htk : marksB (ms.take (i + 1)) = marksB (ms.take i) ++ markB ms[i] := by
      rw [List.take_add_one, hM, Option.toList_some, marksB_snoc]
    have s1 := rEncMark_ok ms[i]
    have hml := markB_len ms[i]
    generalize ms[i] = M at *
    refine Wp.get (Pk.next (Pk.next (Pk.next Pk.here))) (fun r => rowA_at i hi) ?_
    rintro ⟨rb, ro, rc, hv⟩
    simp only [Value.slice.injEq, true_and] at hv
    obtain ⟨rfl, rfl⟩ := hv
    clear hZ
    refine Wp.seq (Wsr (Ls (Rdo.move rfl) (Ls (Rdo.move rfl) (Ls (Rdo.nilCheck rfl) (Ls (Rdo.fieldAddr0 rfl) (Ls (Rdo.load rfl (Lds.next (Lds.next (Lds.one rfl)))) (Ls (Rdo.lenSlice rfl) (Ls (Rdo.lti rfl rfl) (Lnt (cK rfl (Wp.skip (Thn.n (Wp.seq ?_)))))))))))))
    refine Wp.block (Wsr (Ls (Rdo.move rfl) (Ls (Rdo.nilCheck rfl) (Ls (Rdo.fieldAddr0 rfl) (Ls (Rdo.load rfl (Lds.next (Lds.next (Lds.one rfl)))) (Ls (Rdo.move rfl) ?_))))))
    refine Ls (Rdo.indexSlice rfl rfl (by omega)) ?_
    refine Ls (Rdo.load rfl (Lds.next (Lds.next (Lds.next (Lds.row (by assumption) (by first | assumption | omega | (simp <;> omega)) (by first | assumption | rfl)))))) ?_
    refine WpL.step (Sc (s1) rfl ?_)
    rintro _ _ ⟨v27_0, ⟨v27_1, ⟨rfl, rfl⟩⟩⟩
    refine Ll ?_
    refine Ls (Rdo.move rfl) (Ls (Rdo.extract rfl rfl) (Ls (Rdo.extract rfl rfl) (Ls (Rdo.assign rfl) (Ls (Rdo.assign rfl) (Lnt (Wp.region (Ls (Rdo.move rfl) (Ls (Rdo.move rfl) ?_))))))))
    refine WpL.step (Stp.appendP (k := (marksB (ms.take i)).length) (xs := bytesC (marksB (ms.take i))) rfl rfl (by repeat (first | exact Pk.here | apply Pk.next)) Src.frozen (by simp [bytesC_length]) (oneCells_bytesC (markB M)) (by omega) (by omega) rfl (by rfl) ?_)
    intro na nc
    have e1 : (marksB (ms.take i)).length + (markB M).length = (marksB (ms.take (i + 1))).length := by rw [htk, List.length_append]
    have e2 : bytesC (marksB (ms.take i)) ++ bytesC (markB M) = bytesC (marksB (ms.take (i + 1))) := by rw [htk]; simp [bytesC]
    rw [e1, e2]
    refine Ls (Rdo.assign rfl) (WpL.nil (Blk.n (Thn.n (Wp.region (Ls (Rdo.move rfl) ?_)))))
    refine Ls (Rdo.succ rfl rfl (by omega)) ?_
    refine Ls (Rdo.assign rfl) (Lnt ?_)
    exact ⟨k - 1, _, _, by omega, ⟨i + 1, na, nc, by omega, rfl, rfl⟩, (by repeat (first | exact trivial | refine ⟨rfl, ?_⟩)), Gk⟩
  · have hfull : ms.take i = ms := List.take_of_length_le (by omega)
    rw [hfull] at hbl ⊢
    have s2 := rSum_ok (.slice a (marksB ms).length cp) (marksB ms) (by omega)
    have hz1 : (Z.map (Value.int .u8)).length = 32 := by rw [List.length_map, hZ]; unfold dSum; exact dOut_len _ _
    have hz2 : oneCells (Z.map (Value.int .u8)) := by
      intro v hv
      obtain ⟨x, _, rfl⟩ := List.mem_map.1 hv
      rfl
    rw [← hZ] at s2
    clear hZ
    refine Wp.gh (Gh.ice Pk.here) ?_
    refine Wp.seq (Wsr (Ls (Rdo.move rfl) (Ls (Rdo.move rfl) (Ls (Rdo.nilCheck rfl) (Ls (Rdo.fieldAddr0 rfl) (Ls (Rdo.load rfl (Lds.next (Lds.next (Lds.one rfl)))) (Ls (Rdo.lenSlice rfl) (Ls (Rdo.lti rfl rfl) (Lnt (cL rfl ?_))))))))))
    refine Wp.exit ?_
    refine Thn.x ?_
    refine Thn.x ?_
    refine Blk.here ?_
    refine Thn.n (Wsr (Ls (Rdo.move rfl) ?_))
    refine WpL.step (Sc (s2) rfl ?_)
    rintro _ _ ⟨rfl, rfl⟩
    refine Ll ?_
    refine WpL.step (St rfl rfl (VC.ag _) ?_)
    refine Lnt (Wp.ret ?_)
    refine Rt (ResV.cell rfl (by repeat (first | exact Lds.one rfl | (apply Lds.all; (first | rfl | assumption | (simp <;> fail))) | exact Lds.ione0 | exact Lds.ione rfl | (apply Lds.iall; (first | rfl | assumption | (simp <;> fail))) | apply Lds.next)) ResV.nil) ⟨rfl, rfl⟩
/-- The parts below k, in order. -/
def partsTo (ps : List Int) : Nat → List Int
  | 0 => []
  | k + 1 => partsTo ps k ++ ps.filter (fun y : Int => decide (y = (k : Int)))
theorem partsTo_mem {ps : List Int} {k : Nat} {y : Int} (h : y ∈ partsTo ps k) : y ∈ ps ∧ y < k := by
  induction k with
  | zero => simp [partsTo] at h
  | succ k ih =>
    rw [partsTo] at h
    rcases List.mem_append.1 h with h | h
    · have := ih h; exact ⟨this.1, by omega⟩
    · obtain ⟨h1, h2⟩ := List.mem_filter.1 h
      simp only [decide_eq_true_eq] at h2
      exact ⟨h1, by omega⟩
theorem partsTo_sorted (ps : List Int) (k : Nat) : (partsTo ps k).Pairwise (· ≤ ·) := by
  induction k with
  | zero => exact List.Pairwise.nil
  | succ k ih =>
    rw [partsTo, List.pairwise_append]
    refine ⟨ih, ?_, fun a ha b hb => ?_⟩
    · rw [List.pairwise_iff_forall_sublist]
      intro a b hab
      have ha : a ∈ ps.filter (fun y : Int => decide (y = (k : Int))) := hab.subset (by simp)
      have hb : b ∈ ps.filter (fun y : Int => decide (y = (k : Int))) := hab.subset (by simp)
      have h1 := (List.mem_filter.1 ha).2
      have h2 := (List.mem_filter.1 hb).2
      simp only [decide_eq_true_eq] at h1 h2
      omega
    · have h1 := partsTo_mem ha
      have h2 := (List.mem_filter.1 hb).2
      simp only [decide_eq_true_eq] at h2
      omega
theorem partsTo_count (ps : List Int) (k : Nat) (y : Int) : (partsTo ps k).count y = if 0 ≤ y ∧ y < k then ps.count y else 0 := by
  induction k with
  | zero => rw [partsTo, if_neg (by omega)]; rfl
  | succ k ih =>
    rw [partsTo, List.count_append, ih]
    by_cases h : y = k
    · subst h
      rw [if_neg (by omega), if_pos (by omega), Nat.zero_add]
      rw [List.count_filter (by simp)]
    · have h2 : (ps.filter (fun z : Int => decide (z = (k : Int)))).count y = 0 := List.count_eq_zero.2 fun hm => h (by simpa using (List.mem_filter.1 hm).2)
      rw [h2, Nat.add_zero]
      by_cases h3 : 0 ≤ y ∧ y < k
      · rw [if_pos h3, if_pos (by omega)]
      · rw [if_neg h3, if_neg (by omega)]
theorem partsTo_sort {ps : List Int} (h : partsOk ps) : partsTo ps 4 = sortI ps := by
  refine List.Perm.eq_of_pairwise (fun a b _ _ h1 h2 => Int.le_antisymm h1 h2) (partsTo_sorted ps 4) (sortI_sorted ps) ?_
  refine List.Perm.trans ?_ (sortI_perm ps).symm
  rw [List.perm_iff_count]
  intro y
  rw [partsTo_count]
  split
  · rfl
  · rename_i hn
    exact (List.count_eq_zero.2 fun hm => hn (by have := h.2 y hm; omega)).symm
end Go.Proofs.YtccgdnocldmjeaaGreatDoor
namespace Go.Proofs.YtccgdnocldmjeaaGreatDoor
open Go
set_option maxHeartbeats 4000000
set_option linter.unusedSimpArgs false
set_option linter.unusedVariables false
set_option maxRecDepth 20000
theorem ropen_none (x : Nat) (c : CoS) (n : Int) (h8 : c.prods.length ≤ 8) (hn : ¬ (0 ≤ n ∧ n < c.prods.length ∧ (c.prods.getD n.toNat prod0).opn = true)) : Trip Tryz.prog 24 [vp x 0, vi n] [rfA x c]
    (fun r l => ∃ v, r = .tuple #[vi (c.open_ n).1, v, vb (c.open_ n).2.2] ∧ l = [rfA x c, rowA 3 1 v (c.open_ n).2.1.length ((c.open_ n).2.1.map vi)]) := by
  have hop : c.open_ n = (0, [], false) := by unfold CoS.open_; rw [if_neg hn]
  rw [hop]
  refine Trip.ghE rfA_open ?_
  rintro ⟨pv, mv, dv, vs⟩ hvl
  simp only [rfX, List.cons_append, List.nil_append] at hvl ⊢
  refine Trip.get (Pk.next Pk.here) (fun r => rowA_shape) ?_
  rintro ⟨pa, pc, rfl⟩
  by_cases h0 : n < 0
  · refine Trip.of_body Tryz.func24 rfl Tryz.ntmps24 Tryz.results24 rfl ?_
    refine Wsr (Ls (Rdo.assign rfl) (Ls (Rdo.assign rfl) (Ls (Rdo.assign rfl) (Lnt (Wp.seq (Wsr (Ls (Rdo.move rfl) (Ls (Rdo.lti rfl rfl) (Ls (Rdo.move rfl) (Lg rfl rfl (Lp rfl rfl (Lp rfl rfl (Lp rfl rfl ?_)))))))))))))
    refine Lp rfl rfl (Lp rfl rfl (Lp rfl rfl (Lp rfl rfl (Ls (Rdo.pick_t rfl rfl) (Ls (Rdo.move rfl) (Lp rfl rfl (Lp rfl rfl (Lp rfl rfl (Lp rfl rfl (Lp rfl rfl (Lp rfl rfl (Lp rfl rfl (Lp rfl rfl ?_)))))))))))))
    refine Lp rfl rfl (Ls (Rdo.pick_t rfl rfl) (Lnt ?_))
    refine Wp.condT rfl ?_
    refine Wsr (Ls (Rdo.assign rfl) (Ls (Rdo.assign rfl) (Ls (Rdo.assign rfl) (Lnt (Wp.ret ?_)))))
    refine Thn.r ?_
    exact Ret.now (by repeat (first | exact ResV.nil | apply ResV.tmp rfl | apply ResV.cell rfl (by repeat (first | exact Lds.one rfl | (apply Lds.all; (first | rfl | assumption | (simp <;> fail))) | exact Lds.ione0 | exact Lds.ione rfl | (apply Lds.iall; (first | rfl | assumption | (simp <;> fail))) | apply Lds.next)))) (Gh.trans Gk (Gh.trans (rf_close (l := []) c rfl rfl rfl rfl rfl) (Gh.trans (Gh.nil 3 1) (Gh.perm (List.Perm.swap _ _ _))))) ⟨_, rfl, rfl⟩
  · by_cases h1 : n ≥ c.prods.length
    · refine Trip.of_body Tryz.func24 rfl Tryz.ntmps24 Tryz.results24 rfl ?_
      refine Wsr (Ls (Rdo.assign rfl) (Ls (Rdo.assign rfl) (Ls (Rdo.assign rfl) (Lnt (Wp.seq (Wsr (Ls (Rdo.move rfl) (Ls (Rdo.lti rfl rfl) (Ls (Rdo.move rfl) (Lf rfl rfl (Lw rfl rfl (Rdo.move rfl) (Lw rfl rfl (Rdo.move rfl) (Lw rfl rfl (Rdo.nilCheck rfl) ?_)))))))))))))
      refine Lw rfl rfl (Rdo.fieldAddr0 rfl) (Lw rfl rfl (Rdo.load rfl (Lds.one rfl)) (Lw rfl rfl (Rdo.lenSlice rfl) (Lw rfl rfl (Rdo.gei rfl rfl) (Ls (Rdo.pick_f rfl rfl) (Ls (Rdo.move rfl) (Lg rfl rfl (Lp rfl rfl (Lp rfl rfl (Lp rfl rfl (Lp rfl rfl (Lp rfl rfl (Lp rfl rfl (Lp rfl rfl ?_)))))))))))))
      refine Lp rfl rfl (Lp rfl rfl (Ls (Rdo.pick_t rfl rfl) (Lnt ?_)))
      refine Wp.condT rfl ?_
      refine Wsr (Ls (Rdo.assign rfl) (Ls (Rdo.assign rfl) (Ls (Rdo.assign rfl) (Lnt (Wp.ret ?_)))))
      refine Thn.r ?_
      exact Ret.now (by repeat (first | exact ResV.nil | apply ResV.tmp rfl | apply ResV.cell rfl (by repeat (first | exact Lds.one rfl | (apply Lds.all; (first | rfl | assumption | (simp <;> fail))) | exact Lds.ione0 | exact Lds.ione rfl | (apply Lds.iall; (first | rfl | assumption | (simp <;> fail))) | apply Lds.next)))) (Gh.trans Gk (Gh.trans (rf_close (l := []) c rfl rfl rfl rfl rfl) (Gh.trans (Gh.nil 3 1) (Gh.perm (List.Perm.swap _ _ _))))) ⟨_, rfl, rfl⟩
    · obtain ⟨i, rfl⟩ : ∃ i : Nat, n = i := ⟨n.toNat, by omega⟩
      have hil : i < c.prods.length := by omega
      have hpi := getD_get (ps := c.prods) (i := i) hil
      have hno : (c.prods.getD i prod0).opn = false := by
        have : ¬ (c.prods.getD i prod0).opn = true := fun h => hn ⟨by omega, by omega, h⟩
        simpa using this
      clear hn
      generalize c.prods.getD i prod0 = p at *
      obtain ⟨v, hv⟩ : ∃ v, vs[i]? = some v := ⟨vs[i]'(by omega), List.getElem?_eq_getElem (by omega)⟩
      have f1 := rps_at (f := 3) hpi hv rfl
      refine Trip.get (Pk.next Pk.here) (fun r => rowA_at i hil) ?_
      rintro ⟨pb, po, pc2, hv1⟩
      simp only [Value.slice.injEq, true_and] at hv1
      obtain ⟨rfl, rfl⟩ := hv1
      refine Trip.of_body Tryz.func24 rfl Tryz.ntmps24 Tryz.results24 rfl ?_
      refine Wsr (Ls (Rdo.assign rfl) (Ls (Rdo.assign rfl) (Ls (Rdo.assign rfl) (Lnt (Wp.seq (Wsr (Ls (Rdo.move rfl) (Ls (Rdo.lti rfl rfl) (Ls (Rdo.move rfl) (Lw rfl rfl (Rdo.move rfl) (Lw rfl rfl (Rdo.move rfl) (Lw rfl rfl (Rdo.nilCheck rfl) (Lw rfl rfl (Rdo.fieldAddr0 rfl) ?_)))))))))))))
      refine Lw rfl rfl (Rdo.load rfl (Lds.one rfl)) (Lw rfl rfl (Rdo.lenSlice rfl) (Lw rfl rfl (Rdo.gei rfl rfl) (Ls (Rdo.pick_f rfl rfl) (Ls (Rdo.move rfl) (Lf rfl rfl (Lw rfl rfl (Rdo.move rfl) (Lw rfl rfl (Rdo.nilCheck rfl) (Lw rfl rfl (Rdo.fieldAddr0 rfl) (Lw rfl rfl (Rdo.load rfl (Lds.one rfl)) (Lw rfl rfl (Rdo.move rfl) ?_))))))))))
      refine Lw rfl rfl (Rdo.indexSlice rfl rfl (by omega)) ?_
      refine Lw rfl rfl (Rdo.fieldAddr rfl) ?_
      refine Lw rfl rfl (Rdo.load rfl (Lds.next (Lds.rowF (by assumption)))) ?_
      refine Lw rfl rfl (Rdo.not rfl) (Ls (Rdo.pick_f rfl rfl) (Lnt (cK rfl (Wsr (Ls (Rdo.assign rfl) (Ls (Rdo.assign rfl) (Ls (Rdo.assign rfl) (Lnt (Wp.ret ?_)))))))))
      refine Thn.r ?_
      exact Ret.now (by repeat (first | exact ResV.nil | apply ResV.tmp rfl | apply ResV.cell rfl (by repeat (first | exact Lds.one rfl | (apply Lds.all; (first | rfl | assumption | (simp <;> fail))) | exact Lds.ione0 | exact Lds.ione rfl | (apply Lds.iall; (first | rfl | assumption | (simp <;> fail))) | apply Lds.next)))) (Gh.trans Gk (Gh.trans (rf_close (l := []) c rfl rfl rfl rfl rfl) (Gh.trans (Gh.nil 3 1) (Gh.perm (List.Perm.swap _ _ _))))) ⟨_, rfl, rfl⟩
abbrev roE (x i : Nat) (a : Option Addr) (n cp q : Nat) : Env := [(0, vp x 0), (1, vi i), (7, .slice a n cp), (8, vi q)]
abbrev riE (x i : Nat) (a : Option Addr) (n cp q j : Nat) : Env := [(0, vp x 0), (1, vi i), (7, .slice a n cp), (8, vi q), (9, vi j)]
abbrev roL (x : Nat) (c : CoS) (m : RfM) (v : Value) (p : Prod) (a : Option Addr) (cp : Nat) (l : List Int) : List HP := rowA 3 1 (.slice a l.length cp) l.length (l.map vi) :: fz (fun g => RdInts g v p.parts) :: rfX x c m
theorem partsTo_len (ps : List Int) (k : Nat) : (partsTo ps k).length ≤ k * ps.length := by
  induction k with
  | zero => simp [partsTo]
  | succ k ih =>
    have := List.length_filter_le (fun y : Int => decide (y = (k : Int))) ps
    rw [partsTo, List.length_append, Nat.succ_mul]
    omega
theorem ropen_some (x : Nat) (c : CoS) (i : Nat) (p : Prod) (h8 : c.prods.length ≤ 8) (hpi : c.prods[i]? = some p) (ho : p.opn = true) (hpa : partsOk p.parts) : Trip Tryz.prog 24 [vp x 0, vi i] [rfA x c]
    (fun r l => ∃ v, r = .tuple #[vi p.last, v, vb true] ∧ l = [rfA x c, rowA 3 1 v (sortI p.parts).length ((sortI p.parts).map vi)]) := by
  have hil : i < c.prods.length := (List.getElem?_eq_some_iff.1 hpi).1
  have hil' : (i : Int) < c.prods.length := by omega
  have h4 := hpa.len
  rw [← partsTo_sort hpa]
  refine Trip.ghE rfA_open ?_
  rintro ⟨pv, mv, dv, vs⟩ hvl
  simp only [rfX, List.cons_append, List.nil_append] at hvl ⊢
  obtain ⟨v, hv⟩ : ∃ v, vs[i]? = some v := ⟨vs[i]'(by omega), List.getElem?_eq_getElem (by omega)⟩
  refine Trip.get (Pk.next Pk.here) (fun r => rowA_at i hil) ?_
  rintro ⟨pb, po, pc, rfl⟩
  refine Trip.get (Pk.next (Pk.next (Pk.next (Pk.next Pk.here)))) (ps_shape hpi hv) ?_
  rintro ⟨va, vc, rfl⟩
  refine Trip.gh (Gh.fzAlso (Ψ := fun g => RdInts g (.slice va p.parts.length vc) p.parts) (Pk.next (Pk.next (Pk.next (Pk.next Pk.here)))) (fun g h => h.2 i p _ hpi hv)) ?_
  have f1 := rps_at (f := 2) hpi hv rfl
  have f2 := rps_at (f := 3) hpi hv rfl
  have f3 := rps_at (f := 4) hpi hv rfl
  refine Trip.of_body Tryz.func24 rfl Tryz.ntmps24 Tryz.results24 rfl ?_
  refine Wsr (Ls (Rdo.assign rfl) (Ls (Rdo.assign rfl) (Ls (Rdo.assign rfl) (Lnt (Wp.seq (Wsr (Ls (Rdo.move rfl) (Ls (Rdo.lti rfl rfl) (Ls (Rdo.move rfl) (Lw rfl rfl (Rdo.move rfl) (Lw rfl rfl (Rdo.move rfl) (Lw rfl rfl (Rdo.nilCheck rfl) (Lw rfl rfl (Rdo.fieldAddr0 rfl) ?_)))))))))))))
  refine Lw rfl rfl (Rdo.load rfl (Lds.next (Lds.next (Lds.one rfl)))) (Lw rfl rfl (Rdo.lenSlice rfl) (Lw rfl rfl (Rdo.gei rfl rfl) (Ls (Rdo.pick_f rfl rfl) (Ls (Rdo.move rfl) (Lf rfl rfl (Lw rfl rfl (Rdo.move rfl) (Lw rfl rfl (Rdo.nilCheck rfl) (Lw rfl rfl (Rdo.fieldAddr0 rfl) (Lw rfl rfl (Rdo.load rfl (Lds.next (Lds.next (Lds.one rfl)))) (Lw rfl rfl (Rdo.move rfl) ?_))))))))))
  refine Lw rfl rfl (Rdo.indexSlice rfl rfl (by omega)) ?_
  refine Lw rfl rfl (Rdo.fieldAddr rfl) ?_
  refine Lw rfl rfl (Rdo.load rfl (Lds.next (Lds.next (Lds.next (Lds.rowF (by assumption)))))) ?_
  refine Lw rfl rfl (Rdo.not rfl) (Ls (Rdo.pick_f rfl rfl) (Lnt (cL rfl (Wp.skip (Thn.n (Wsr (Ls (Rdo.assign rfl) (Lnt (Wp.seq (Wsr (Ls (Rdo.assign rfl) (Lnt (Wp.block ?_)))))))))))))
  refine Wp.loopE (fun k e h => ∃ (q : Nat) (a : Option Addr) (cp : Nat), q + k = 4 ∧ e = roE x i a (partsTo p.parts q).length cp q ∧ h = roL x c ⟨.slice (some ⟨pb, po, none⟩) c.prods.length pc, mv, dv, vs⟩ (.slice va p.parts.length vc) p a cp (partsTo p.parts q)) 4
    (e0 := roE x i none 0 0 0) (l0 := roL x c ⟨.slice (some ⟨pb, po, none⟩) c.prods.length pc, mv, dv, vs⟩ (.slice va p.parts.length vc) p none 0 []) (by repeat (first | exact trivial | refine ⟨rfl, ?_⟩)) (by repeat (first | exact trivial | refine ⟨rfl, ?_⟩)) (Gh.trans (Gh.nil 3 1) Gk) ⟨0, none, 0, by omega, rfl, rfl⟩ ?_
  rintro k e h ⟨q, a, cp, hqk, rfl, rfl⟩
  have hpl := partsTo_len p.parts q
  by_cases hq : q < 4
  · have hq' : (q : Int) ≤ 3 := by omega
    have hq4 : (partsTo p.parts q).length ≤ 16 := Nat.le_trans hpl (by have := Nat.mul_le_mul (show q ≤ 4 by omega) h4; omega)
    have hsucc : partsTo p.parts (q + 1) = partsTo p.parts q ++ p.parts.filter (fun y : Int => decide (y = (q : Int))) := rfl
    generalize partsTo p.parts q = L at *
    simp only [roL, rfX]
    refine Wp.seq (Wsr (Ls (Rdo.move rfl) (Ls (Rdo.lei rfl rfl) (Lnt (cK rfl (Wp.skip (Thn.n (Wp.seq (Wp.block (Wsr (Ls (Rdo.assign rfl) (Lnt (Wp.block ?_)))))))))))))
    refine Wp.loopE (fun k e h => ∃ (j : Nat) (a : Option Addr) (cp : Nat) (A : List Int), j + k = p.parts.length ∧ A = L ++ (p.parts.take j).filter (fun y : Int => decide (y = (q : Int))) ∧ e = riE x i a A.length cp q j ∧ h = roL x c ⟨.slice (some ⟨pb, po, none⟩) c.prods.length pc, mv, dv, vs⟩ (.slice va p.parts.length vc) p a cp A) p.parts.length
      (e0 := riE x i a L.length cp q 0) (l0 := roL x c ⟨.slice (some ⟨pb, po, none⟩) c.prods.length pc, mv, dv, vs⟩ (.slice va p.parts.length vc) p a cp L) (by repeat (first | exact trivial | refine ⟨rfl, ?_⟩)) (by repeat (first | exact trivial | refine ⟨rfl, ?_⟩)) Gk ⟨0, a, cp, L, by omega, by simp, rfl, rfl⟩ ?_
    rintro k2 e h ⟨j, a, cp, A, hjk, hA, rfl, rfl⟩
    have hfl := List.length_filter_le (fun y : Int => decide (y = (q : Int))) (p.parts.take j)
    rw [List.length_take] at hfl
    have hAl : A.length ≤ 20 := by rw [hA, List.length_append]; omega
    simp only [roL, rfX]
    by_cases hj : j < p.parts.length
    · have hj' : (j : Int) < p.parts.length := by omega
      have hM : p.parts[j]? = some p.parts[j] := List.getElem?_eq_getElem hj
      have htk : p.parts.take (j + 1) = p.parts.take j ++ [p.parts[j]] := by rw [List.take_add_one, hM]; rfl
      generalize p.parts[j] = M at *
      refine Wp.get (Pk.next Pk.here) (row_some (by omega)) ?_
      rintro ⟨b1, o1, rfl⟩
      by_cases hMq : M = q
      · have hA2 : A ++ [(q : Int)] = L ++ (p.parts.take (j + 1)).filter (fun y : Int => decide (y = (q : Int))) := by
          rw [htk, List.filter_append, hA, List.append_assoc]
          simp [hMq]
        have hl2 : A.length + 1 = (A ++ [(q : Int)]).length := by simp
        have hm2 : A.map vi ++ [vi q] = (A ++ [(q : Int)]).map vi := by simp
        refine Wp.seq (Wsr (Ls (Rdo.move rfl) (Ls (Rdo.move rfl) (Ls (Rdo.nilCheck rfl) (Ls (Rdo.fieldAddr0 rfl) (Ls (Rdo.load rfl (Lds.next (Lds.next (Lds.one rfl)))) (Ls (Rdo.move rfl) ?_)))))))
        refine Ls (Rdo.indexSlice rfl rfl (by omega)) ?_
        refine Ls (Rdo.fieldAddr rfl) ?_
        refine Ls (Rdo.load rfl (Lds.next (Lds.next (Lds.next (Lds.rowF (by assumption)))))) ?_
        refine Ls (Rdo.lenSlice rfl) (Ls (Rdo.lti rfl rfl) (Lnt (cK rfl (Wp.skip (Thn.n (Wp.seq (Wp.block (Wsr (Ls (Rdo.move rfl) (Ls (Rdo.nilCheck rfl) (Ls (Rdo.fieldAddr0 rfl) (Ls (Rdo.load rfl (Lds.next (Lds.next (Lds.one rfl)))) (Ls (Rdo.move rfl) ?_)))))))))))))
        refine Ls (Rdo.indexSlice rfl rfl (by omega)) ?_
        refine Ls (Rdo.fieldAddr rfl) ?_
        refine Ls (Rdo.load rfl (Lds.next (Lds.next (Lds.next (Lds.rowF (by assumption)))))) ?_
        refine Ls (Rdo.move rfl) ?_
        refine Ls (Rdo.indexSlice rfl rfl (by omega)) ?_
        refine Ls (Rdo.load rfl (Lds.next (Lds.fz1 (by first | assumption | exact bytesC_at (by assumption) | exact intsC_at (by assumption) | exact boolsC_at (by assumption))))) ?_
        refine Ls (Rdo.move rfl) (Ls (Rdo.eqi rfl rfl) (Lnt (cK rfl (Wp.region (Ls (Rdo.move rfl) (Ls (Rdo.move rfl) ?_))))))
        (refine WpL.step (Stp.sliceV rfl rfl (VCs.cons (VC.i _ _) (by first | rfl | assumption | (simp <;> done)) VCs.nil) (by simp only [List.cons_append, List.nil_append, List.append_nil]; exact rfl) rfl rfl ?_); intro nb42)
        (refine WpL.step (Stp.appendP rfl rfl (Pk.next Pk.here) (Src.cel (by first | rfl | (simp <;> done) | (simp <;> omega))) (by first | rfl | assumption | (simp <;> done) | (simp <;> omega)) (by first | assumption | exact oneCells1 rfl | exact oneCells1 (by assumption) | exact oneCells_bytesC _ | exact oneCells_votesC _ | (simp [oneCells, Value.oneCell'] <;> done)) (by first | omega | (simp <;> omega)) (by first | omega | (simp <;> omega)) rfl (by first | rfl | (simp <;> done)) ?_); intro na43 nc43)
        refine Ls (Rdo.assign rfl) (WpL.nil (Blk.n (Thn.n (Wp.region (Ls (Rdo.move rfl) ?_)))))
        refine Ls (Rdo.succ rfl rfl (by omega)) ?_
        refine Ls (Rdo.assign rfl) (Lnt ?_)
        rw [hl2, hm2]
        exact ⟨k2 - 1, _, _, by omega, ⟨j + 1, _, _, _, by omega, hA2, rfl, rfl⟩, (by repeat (first | exact trivial | refine ⟨rfl, ?_⟩)), Gk⟩
      · have hA2 : A = L ++ (p.parts.take (j + 1)).filter (fun y : Int => decide (y = (q : Int))) := by
          rw [htk, List.filter_append, hA]
          simp [hMq]
        refine Wp.seq (Wsr (Ls (Rdo.move rfl) (Ls (Rdo.move rfl) (Ls (Rdo.nilCheck rfl) (Ls (Rdo.fieldAddr0 rfl) (Ls (Rdo.load rfl (Lds.next (Lds.next (Lds.one rfl)))) (Ls (Rdo.move rfl) ?_)))))))
        refine Ls (Rdo.indexSlice rfl rfl (by omega)) ?_
        refine Ls (Rdo.fieldAddr rfl) ?_
        refine Ls (Rdo.load rfl (Lds.next (Lds.next (Lds.next (Lds.rowF (by assumption)))))) ?_
        refine Ls (Rdo.lenSlice rfl) (Ls (Rdo.lti rfl rfl) (Lnt (cK rfl (Wp.skip (Thn.n (Wp.seq (Wp.block (Wsr (Ls (Rdo.move rfl) (Ls (Rdo.nilCheck rfl) (Ls (Rdo.fieldAddr0 rfl) (Ls (Rdo.load rfl (Lds.next (Lds.next (Lds.one rfl)))) (Ls (Rdo.move rfl) ?_)))))))))))))
        refine Ls (Rdo.indexSlice rfl rfl (by omega)) ?_
        refine Ls (Rdo.fieldAddr rfl) ?_
        refine Ls (Rdo.load rfl (Lds.next (Lds.next (Lds.next (Lds.rowF (by assumption)))))) ?_
        refine Ls (Rdo.move rfl) ?_
        refine Ls (Rdo.indexSlice rfl rfl (by omega)) ?_
        refine Ls (Rdo.load rfl (Lds.next (Lds.fz1 (by first | assumption | exact bytesC_at (by assumption) | exact intsC_at (by assumption) | exact boolsC_at (by assumption))))) ?_
        refine Ls (Rdo.move rfl) (Ls (Rdo.eqi rfl rfl) (Lnt (cL rfl (Wp.skip (Blk.n (Thn.n (Wp.region (Ls (Rdo.move rfl) ?_))))))))
        refine Ls (Rdo.succ rfl rfl (by omega)) ?_
        refine Ls (Rdo.assign rfl) (Lnt ?_)
        exact ⟨k2 - 1, _, _, by omega, ⟨j + 1, _, _, _, by omega, hA2, rfl, rfl⟩, (by repeat (first | exact trivial | refine ⟨rfl, ?_⟩)), Gk⟩
    · have hall : p.parts.take j = p.parts := List.take_of_length_le (by omega)
      rw [hall, ← hsucc] at hA
      refine Wp.seq (Wsr (Ls (Rdo.move rfl) (Ls (Rdo.move rfl) (Ls (Rdo.nilCheck rfl) (Ls (Rdo.fieldAddr0 rfl) (Ls (Rdo.load rfl (Lds.next (Lds.next (Lds.one rfl)))) (Ls (Rdo.move rfl) ?_)))))))
      refine Ls (Rdo.indexSlice rfl rfl (by omega)) ?_
      refine Ls (Rdo.fieldAddr rfl) ?_
      refine Ls (Rdo.load rfl (Lds.next (Lds.next (Lds.next (Lds.rowF (by assumption)))))) ?_
      refine Ls (Rdo.lenSlice rfl) (Ls (Rdo.lti rfl rfl) (Lnt (cL rfl ?_)))
      refine Wp.exit ?_
      refine Thn.x ?_
      refine Thn.x ?_
      refine Blk.here ?_
      refine Blk.n (Thn.n (Wp.region (Ls (Rdo.move rfl) ?_)))
      refine Ls (Rdo.succ rfl rfl (by omega)) ?_
      refine Ls (Rdo.assign rfl) (Lnt ?_)
      rw [hA]
      exact ⟨k - 1, _, _, by omega, ⟨q + 1, _, _, by omega, rfl, rfl⟩, (by repeat (first | exact trivial | refine ⟨rfl, ?_⟩)), Gk⟩
  · obtain rfl : q = 4 := by omega
    simp only [roL, rfX]
    refine Wp.seq (Wsr (Ls (Rdo.move rfl) (Ls (Rdo.lei rfl rfl) (Lnt ?_))))
    refine Wp.condF rfl ?_
    refine Wp.exit ?_
    refine Thn.x ?_
    refine Thn.x ?_
    refine Blk.here ?_
    refine Thn.n (Wsr (Ls (Rdo.move rfl) (Ls (Rdo.nilCheck rfl) (Ls (Rdo.fieldAddr0 rfl) (Ls (Rdo.load rfl (Lds.next (Lds.next (Lds.one rfl)))) (Ls (Rdo.move rfl) ?_))))))
    refine Ls (Rdo.indexSlice rfl rfl (by omega)) ?_
    refine Ls (Rdo.fieldAddr rfl) ?_
    refine Ls (Rdo.load rfl (Lds.next (Lds.next (Lds.next (Lds.rowF (by assumption)))))) ?_
    refine Ls (Rdo.move rfl) (Ls (Rdo.assign rfl) (Ls (Rdo.assign rfl) (Ls (Rdo.assign rfl) (Lnt (Wp.ret ?_)))))
    exact Ret.now (by repeat (first | exact ResV.nil | apply ResV.tmp rfl | apply ResV.cell rfl (by repeat (first | exact Lds.one rfl | (apply Lds.all; (first | rfl | assumption | (simp <;> fail))) | exact Lds.ione0 | exact Lds.ione rfl | (apply Lds.iall; (first | rfl | assumption | (simp <;> fail))) | apply Lds.next)))) (Gh.trans Gk (rf_close (l := [rowA 3 1 (.slice a (partsTo p.parts 4).length cp) (partsTo p.parts 4).length ((partsTo p.parts 4).map vi)]) c rfl rfl rfl rfl rfl)) ⟨_, rfl, rfl⟩
theorem ropen_ok (x : Nat) (c : CoS) (n : Int) (h8 : c.prods.length ≤ 8) (hpa : PaL c.prods) : Trip Tryz.prog 24 [vp x 0, vi n] [rfA x c]
    (fun r l => ∃ v, r = .tuple #[vi (c.open_ n).1, v, vb (c.open_ n).2.2] ∧ l = [rfA x c, rowA 3 1 v (c.open_ n).2.1.length ((c.open_ n).2.1.map vi)]) := by
  by_cases h : 0 ≤ n ∧ n < c.prods.length ∧ (c.prods.getD n.toNat prod0).opn = true
  · obtain ⟨i, rfl⟩ : ∃ i : Nat, n = i := ⟨n.toNat, by omega⟩
    have hil : i < c.prods.length := by omega
    have hop : c.open_ i = ((c.prods.getD i prod0).last, sortI (c.prods.getD i prod0).parts, true) := by unfold CoS.open_; rw [if_pos h]; rfl
    rw [hop]
    exact ropen_some x c i _ h8 (getD_get hil) h.2.2 (hpa _ (getD_mem hil))
  · exact ropen_none x c n h8 h
end Go.Proofs.YtccgdnocldmjeaaGreatDoor
namespace Go.Proofs.YtccgdnocldmjeaaGreatDoor
open Go
set_option maxHeartbeats 4000000
set_option linter.unusedSimpArgs false
set_option linter.unusedVariables false
set_option maxRecDepth 20000
theorem marksC_len4 (l : List Mark) : ((l.map markC).flatten).length = l.length * 4 := by
  induction l with
  | nil => rfl
  | cons x l ih => simp [ih]; omega
abbrev msE (v w : Value) (i : Nat) : Env := [(0, v), (1, w), (4, vb false), (5, vi i)]
theorem marksSame_ok (va vb_ : Value) (ms : List Mark) (hb : ms.length ≤ 1000000) : Trip Tryz.prog 8 [va, vb_] [markA va ms, markA vb_ ms] (fun r l => r = vb true ∧ l = [markA va ms, markA vb_ ms]) := by
  refine Trip.get Pk.here (fun r => rowA_shape) ?_
  rintro ⟨a1, c1, rfl⟩
  refine Trip.get (Pk.next Pk.here) (fun r => rowA_shape) ?_
  rintro ⟨a2, c2, rfl⟩
  refine Trip.of_body Tryz.func8 rfl Tryz.ntmps8 Tryz.results8 rfl ?_
  refine Wsr (Ls (Rdo.assign rfl) (Lnt (Wp.seq (Wsr (Ls (Rdo.move rfl) (Ls (Rdo.lenSlice rfl) (Ls (Rdo.move rfl) (Ls (Rdo.lenSlice rfl) (Ls (Rdo.nei rfl rfl) (Lnt (cL rfl (Wp.skip (Thn.n ?_)))))))))))))
  refine Wp.seq (Wsr (Ls (Rdo.assign rfl) (Lnt (Wp.block ?_))))
  refine Wp.loopE (fun k e h => ∃ i : Nat, i + k = ms.length ∧ e = msE (.slice a1 ms.length c1) (.slice a2 ms.length c2) i ∧ h = [markA (.slice a1 ms.length c1) ms, markA (.slice a2 ms.length c2) ms]) ms.length
    (e0 := msE (.slice a1 ms.length c1) (.slice a2 ms.length c2) 0) (l0 := [markA (.slice a1 ms.length c1) ms, markA (.slice a2 ms.length c2) ms]) (by repeat (first | exact trivial | refine ⟨rfl, ?_⟩)) (by repeat (first | exact trivial | refine ⟨rfl, ?_⟩)) Gk ⟨0, by omega, rfl, rfl⟩ ?_
  rintro k e h ⟨i, hik, rfl, rfl⟩
  by_cases hi : i < ms.length
  · have hi' : (i : Int) < ms.length := by omega
    have hM : ms[i]? = some ms[i] := List.getElem?_eq_getElem hi
    have hsp := marks_split hM
    have hpl : (((ms.take i).map markC).flatten).length = i * 4 := by rw [marksC_len4, List.length_take, Nat.min_eq_left (by omega)]
    generalize ms[i] = M at *
    refine Wp.get Pk.here (fun r => rowA_at i hi) ?_
    rintro ⟨b1, o1, d1, hv⟩
    simp only [Value.slice.injEq, true_and] at hv
    obtain ⟨rfl, rfl⟩ := hv
    refine Wp.get (Pk.next Pk.here) (fun r => rowA_at i hi) ?_
    rintro ⟨b2, o2, d2, hv⟩
    simp only [Value.slice.injEq, true_and] at hv
    obtain ⟨rfl, rfl⟩ := hv
    refine Wp.seq (Wsr (Ls (Rdo.move rfl) (Ls (Rdo.move rfl) (Ls (Rdo.lenSlice rfl) (Ls (Rdo.lti rfl rfl) (Lnt (cK rfl (Wp.skip (Thn.n (Wp.seq (Wp.block (Wp.seq ?_))))))))))))
    refine Wp.draw (by kernel_rfl) ?_
    refine Qt (i := 0) rfl (Rdo.move rfl) (Qt (i := 1) rfl (Rdo.move rfl) ?_)
    refine Qt (i := 2) rfl (Rdo.indexSlice rfl rfl (by omega)) ?_
    refine Qt (i := 4) rfl (Rdo.move rfl) (Qt (i := 5) rfl (Rdo.move rfl) ?_)
    refine Qt (i := 6) rfl (Rdo.indexSlice rfl rfl (by omega)) ?_
    refine WpR.phaseL (m := 1) #[true, true, true, true, true, true, true, true, false] 2 _ rfl (by kernel_rfl) Tk.rfl_ ?_
    refine At (i := 3) rfl (Rdo.load rfl (Lds.row (by assumption) (by first | assumption | omega | (simp <;> omega)) (by first | assumption | rfl))) ?_
    refine At (i := 7) rfl (Rdo.load rfl (Lds.next (Lds.row (by assumption) (by first | assumption | omega | (simp <;> omega)) (by first | assumption | rfl)))) ?_
    refine WpA.stop (by kernel_rfl) ?_
    refine WpR.lst (by simp only [List.cons_append, List.nil_append, List.append_nil]; exact rfl) ?_
    refine Qt (i := 8) rfl (Rdo.neagg rfl rfl (by first | rfl | exact oks_hc _ | exact oks_voteC _ | assumption) (by first | rfl | exact oks_hc _ | exact oks_voteC _ | assumption)) ?_
    refine WpR.done (by kernel_rfl) ?_
    refine Thn.n (cL rfl (Wp.skip (Blk.n (Thn.n (Wp.region (Ls (Rdo.move rfl) ?_))))))
    refine Ls (Rdo.succ rfl rfl (by omega)) ?_
    refine Ls (Rdo.assign rfl) (Lnt ?_)
    exact ⟨k - 1, _, _, by omega, ⟨i + 1, by omega, rfl, rfl⟩, (by repeat (first | exact trivial | refine ⟨rfl, ?_⟩)), Gk⟩
  · refine Wp.seq (Wsr (Ls (Rdo.move rfl) (Ls (Rdo.move rfl) (Ls (Rdo.lenSlice rfl) (Ls (Rdo.lti rfl rfl) (Lnt (cL rfl ?_)))))))
    refine Wp.exit ?_
    refine Thn.x ?_
    refine Thn.x ?_
    refine Blk.here ?_
    refine Thn.n (Wsr (Ls (Rdo.assign rfl) (Lnt (Wp.ret ?_))))
    refine Rt (ResV.tmp rfl ResV.nil) ⟨rfl, rfl⟩
end Go.Proofs.YtccgdnocldmjeaaGreatDoor
namespace Go.Proofs.YtccgdnocldmjeaaGreatDoor
open Go
set_option maxHeartbeats 4000000
set_option linter.unusedSimpArgs false
set_option linter.unusedVariables false
set_option maxRecDepth 20000
theorem oks_rep8 (n : Nat) : ∀ Z : List Int, Z.length = n → oks (List.replicate n (.i .u8)) (Z.map v8) = true := by
  induction n with
  | zero => intro Z h; rw [List.length_eq_zero_iff.1 h]; rfl
  | succ n ih =>
    intro Z h
    cases Z with
    | nil => simp at h
    | cons z Z =>
      have := ih Z (by simpa using h)
      simp only [List.replicate_succ, List.map_cons, oks, this, Bool.and_true]
      rfl
theorem sum_len (c : CoS) : c.sum.length = 32 := by unfold CoS.sum dSum; exact dOut_len _ _
abbrev plE (b x : Nat) (n : Int) : Env := [(0, vp b 0), (1, vp x 0), (5, vi n)]
abbrev pjE (b x : Nat) (n : Int) (v w : Value) (j : Nat) : Env := [(0, vp b 0), (1, vp x 0), (5, vi n), (11, v), (14, w), (16, vi j)]
abbrev pjL (b x : Nat) (c : CoS) (v w : Value) (L : List Int) : List HP := [rowA 3 1 v L.length (L.map vi), rowA 3 1 w L.length (L.map vi), coA b c, rfA x c]
theorem open_len (c : CoS) (n : Int) (hpa : PaL c.prods) : (c.open_ n).2.1.length ≤ 4 := by
  unfold CoS.open_
  split
  · rename_i h
    have h2 := (hpa _ (getD_mem (ps := c.prods) (i := n.toNat) (by omega))).len
    simp only
    rw [(sortI_perm _).length_eq]
    exact h2
  · simp
theorem alikes_ok (b x : Nat) (c : CoS) (k : Nat) (hk : k ≤ 1000) (hok : c.Ok k) (hpa : PaL c.prods) :
    Trip Tryz.prog 9 [vp b 0, vp x 0] [coA b c, rfA x c] (fun r l => r = vb true ∧ l = [coA b c, rfA x c]) := by
  have h8 := hok.n8
  have hml := hok.ml
  have s1 := marks_ok b c (by omega)
  have s2 := now_ok b c
  have s3 := csum_ok b c (by omega)
  have s4 := fun pv mv dv => rsum10_op x pv mv dv c.now c.marks c.sum rfl (by omega)
  have s5 := fun va vb_ => marksSame_ok va vb_ c.marks (by omega)
  have hzl := sum_len c
  generalize c.sum = Z at *
  have ok1 := oks_rep8 32 Z hzl
  have hz1 : (Z.map v8).length = 32 := by rw [List.length_map]; exact hzl
  refine Trip.gh (Gh.front (Pk.next Pk.here)) ?_
  refine Trip.ghE rfA_open ?_
  rintro ⟨pv, mv, dv, vs⟩ hvl
  simp only [rfX, List.cons_append, List.nil_append] at hvl ⊢
  refine Trip.get (Pk.next (Pk.next Pk.here)) (fun r => rowA_shape) ?_
  rintro ⟨ma, mc, rfl⟩
  refine Trip.of_body Tryz.func9 rfl Tryz.ntmps9 Tryz.results9 rfl ?_
  refine Wsr (Ls (Rdo.assign rfl) (Lnt (Wp.seq (Wp.seq ?_))))
  refine Wp.draw (by kernel_rfl) ?_
  refine Qt (i := 0) rfl (Rdo.move rfl) (Qt (i := 2) rfl (Rdo.move rfl) (Qt (i := 3) rfl (Rdo.nilCheck rfl) (Qt (i := 4) rfl (Rdo.fieldAddr0 rfl) ?_)))
  refine WpR.phaseT (m := 3) #[true, true, true, true, true, true, true, true, true, true, true, true, true, true, true, true, true, true, true, true, true, false, false, false] 17 _ (by kernel_rfl) (Tk.cons Pk.here Tk.nil) ?_
  refine At (i := 5) rfl (Rdo.load rfl (Lds.one rfl)) ?_
  refine WpA.one (i := 1) rfl (by kernel_rfl) (Sc (s1) rfl ?_)
  rintro _ _ ⟨v15_0, ⟨v15_1, ⟨rfl, rfl⟩⟩⟩
  refine WpA.lst (by simp only [List.cons_append, List.nil_append]; exact rfl) ?_
  refine WpA.one (i := 6) rfl (by kernel_rfl) (Sc (s5 _ _) rfl ?_)
  rintro _ _ ⟨rfl, rfl⟩
  refine WpA.lst (by simp only [List.cons_append, List.nil_append]; exact rfl) ?_
  refine At (i := 7) rfl (Rdo.not rfl) (At (i := 8) rfl (Rdo.move rfl) (Aw (i := 9) rfl rfl rfl (Rdo.move rfl) (Aw (i := 11) rfl rfl rfl (Rdo.move rfl) (Aw (i := 12) rfl rfl rfl (Rdo.nilCheck rfl) (Aw (i := 13) rfl rfl rfl (Rdo.fieldAddr0 rfl) (Aw (i := 14) rfl rfl rfl (Rdo.load rfl (Lds.one rfl)) ?_))))))
  refine WpA.oneG (i := 10) rfl rfl rfl rfl (by kernel_rfl) (Sc (s2) rfl ?_)
  rintro _ _ ⟨rfl, rfl⟩
  refine WpA.lst (by simp only [List.cons_append, List.nil_append]; exact rfl) ?_
  refine Aw (i := 15) rfl rfl rfl (Rdo.nei rfl rfl) (At (i := 16) rfl (Rdo.pick_f rfl rfl) (At (i := 17) rfl (Rdo.move rfl) ?_))
  refine WpA.tF 34 rfl (by first | rfl | assumption | (simp only [decide_eq_true_eq, decide_eq_false_iff_not, Bool.not_eq_true', Bool.not_eq_false', List.length_cons, List.length_nil]; first | assumption | omega) | (simp <;> done) | (simp <;> omega)) ?_
  refine Aw (i := 18) rfl rfl rfl (Rdo.move rfl) (Aw (i := 20) rfl rfl rfl (Rdo.move rfl) ?_)
  refine WpA.oneG (i := 19) rfl rfl rfl rfl (by kernel_rfl) (Sc (s3) rfl ?_)
  rintro _ _ ⟨rfl, rfl⟩
  refine WpA.lst (by simp only [List.cons_append, List.nil_append]; exact rfl) ?_
  refine WpA.stop (by kernel_rfl) ?_
  refine Ql ?_
  refine WpR.oneG (i := 21) rfl rfl rfl rfl (by kernel_rfl) (Sc (s4 _ _ _) rfl ?_)
  rintro _ _ ⟨rfl, rfl⟩
  refine Ql ?_
  refine Qw (i := 22) rfl rfl rfl (Rdo.neagg rfl rfl (by first | rfl | exact oks_hc _ | exact oks_voteC _ | assumption) (by first | rfl | exact oks_hc _ | exact oks_voteC _ | assumption)) ?_
  refine Qt (i := 23) rfl (Rdo.pick_f rfl rfl) ?_
  refine WpR.done (by kernel_rfl) ?_
  refine Thn.n (cL rfl (Wp.skip (Thn.n (Wp.seq (Wsr (Ls (Rdo.assign rfl) (Lnt (Wp.block ?_))))))))
  refine Wp.loopE (fun k e h => ∃ n : Int, -1 ≤ n ∧ n + k = 9 ∧ e = plE b x n ∧ h = [coA b c, rfA x c]) 10
    (e0 := plE b x (-1)) (l0 := [coA b c, rfA x c]) (by repeat (first | exact trivial | refine ⟨rfl, ?_⟩)) (by repeat (first | exact trivial | refine ⟨rfl, ?_⟩)) (Gh.trans Gk (Gh.trans (rf_close (x := x) (pv := pv) (mv := .slice ma c.marks.length mc) (dv := dv) (vs := vs) (l := [coA b c]) c rfl rfl rfl rfl rfl) (Gh.perm (List.Perm.swap _ _ _)))) ⟨-1, by omega, by omega, rfl, rfl⟩ ?_
  rintro k e h ⟨n, hn1, hnk, rfl, rfl⟩
  have t1 := epoch_ok b c n
  have t2 := repoch_ok x c n h8
  have t3 := open_ok b c n hpa
  have t4 := ropen_ok x c n h8 hpa
  by_cases hn : n ≤ 8
  · refine Wp.seq (Wsr (Ls (Rdo.move rfl) (Ls (Rdo.lei rfl rfl) (Lnt (cK rfl (Wp.skip (Thn.n (Wp.seq (Wp.block (Wsr (Ls (Rdo.move rfl) (Ls (Rdo.move rfl) ?_))))))))))))
    refine WpL.step (Sc (t1) rfl ?_)
    rintro _ _ ⟨rfl, rfl⟩
    refine Ll ?_
    refine Ls (Rdo.move rfl) (Ls (Rdo.extract rfl rfl) (Ls (Rdo.extract rfl rfl) (Ls (Rdo.assign rfl) (Ls (Rdo.assign rfl) (Lnt (Wsr (Ls (Rdo.move rfl) (Ls (Rdo.move rfl) ?_))))))))
    refine WpL.step (Sc (t2) rfl ?_)
    rintro _ _ ⟨rfl, rfl⟩
    refine Ll ?_
    refine Ls (Rdo.move rfl) (Ls (Rdo.extract rfl rfl) (Ls (Rdo.extract rfl rfl) (Ls (Rdo.assign rfl) (Ls (Rdo.assign rfl) (Lnt (Wsr (Ls (Rdo.move rfl) (Ls (Rdo.move rfl) ?_))))))))
    refine WpL.step (Sc (t3) rfl ?_)
    rintro _ _ ⟨v45_0, ⟨rfl, rfl⟩⟩
    refine Ll ?_
    refine Ls (Rdo.move rfl) (Ls (Rdo.extract rfl rfl) (Ls (Rdo.extract rfl rfl) (Ls (Rdo.extract rfl rfl) (Ls (Rdo.assign rfl) (Ls (Rdo.assign rfl) (Ls (Rdo.assign rfl) (Lnt (Wsr (Ls (Rdo.move rfl) (Ls (Rdo.move rfl) ?_))))))))))
    refine WpL.step (Sc (t4) rfl ?_)
    rintro _ _ ⟨v61_0, ⟨rfl, rfl⟩⟩
    refine Ll ?_
    refine Ls (Rdo.move rfl) (Ls (Rdo.extract rfl rfl) (Ls (Rdo.extract rfl rfl) (Ls (Rdo.extract rfl rfl) (Ls (Rdo.assign rfl) (Ls (Rdo.assign rfl) (Ls (Rdo.assign rfl) (Lnt (Wp.seq (Wsr (Ls (Rdo.move rfl) (Ls (Rdo.move rfl) (Ls (Rdo.nei rfl rfl) (Ls (Rdo.move rfl) ?_)))))))))))))
    refine Lf rfl rfl (Lw rfl rfl (Rdo.move rfl) (Lw rfl rfl (Rdo.move rfl) (Lw rfl rfl (Rdo.neb rfl rfl) (Ls (Rdo.pick_f rfl rfl) (Ls (Rdo.move rfl) (Lf rfl rfl (Lw rfl rfl (Rdo.move rfl) (Lw rfl rfl (Rdo.move rfl) (Lw rfl rfl (Rdo.nei rfl rfl) (Ls (Rdo.pick_f rfl rfl) (Ls (Rdo.move rfl) (Lf rfl rfl (Lw rfl rfl (Rdo.move rfl) ?_)))))))))))))
    refine Lw rfl rfl (Rdo.move rfl) (Lw rfl rfl (Rdo.neb rfl rfl) (Ls (Rdo.pick_f rfl rfl) (Ls (Rdo.move rfl) (Lf rfl rfl (Lw rfl rfl (Rdo.move rfl) ?_)))))
    refine WpL.get (Pk.next (Pk.next (Pk.next Pk.here))) (fun r => rowA_shape) ?_
    rintro ⟨a3, c3, rfl⟩
    refine WpL.get (Pk.next Pk.here) (fun r => rowA_shape) ?_
    rintro ⟨a4, c4, rfl⟩
    refine Lw rfl rfl (Rdo.lenSlice rfl) (Lw rfl rfl (Rdo.move rfl) (Lw rfl rfl (Rdo.lenSlice rfl) (Lw rfl rfl (Rdo.nei rfl rfl) (Ls (Rdo.pick_f rfl rfl) (Lnt (cL rfl (Wp.skip (Thn.n (Wsr (Ls (Rdo.assign rfl) (Lnt (Wp.block ?_))))))))))))
    have hol := open_len c n hpa
    clear t1 t2 t3 t4
    generalize (c.open_ n).2.1 = L at *
    refine Wp.loopE (fun k e h => ∃ j : Nat, j + k = L.length ∧ e = pjE b x n (.slice a3 L.length c3) (.slice a4 L.length c4) j ∧ h = pjL b x c (.slice a3 L.length c3) (.slice a4 L.length c4) L) L.length
      (e0 := pjE b x n (.slice a3 L.length c3) (.slice a4 L.length c4) 0) (l0 := pjL b x c (.slice a3 L.length c3) (.slice a4 L.length c4) L) (by repeat (first | exact trivial | refine ⟨rfl, ?_⟩)) (by repeat (first | exact trivial | refine ⟨rfl, ?_⟩)) Gk ⟨0, by omega, rfl, rfl⟩ ?_
    rintro k2 e h ⟨j, hjk, rfl, rfl⟩
    by_cases hj : j < L.length
    · have hj' : (j : Int) < L.length := by omega
      have hM : (L.map vi)[j]? = some (vi L[j]) := by rw [List.getElem?_map, List.getElem?_eq_getElem hj]; rfl
      generalize L[j] = M at *
      refine Wp.get Pk.here (fun r => rowA_at j hj) ?_
      rintro ⟨b1, o1, d1, hv1⟩
      simp only [Value.slice.injEq, true_and] at hv1
      obtain ⟨rfl, rfl⟩ := hv1
      refine Wp.get (Pk.next Pk.here) (fun r => rowA_at j hj) ?_
      rintro ⟨b2, o2, d2, hv2⟩
      simp only [Value.slice.injEq, true_and] at hv2
      obtain ⟨rfl, rfl⟩ := hv2
      refine Wp.seq (Wsr (Ls (Rdo.move rfl) (Ls (Rdo.move rfl) (Ls (Rdo.lenSlice rfl) (Ls (Rdo.lti rfl rfl) (Lnt (cK rfl (Wp.skip (Thn.n (Wp.seq (Wp.block (Wp.seq ?_))))))))))))
      refine Wp.draw (by kernel_rfl) ?_
      refine Qt (i := 0) rfl (Rdo.move rfl) (Qt (i := 1) rfl (Rdo.move rfl) ?_)
      refine Qt (i := 2) rfl (Rdo.indexSlice rfl rfl (by omega)) ?_
      refine Qt (i := 4) rfl (Rdo.move rfl) (Qt (i := 5) rfl (Rdo.move rfl) ?_)
      refine Qt (i := 6) rfl (Rdo.indexSlice rfl rfl (by omega)) ?_
      refine WpR.phaseL (m := 1) #[true, true, true, true, true, true, true, true, false] 2 _ rfl (by kernel_rfl) Tk.rfl_ ?_
      refine At (i := 3) rfl (Rdo.load rfl (Lds.row1 (by assumption))) ?_
      refine At (i := 7) rfl (Rdo.load rfl (Lds.next (Lds.row1 (by assumption)))) ?_
      refine WpA.stop (by kernel_rfl) ?_
      refine WpR.lst (by simp only [List.cons_append, List.nil_append, List.append_nil]; exact rfl) ?_
      refine Qt (i := 8) rfl (Rdo.nei rfl rfl) ?_
      refine WpR.done (by kernel_rfl) ?_
      refine Thn.n (cL rfl (Wp.skip (Blk.n (Thn.n (Wp.region (Ls (Rdo.move rfl) ?_))))))
      refine Ls (Rdo.succ rfl rfl (by omega)) ?_
      refine Ls (Rdo.assign rfl) (Lnt ?_)
      exact ⟨k2 - 1, _, _, by omega, ⟨j + 1, by omega, rfl, rfl⟩, (by repeat (first | exact trivial | refine ⟨rfl, ?_⟩)), Gk⟩
    · refine Wp.seq (Wsr (Ls (Rdo.move rfl) (Ls (Rdo.move rfl) (Ls (Rdo.lenSlice rfl) (Ls (Rdo.lti rfl rfl) (Lnt (cL rfl ?_)))))))
      refine Wp.exit ?_
      refine Thn.x ?_
      refine Thn.x ?_
      refine Blk.here ?_
      refine Blk.n (Thn.n (Wp.region (Ls (Rdo.move rfl) ?_)))
      refine Ls (Rdo.add64 rfl rfl (by first | omega | (dsimp only; omega))) ?_
      refine Ls (Rdo.assign rfl) (Lnt ?_)
      exact ⟨k - 1, _, _, by omega, ⟨n + 1, by omega, by omega, rfl, rfl⟩, (by repeat (first | exact trivial | refine ⟨rfl, ?_⟩)), Gk⟩
  · refine Wp.seq (Wsr (Ls (Rdo.move rfl) (Ls (Rdo.lei rfl rfl) (Lnt (cL rfl ?_)))))
    refine Wp.exit ?_
    refine Thn.x ?_
    refine Thn.x ?_
    refine Blk.here ?_
    refine Thn.n (Wsr (Ls (Rdo.assign rfl) (Lnt (Wp.ret ?_))))
    refine Rt (ResV.tmp rfl ResV.nil) ⟨rfl, rfl⟩
end Go.Proofs.YtccgdnocldmjeaaGreatDoor
namespace Go.Proofs.YtccgdnocldmjeaaGreatDoor
open Go
set_option maxHeartbeats 4000000
set_option linter.unusedSimpArgs false
set_option linter.unusedVariables false
set_option maxRecDepth 20000
theorem run_take5 {ops : List Go.Proofs.YtccgdnocldmjeaaGreatDoor.Op} {i : Nat} {o : Go.Proofs.YtccgdnocldmjeaaGreatDoor.Op} (h : ops[i]? = some o) : run CoS.new (ops.take (i + 1)) = ((run CoS.new (ops.take i)).apply o).2.2 := by
  rw [List.take_add_one, h, Option.toList_some, run_snoc]
theorem run_OkT5 (ops : List Go.Proofs.YtccgdnocldmjeaaGreatDoor.Op) (i : Nat) : (run CoS.new (ops.take i)).Ok i := by
  have h := run_Ok (ops.take i) CoS.Ok.new
  exact h.mono (by rw [List.length_take]; omega)
theorem run_Dec (ops : List Go.Proofs.YtccgdnocldmjeaaGreatDoor.Op) : ∀ {c : CoS}, DecOk c → DecOk (run c ops) := by
  induction ops with
  | nil => intro c h; exact h
  | cons o ops ih => intro c h; exact ih (h.apply o)
theorem apply_marks_len5 {c : CoS} {o : Go.Proofs.YtccgdnocldmjeaaGreatDoor.Op} {k : Nat} (h : c.Ok k) (hk : k ≤ 1000) : (c.apply o).2.1.length ≤ 1000000 := by
  have h1 := (apply_Ok h o).ml
  rw [apply_marks, List.length_append] at h1
  omega
abbrev pyE (v : Value) (b x : Nat) (i : Nat) : Env := [(0, v), (3, vp b 0), (4, vp x 0), (5, vi i)]
theorem playsLaw_ok (v : Value) (ops : List Go.Proofs.YtccgdnocldmjeaaGreatDoor.Op) (hl : ops.length * 80 ≤ reachBytes) : Trip Tryz.prog 3 [v] [opsF v ops] (fun r _ => r = vb true) := by
  have hR : reachBytes = 140737488351232 := by decide
  refine Trip.get Pk.here shape_rdsl ?_
  rintro ⟨a1, c1, rfl⟩
  have s0 := long_ok (.slice a1 ops.length c1) ops (by omega)
  refine Trip.of_body Tryz.func3 rfl Tryz.ntmps3 Tryz.results3 rfl ?_
  refine Wsr (Ls (Rdo.assign rfl) (Lnt (Wp.seq (Wsr (Ls (Rdo.move rfl) ?_)))))
  refine WpL.step (Sc (s0) rfl ?_)
  rintro _ _ ⟨v10_0, ⟨rfl, rfl⟩⟩
  refine Ll ?_
  refine Lnt ?_
  refine Wp.cond rfl (fun c14 => ?_) (fun c14 => ?_)
  refine Wsr (Ls (Rdo.assign rfl) (Lnt (Wp.ret ?_)))
  refine Thn.r ?_
  refine Rt (ResV.tmp rfl ResV.nil) rfl
  refine Wp.skip (Thn.n (Wsr ?_))
  refine WpL.step (Sc (new_ok) rfl ?_)
  rintro _ _ ⟨v28_0, ⟨rfl, rfl⟩⟩
  refine Ll ?_
  refine Ls (Rdo.bld rfl (BldL.nil _)) ?_
  (refine WpL.step (Stp.boxV rfl (VC.ag _) rfl ?_); intro nb31)
  refine Ls (Rdo.assign rfl) (Ls (Rdo.assign rfl) (Lnt (Wp.seq (Wsr (Ls (Rdo.move rfl) (Ls (Rdo.eqnil rfl rfl) (Lnt ?_)))))))
  refine Wp.condF rfl ?_
  refine Wp.skip (Thn.n (Wp.seq (Wsr (Ls (Rdo.assign rfl) (Lnt (Wp.block ?_))))))
  have hto : NmTo ops 80 := v10_0.2 c14
  obtain ⟨b, hb⟩ : ∃ n, n = v28_0 := ⟨_, rfl⟩
  subst hb
  refine Wp.loopE (fun k e h => ∃ i : Nat, i ≤ ops.length ∧ i + k = 80 ∧ e = pyE (.slice a1 ops.length c1) b nb31 i ∧ h = [coA b (run CoS.new (ops.take i)), rfA nb31 (run CoS.new (ops.take i)), opsF (.slice a1 ops.length c1) ops]) 80
    (e0 := pyE (.slice a1 ops.length c1) b nb31 0) (l0 := [coA b (run CoS.new (ops.take 0)), rfA nb31 (run CoS.new (ops.take 0)), opsF (.slice a1 ops.length c1) ops]) (by repeat (first | exact trivial | refine ⟨rfl, ?_⟩)) (by repeat (first | exact trivial | refine ⟨rfl, ?_⟩))
    (Gh.trans (Gh.nil 92 6) (Gh.trans (Gh.nil 61 4) (Gh.trans (Gh.nil 59 5) (Gh.trans (Gh.fzTrue (Φ := fun g => RdPs g [] []) (fun g => ⟨rfl, fun i p v hp => by simp at hp⟩)) (Gh.trans Gk (Gh.trans (rf_close (x := nb31) (n := 0) (pv := vnil) (mv := vnil) (dv := vnil) (ps := []) (vs := []) (ms := []) (ds := []) (now := 0) (l := [coA b CoS.new, opsF (.slice a1 ops.length c1) ops]) CoS.new rfl rfl rfl rfl rfl) Gk)))))) ⟨0, by omega, by omega, rfl, rfl⟩ ?_
  rintro k e h ⟨i, hil, hik, rfl, rfl⟩
  by_cases hi : i < ops.length
  · have hi' : (i : Int) < ops.length := by omega
    by_cases hi8 : i < 80
    · have hi8' : (i : Int) < 80 := by omega
      refine Wp.ghE (GhE.elem (R := ROp) (Pk.next (Pk.next Pk.here)) i hi) ?_
      rintro ⟨bb, oo, cap, cs⟩ ⟨hv, hcs⟩
      simp only [Value.slice.injEq, true_and] at hv
      obtain ⟨rfl, rfl⟩ := hv
      simp only
      refine Wp.get (Pk.next Pk.here) rop_ ?_
      rintro ⟨rfl, -⟩
      have hat : ops[i]? = some ops[i] := List.getElem?_eq_getElem hi
      have hnl := hto i ops[i] hi8 hat
      have htk := run_take5 hat
      have hOk := run_OkT5 ops i
      have hDe := run_Dec (ops.take i) DecOk.new
      have hPa := run_Pa (ops.take i) (c := CoS.new) (fun p hp => by simp [CoS.new] at hp)
      have hOk2 := run_OkT5 ops (i + 1)
      have hPa2 := run_Pa (ops.take (i + 1)) (c := CoS.new) (fun p hp => by simp [CoS.new] at hp)
      generalize ops[i] = x at *
      rw [htk] at hOk2 hPa2
      have hml := apply_marks_len5 (o := x) hOk (by omega)
      have s3 := apply_ok b (run CoS.new (ops.take i)) x (by omega) i (by omega) hOk
      have s4 := rapply_ok nb31 (run CoS.new (ops.take i)) x (by omega) i (by omega) hOk hDe hPa
      generalize run CoS.new (ops.take i) = c0 at *
      generalize c0.apply x = R at *
      have s5 := fun va vb_ => marksSame_ok va vb_ R.2.1 hml
      have s6 := alikes_ok b nb31 R.2.2 (i + 1) (by omega) hOk2 hPa2
      refine Wp.seq (Wsr (Ls (Rdo.move rfl) (Ls (Rdo.move rfl) (Ls (Rdo.lenSlice rfl) (Ls (Rdo.lti rfl rfl) (Ls (Rdo.move rfl) (Lg rfl rfl (Lw rfl rfl (Rdo.move rfl) (Lw rfl rfl (Rdo.lti rfl rfl) (Ls (Rdo.pick_t rfl rfl) (Lnt (cK rfl (Wp.skip ?_)))))))))))))
      refine Thn.n (Wp.seq (Wp.block (Wsr (Ls (Rdo.move rfl) (Ls (Rdo.move rfl) (Ls (Rdo.move rfl) ?_))))))
      refine Ls (Rdo.indexSlice rfl rfl (by omega)) ?_
      refine Ls (Rdo.load rfl Li) ?_
      refine WpL.step (Sc (s3) rfl ?_)
      rintro _ _ ⟨v27_0, ⟨v27_1, ⟨rfl, rfl⟩⟩⟩
      refine Ll ?_
      refine Ls (Rdo.move rfl) (Ls (Rdo.extract rfl rfl) (Ls (Rdo.extract rfl rfl) ?_))
      (refine WpL.step (Stp.alloc rfl ?_); intro nb32)
      refine WpL.step (St rfl rfl (VC.ag _) ?_)
      refine Ls (Rdo.assign rfl) (Lnt (Wsr (Ls (Rdo.move rfl) (Ls (Rdo.move rfl) (Ls (Rdo.move rfl) ?_)))))
      refine Ls (Rdo.indexSlice rfl rfl (by omega)) ?_
      refine Ls (Rdo.load rfl (Lds.next (Lds.next (Lds.next Li)))) ?_
      refine WpL.step (Sc (s4) rfl ?_)
      rintro _ _ ⟨v45_0, ⟨v45_1, ⟨rfl, rfl⟩⟩⟩
      refine Ll ?_
      refine Ls (Rdo.move rfl) (Ls (Rdo.extract rfl rfl) (Ls (Rdo.extract rfl rfl) ?_))
      (refine WpL.step (Stp.alloc rfl ?_); intro nb50)
      refine WpL.step (St rfl rfl (VC.ag _) ?_)
      refine Ls (Rdo.assign rfl) (Lnt (Wsr ?_))
      refine Ls (Rdo.load rfl (Lds.next (Lds.next (Lds.next Ld)))) ?_
      refine Ls (Rdo.load rfl Ld) ?_
      refine Ls (Rdo.neagg rfl rfl (by first | rfl | exact oks_hc _ | exact oks_voteC _ | assumption) (by first | rfl | exact oks_hc _ | exact oks_voteC _ | assumption)) ?_
      refine Ls (Rdo.move rfl) (Lf rfl rfl (Lw rfl rfl (Rdo.move rfl) (Lw rfl rfl (Rdo.move rfl) ?_)))
      refine WpL.want rfl rfl rfl (Sc (s5 _ _) rfl ?_)
      rintro _ _ ⟨rfl, rfl⟩
      refine Ll ?_
      refine Lw rfl rfl (Rdo.not rfl) (Ls (Rdo.pick_f rfl rfl) (Ls (Rdo.move rfl) (Lw rfl rfl (Rdo.move rfl) (Lw rfl rfl (Rdo.move rfl) ?_))))
      refine WpL.want rfl rfl rfl (Sc (s6) rfl ?_)
      rintro _ _ ⟨rfl, rfl⟩
      refine Ll ?_
      refine Lw rfl rfl (Rdo.not rfl) (Ls (Rdo.pick_f rfl rfl) (Lnt ?_))
      refine Wp.condF rfl ?_
      refine Wp.skip (Blk.n (Thn.n (Wp.region (Ls (Rdo.move rfl) ?_))))
      refine Ls (Rdo.succ rfl rfl (by omega)) ?_
      refine Ls (Rdo.assign rfl) (Lnt ?_)
      exact ⟨k - 1, _, _, by omega, ⟨i + 1, by omega, by omega, rfl, rfl⟩, (by repeat (first | exact trivial | refine ⟨rfl, ?_⟩)), by rw [htk]; exact Gk⟩
    · have hi8' : ¬ (i : Int) < 80 := by omega
      refine Wp.seq (Wsr (Ls (Rdo.move rfl) (Ls (Rdo.move rfl) (Ls (Rdo.lenSlice rfl) (Ls (Rdo.lti rfl rfl) (Ls (Rdo.move rfl) (Lg rfl rfl (Lw rfl rfl (Rdo.move rfl) (Lw rfl rfl (Rdo.lti rfl rfl) (Ls (Rdo.pick_t rfl rfl) (Lnt (cL rfl ?_))))))))))))
      refine Wp.exit ?_
      refine Thn.x ?_
      refine Thn.x ?_
      refine Blk.here ?_
      refine Thn.n (Wsr ?_)
      refine WpL.step (Sc (known_ok) rfl ?_)
      rintro _ _ ⟨rfl, rfl⟩
      refine Ll ?_
      refine Ls (Rdo.assign rfl) (Lnt (Wp.ret ?_))
      refine Rt (ResV.tmp rfl ResV.nil) rfl
  · have hi' : ¬ (i : Int) < ops.length := by omega
    refine Wp.seq (Wsr (Ls (Rdo.move rfl) (Ls (Rdo.move rfl) (Ls (Rdo.lenSlice rfl) (Ls (Rdo.lti rfl rfl) (Ls (Rdo.move rfl) (Lf rfl rfl (Lp rfl rfl (Lp rfl rfl (Ls (Rdo.pick_f rfl rfl) (Lnt ?_)))))))))))
    refine Wp.condF rfl ?_
    refine Wp.exit ?_
    refine Thn.x ?_
    refine Thn.x ?_
    refine Blk.here ?_
    refine Thn.n (Wsr ?_)
    refine WpL.step (Sc (known_ok) rfl ?_)
    rintro _ _ ⟨rfl, rfl⟩
    refine Ll ?_
    refine Ls (Rdo.assign rfl) (Lnt (Wp.ret ?_))
    refine Rt (ResV.tmp rfl ResV.nil) rfl
theorem ply_walk (a : Option Addr) (n c : Nat) (ops : List Go.Proofs.YtccgdnocldmjeaaGreatDoor.Op) (w : World) (h : ROps (fun b => w.heap[b]?) [.slice a n c] ops) :
    Calls Tryz.prog 3 #[.slice a n c] w fun e w' => e = .returned (.bool true) ∧ Go.RowKit.Below w.heap.size w w' := by
  obtain ⟨v, hv, h1, h2⟩ := h
  obtain rfl := (List.cons.inj hv).1
  exact Trip.top (args := [.slice a n c]) (Φ := fun g => RdSl ROp 9 g (.slice a n c) ops) (post := fun r _ => r = vb true) h1 (fun _ _ h => h) (playsLaw_ok _ ops h2)
end Go.Proofs.YtccgdnocldmjeaaGreatDoor
