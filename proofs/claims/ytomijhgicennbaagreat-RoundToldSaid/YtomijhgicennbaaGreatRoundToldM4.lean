/- Walks, rules and plain laws on which the claim stands, joined: the program's functions as they compute, one after the other. -/
import Derived.Orders
import Derived.Below
import Derived.Tactics
import Derived.Laws.AppendOwn
import Derived.Laws.CopyRow
import Derived.Laws.ResultCell
import Derived.Laws.Slices
import Derived.Laws.Small
import Derived.Laws.StructEq
import Derived.Laws.Pointers
import Derived.Laws.Unary
import Derived.Laws.Cells
import Derived.OrdersIn
import Derived.RangeFuncRecord
import Derived.RangeFuncIn
import Derived.RangeFuncCalls
import Derived.RangeFuncNested
import Derived.Laws.Cover3
import Derived.Laws.BytesString
import Derived.Laws.Strings
import Derived.Test.YtomijhgicennbaaGreatProg
import Derived.KernelRfl
import Derived.Laws.IdiomStrings
import Derived.OpenShut
import Derived.ChangeSlices
import Derived.DataElems
import Derived.Handed
import Derived.DeepKeys
import Derived.Laws.Shifts
import Derived.Laws.MakeOwn
import Derived.Laws.BitsAllLaws
import Derived.Test.YtomijhgicennbaaGreatRows
import Derived.WalkKit
import Derived.ProofKit
import Derived.ShutString
import Derived.ChangeOld
import Derived.Lay
import Derived.MakeChecks
import Derived.Test.YtomijhgicennbaaGreatRoundToldM3
namespace Go.Proofs.YtomijhgicennbaaGreat
open Go
set_option maxHeartbeats 4000000
set_option linter.unusedSimpArgs false
set_option linter.unusedVariables false
set_option maxRecDepth 20000
abbrev knL (b : Nat) (x : RouS) (m : RouM) : List HP := [cel b rT (rouX x m), rowA 22 1 (.slice m.vl.1 x.values.length m.vl.2) x.values.length m.es, fz (fun g => RdVals g m.es x.values)]
theorem proposal_ok (b : Nat) (x : RouS) (m : RouM) (y : PX) (M : Msg) (hk : x.keys.length ≤ 10) (hn : x.values.length ≤ 1000) (hv : M.value.length ≤ 1000000) :
    Trip Tryz.prog 55 [vp b 0, .agg (msgCs M y).toArray] (knL b x m ++ [ringF m.rb x.keys, tmA m.tp x.props, msF y M])
      (fun r l => r = .tuple #[] ∧ ∃ vl es, l = knL b (x.proposal M) { m with vl := vl, es := es } ++ [ringF m.rb x.keys, tmA m.tp (x.proposal M).props]) := by
  have s1 := leads_ok b m.rb x.keys (rouX x m) x.slot M.from_ M.view hk rfl rfl
  have hle : x.leads M.from_ M.view = decide (M.from_ = leader x.slot M.view x.keys.length) := rfl
  refine Trip.gh (ms_partsK (x := y) (m := M) (Pk.next (Pk.next (Pk.next (Pk.next (Pk.next Pk.here)))))) ?_
  simp only [knL, List.cons_append, List.nil_append]
  cases hlk : alook x.props M.view with
  | some M0 =>
    have hp : x.proposal M = x := by unfold RouS.proposal; rw [if_pos (.inl (by rw [hlk]; rfl))]
    rw [hp]
    have s2 := tm_yes m.tp x.props M.view M0 hlk
    refine Trip.of_body Tryz.func55 rfl Tryz.ntmps55 Tryz.results55 rfl ?_
    refine Wsr ?_
    (refine WpL.step (Stp.boxV rfl (VC.ag _) rfl ?_); intro nb2)
    refine Lnt (Wp.seq (Wp.seq ?_))
    refine Wp.draw (by kernel_rfl) ?_
    refine Qt (i := 0) rfl (Rdo.move rfl) (Qt (i := 1) rfl (Rdo.nilCheck rfl) (Qt (i := 2) rfl (Rdo.fieldAddr0 rfl) (Qt (i := 4) rfl (Rdo.fieldAddr0 rfl) ?_)))
    refine WpR.load (i := 3) [5, 10] rfl (by kernel_rfl) (by kernel_rfl) (by kernel_rfl) (by kernel_rfl) (by kernel_rfl) rfl Tk.rfl_ (Harm.rd rfl (Rdo.load rfl (Lds.one rfl)) (Harm.al rfl inferInstance Harm.nil)) (Rdo.load rfl (Lds.next (Lds.next (Lds.next (Lds.next (Lds.one rfl)))))) rfl ?_
    refine WpR.load (i := 5) [10] rfl (by kernel_rfl) (by kernel_rfl) (by kernel_rfl) (by kernel_rfl) (by kernel_rfl) rfl Tk.rfl_ (Harm.al rfl inferInstance Harm.nil) (Rdo.load rfl (Lds.one rfl)) rfl ?_
    refine Pend.start (i := 10) rfl ?_
    refine Pend.one (j := 6) rfl rfl (by kernel_rfl) (by kernel_rfl) (by kernel_rfl) rfl (by simp) rfl rfl (Sc (s2) rfl ?_)
    rintro _ _ ⟨v16_0, ⟨rfl, rfl⟩⟩
    refine Pend.lst (by simp only [List.cons_append, List.nil_append]; exact rfl) ?_
    refine Pend.take (j := 7) rfl (by kernel_rfl) (by kernel_rfl) (by kernel_rfl) rfl rfl (Rdo.move rfl) rfl ?_
    refine Pend.take (j := 8) rfl (by kernel_rfl) (by kernel_rfl) (by kernel_rfl) rfl rfl (Rdo.extract rfl rfl) rfl ?_
    refine Pend.take (j := 9) rfl (by kernel_rfl) (by kernel_rfl) (by kernel_rfl) rfl rfl (Rdo.extract rfl rfl) rfl ?_
    refine Pend.made rfl (by kernel_rfl) rfl (fun nb21 => ?_)
    refine Qo (i := 11) rfl (St rfl rfl (VC.ag _) ?_)
    refine Qt (i := 12) rfl (Rdo.assign rfl) ?_
    refine WpR.done (by kernel_rfl) ?_
    refine Thn.n (Wsr (Ls (Rdo.move rfl) (Ls (Rdo.move rfl) (Lp rfl rfl (Lp rfl rfl (Lp rfl rfl (Lp rfl rfl (Lp rfl rfl (Lp rfl rfl (Lp rfl rfl (Ls (Rdo.pick_t rfl rfl) (Lnt ?_))))))))))))
    refine Wp.condT rfl ?_
    refine Wp.ret ?_
    refine Thn.r ?_
    refine Rt ResV.nil ⟨rfl, ⟨_, ⟨_, rfl⟩⟩⟩
  | none =>
    have s2 := tm_no m.tp x.props M.view hlk
    by_cases hl : M.from_ = leader x.slot M.view x.keys.length
    · have hp : x.proposal M = { x with props := aset x.props M.view M }.knows M.value := by
        unfold RouS.proposal
        rw [if_neg (by rw [hlk, hle]; simp [hl])]
      rw [hp]
      have hpp : ({ x with props := aset x.props M.view M }.knows M.value).props = aset x.props M.view M := by unfold RouS.knows; split <;> rfl
      rw [hpp]
      have s3 := tm_set m.tp x.props M.view M y
      have s4 := knows_ok b { x with props := aset x.props M.view M } m y.1 M.value hv hn
      generalize { x with props := aset x.props M.view M }.knows M.value = x' at *
      refine Trip.of_body Tryz.func55 rfl Tryz.ntmps55 Tryz.results55 rfl ?_
      refine Wsr ?_
      (refine WpL.step (Stp.boxV rfl (VC.ag _) rfl ?_); intro nb2)
      refine Lnt (Wp.seq (Wp.seq ?_))
      refine Wp.draw (by kernel_rfl) ?_
      refine Qt (i := 0) rfl (Rdo.move rfl) (Qt (i := 1) rfl (Rdo.nilCheck rfl) (Qt (i := 2) rfl (Rdo.fieldAddr0 rfl) (Qt (i := 4) rfl (Rdo.fieldAddr0 rfl) ?_)))
      refine WpR.load (i := 3) [5, 10] rfl (by kernel_rfl) (by kernel_rfl) (by kernel_rfl) (by kernel_rfl) (by kernel_rfl) rfl Tk.rfl_ (Harm.rd rfl (Rdo.load rfl (Lds.one rfl)) (Harm.al rfl inferInstance Harm.nil)) (Rdo.load rfl (Lds.next (Lds.next (Lds.next (Lds.next (Lds.one rfl)))))) rfl ?_
      refine WpR.load (i := 5) [10] rfl (by kernel_rfl) (by kernel_rfl) (by kernel_rfl) (by kernel_rfl) (by kernel_rfl) rfl Tk.rfl_ (Harm.al rfl inferInstance Harm.nil) (Rdo.load rfl (Lds.one rfl)) rfl ?_
      refine Pend.start (i := 10) rfl ?_
      refine Pend.one (j := 6) rfl rfl (by kernel_rfl) (by kernel_rfl) (by kernel_rfl) rfl (by simp) rfl rfl (Sc (s2) rfl ?_)
      rintro _ _ ⟨rfl, rfl⟩
      refine Pend.lst (by simp only [List.cons_append, List.nil_append]; exact rfl) ?_
      refine Pend.take (j := 7) rfl (by kernel_rfl) (by kernel_rfl) (by kernel_rfl) rfl rfl (Rdo.move rfl) rfl ?_
      refine Pend.take (j := 8) rfl (by kernel_rfl) (by kernel_rfl) (by kernel_rfl) rfl rfl (Rdo.extract rfl rfl) rfl ?_
      refine Pend.take (j := 9) rfl (by kernel_rfl) (by kernel_rfl) (by kernel_rfl) rfl rfl (Rdo.extract rfl rfl) rfl ?_
      refine Pend.made rfl (by kernel_rfl) rfl (fun nb21 => ?_)
      refine Qo (i := 11) rfl (St rfl rfl (VC.ag _) ?_)
      refine Qt (i := 12) rfl (Rdo.assign rfl) ?_
      refine WpR.done (by kernel_rfl) ?_
      refine Thn.n (Wsr (Ls (Rdo.move rfl) (Ls (Rdo.move rfl) (Lw rfl rfl (Rdo.move rfl) (Lw rfl rfl (Rdo.fieldAddr0 rfl) (Lw rfl rfl (Rdo.load rfl (Lds.next (Lds.next (Lds.one rfl)))) (Lw rfl rfl (Rdo.fieldAddr0 rfl) (Lw rfl rfl (Rdo.load rfl (Lds.next (Lds.next (Lds.one rfl)))) ?_))))))))
      refine WpL.want rfl rfl rfl (Sc (s1) rfl ?_)
      rintro _ _ ⟨rfl, rfl⟩
      refine Ll ?_
      refine Lw rfl rfl (Rdo.not rfl) (Ls (Rdo.pick_f rfl rfl) (Lnt (cL rfl (Wp.skip (Thn.n (Wp.seq ?_))))))
      refine Wp.draw (by kernel_rfl) ?_
      refine Qt (i := 0) rfl (Rdo.move rfl) (Qt (i := 1) rfl (Rdo.nilCheck rfl) (Qt (i := 2) rfl (Rdo.fieldAddr0 rfl) (Qt (i := 4) rfl (Rdo.fieldAddr0 rfl) ?_)))
      refine WpR.phaseL (m := 1) #[true, true, true, true, true, true, true, false] 3 _ rfl (by kernel_rfl) Tk.rfl_ ?_
      refine At (i := 3) rfl (Rdo.load rfl (Lds.one rfl)) (At (i := 5) rfl (Rdo.load rfl (Lds.next (Lds.next (Lds.next (Lds.next (Lds.one rfl)))))) ?_)
      refine At (i := 6) rfl (Rdo.load rfl (Lds.next (Lds.next (Lds.next (Lds.next Ld))))) ?_
      refine WpA.stop (by kernel_rfl) ?_
      refine WpR.lst (by simp only [List.cons_append, List.nil_append, List.append_nil]; exact rfl) ?_
      refine Qo (i := 7) rfl (Sc (s3) rfl ?_)
      rintro _ _ ⟨rfl, rfl⟩
      refine Ql ?_
      refine WpR.done (by kernel_rfl) ?_
      refine Thn.n (Wp.region (Ls (Rdo.move rfl) (Ls (Rdo.fieldAddr0 rfl) (Ls (Rdo.load rfl (Lds.next (Lds.next (Lds.next (Lds.next (Lds.next (Lds.one rfl))))))) ?_))))
      refine WpL.step (Sc (s4) rfl ?_)
      rintro _ _ ⟨rfl, ⟨v67_0, ⟨v67_1, rfl⟩⟩⟩
      refine Ll ?_
      refine WpL.nil ?_
      refine Ret.end_ ResV.nil Gk ⟨rfl, ⟨_, ⟨_, rfl⟩⟩⟩
    · have hp : x.proposal M = x := by unfold RouS.proposal; rw [if_pos (.inr (by rw [hle]; simp [hl]))]
      rw [hp]
      refine Trip.of_body Tryz.func55 rfl Tryz.ntmps55 Tryz.results55 rfl ?_
      refine Wsr ?_
      (refine WpL.step (Stp.boxV rfl (VC.ag _) rfl ?_); intro nb2)
      refine Lnt (Wp.seq (Wp.seq ?_))
      refine Wp.draw (by kernel_rfl) ?_
      refine Qt (i := 0) rfl (Rdo.move rfl) (Qt (i := 1) rfl (Rdo.nilCheck rfl) (Qt (i := 2) rfl (Rdo.fieldAddr0 rfl) (Qt (i := 4) rfl (Rdo.fieldAddr0 rfl) ?_)))
      refine WpR.load (i := 3) [5, 10] rfl (by kernel_rfl) (by kernel_rfl) (by kernel_rfl) (by kernel_rfl) (by kernel_rfl) rfl Tk.rfl_ (Harm.rd rfl (Rdo.load rfl (Lds.one rfl)) (Harm.al rfl inferInstance Harm.nil)) (Rdo.load rfl (Lds.next (Lds.next (Lds.next (Lds.next (Lds.one rfl)))))) rfl ?_
      refine WpR.load (i := 5) [10] rfl (by kernel_rfl) (by kernel_rfl) (by kernel_rfl) (by kernel_rfl) (by kernel_rfl) rfl Tk.rfl_ (Harm.al rfl inferInstance Harm.nil) (Rdo.load rfl (Lds.one rfl)) rfl ?_
      refine Pend.start (i := 10) rfl ?_
      refine Pend.one (j := 6) rfl rfl (by kernel_rfl) (by kernel_rfl) (by kernel_rfl) rfl (by simp) rfl rfl (Sc (s2) rfl ?_)
      rintro _ _ ⟨rfl, rfl⟩
      refine Pend.lst (by simp only [List.cons_append, List.nil_append]; exact rfl) ?_
      refine Pend.take (j := 7) rfl (by kernel_rfl) (by kernel_rfl) (by kernel_rfl) rfl rfl (Rdo.move rfl) rfl ?_
      refine Pend.take (j := 8) rfl (by kernel_rfl) (by kernel_rfl) (by kernel_rfl) rfl rfl (Rdo.extract rfl rfl) rfl ?_
      refine Pend.take (j := 9) rfl (by kernel_rfl) (by kernel_rfl) (by kernel_rfl) rfl rfl (Rdo.extract rfl rfl) rfl ?_
      refine Pend.made rfl (by kernel_rfl) rfl (fun nb21 => ?_)
      refine Qo (i := 11) rfl (St rfl rfl (VC.ag _) ?_)
      refine Qt (i := 12) rfl (Rdo.assign rfl) ?_
      refine WpR.done (by kernel_rfl) ?_
      refine Thn.n (Wsr (Ls (Rdo.move rfl) (Ls (Rdo.move rfl) (Lw rfl rfl (Rdo.move rfl) (Lw rfl rfl (Rdo.fieldAddr0 rfl) (Lw rfl rfl (Rdo.load rfl (Lds.next (Lds.next (Lds.one rfl)))) (Lw rfl rfl (Rdo.fieldAddr0 rfl) (Lw rfl rfl (Rdo.load rfl (Lds.next (Lds.next (Lds.one rfl)))) ?_))))))))
      refine WpL.want rfl rfl rfl (Sc (s1) rfl ?_)
      rintro _ _ ⟨rfl, rfl⟩
      refine Ll ?_
      refine Lw rfl rfl (Rdo.not rfl) (Ls (Rdo.pick_f rfl rfl) (Lnt (cK rfl (Wp.ret ?_))))
      refine Thn.r ?_
      refine Rt ResV.nil ⟨rfl, ⟨_, ⟨_, rfl⟩⟩⟩
end Go.Proofs.YtomijhgicennbaaGreat
namespace Go.Proofs.YtomijhgicennbaaGreat
open Go
set_option maxHeartbeats 4000000
set_option linter.unusedSimpArgs false
set_option linter.unusedVariables false
set_option maxRecDepth 20000
theorem vote_ok (b : Nat) (x : RouS) (m : RouM) (y : PX) (M : Msg) (hk : x.keys.length ≤ 10) (hn : M.votes.length ≤ 1000) (hb1 : ∀ w, (balOf x.prep w).length ≤ 100000) (hb2 : ∀ w, (balOf x.comm w).length ≤ 100000) :
    Trip Tryz.prog 56 [vp b 0, .agg (msgCs M y).toArray] [cel b rT (rouX x m), ringF m.rb x.keys, tbA m.t1 x.prep, tbA m.t2 x.comm, vsF y.2 M.votes]
      (fun r l => r = .tuple #[] ∧ l = [cel b rT (rouX x m), ringF m.rb x.keys, tbA m.t1 (x.vote M).prep, tbA m.t2 (x.vote M).comm, vsF y.2 M.votes]) := by
  obtain ⟨⟨x1, x2⟩, ⟨x3, x4⟩⟩ := y
  cases hvs : M.votes with
  | nil =>
    have hp : x.vote M = x := by unfold RouS.vote; rw [hvs]
    rw [hp]
    have hlen : M.votes.length = 0 := by rw [hvs]; rfl
    refine Trip.of_body Tryz.func56 rfl Tryz.ntmps56 Tryz.results56 rfl ?_
    refine Wsr ?_
    (refine WpL.step (Stp.boxV rfl (VC.ag _) rfl ?_); intro nb2)
    refine Lnt (Wp.seq (Wsr (Ls (Rdo.fieldAddr0 rfl) (Ls (Rdo.load rfl (Lds.one rfl)) (Ls (Rdo.lenSlice rfl) (Ls (Rdo.eqi rfl rfl) (Lnt (cK rfl (Wp.ret ?_)))))))))
    refine Thn.r ?_
    refine Rt ResV.nil ⟨rfl, rfl⟩
  | cons v vs =>
    have hp : x.vote M = if (v.kind = 1 ∨ v.kind = 2) ∧ v.slot = x.slot ∧ v.from_ = M.from_ ∧ goodV x.keys v = true then x.counts v else x := by unfold RouS.vote; rw [hvs]
    rw [hp]
    have h0' : 0 < (v :: vs).length := by simp
    refine Trip.get (Pk.next (Pk.next (Pk.next (Pk.next Pk.here)))) (row_some h0') ?_
    rintro ⟨bb, o, rfl⟩
    have hne : ¬ (M.votes.length : Int) = 0 := by rw [hvs]; simp only [List.length_cons]; omega
    have hlt : (0 : Int) < M.votes.length := by omega
    have hv0 : (v :: vs)[0]? = some v := rfl
    have s1 := good_ok m.rb x.keys v hk
    have h35 := voteC_from v
    have hv2 := voteC_view v
    have hlv := voteC_length v
    have hov := oneCells_voteC v
    rw [← hvs] at *
    by_cases b1 : v.kind = 1
    · by_cases b2 : v.slot = x.slot
      · by_cases b3 : v.from_ = M.from_
        · have s2 := counts_ok b m.t1 (rouX x m) v x.prep (.inl ⟨b1, rfl⟩) (hb1 _)
          have hcc : x.counts v = { x with prep := addV x.prep v } := by unfold RouS.counts; rw [if_pos b1]
          generalize hg : goodV x.keys v = g at *
          cases g with
          | true =>
            rw [if_pos ⟨.inl b1, b2, b3, rfl⟩, hcc]
            refine Trip.of_body Tryz.func56 rfl Tryz.ntmps56 Tryz.results56 rfl ?_
            refine Wsr ?_
            (refine WpL.step (Stp.boxV rfl (VC.ag _) rfl ?_); intro nb2)
            refine Lnt (Wp.seq (Wsr (Ls (Rdo.fieldAddr0 rfl) (Ls (Rdo.load rfl (Lds.one rfl)) (Ls (Rdo.lenSlice rfl) (Ls (Rdo.eqi rfl rfl) (Lnt (cL rfl (Wp.skip (Thn.n (Wsr (Ls (Rdo.fieldAddr0 rfl) (Ls (Rdo.load rfl (Lds.one rfl)) ?_)))))))))))))
            refine Ls (Rdo.indexSliceE (i := 0) rfl rfl rfl (by first | omega | (simp <;> omega))) ?_
            refine Ls (Rdo.load rfl (Lds.next (Lds.next (Lds.next (Lds.next (Lds.next (Lds.fzV (by assumption)))))))) ?_
            (refine WpL.step (Stp.alloc rfl ?_); intro nb23)
            refine WpL.step (St rfl rfl (VC.ag _) ?_)
            refine Lnt (Wp.seq ?_)
            refine Wp.draw (by kernel_rfl) ?_
            refine Qt (i := 0) rfl (Rdo.fieldAddr0 rfl) ?_
            refine Qo (i := 1) rfl (Stp.rd (Rdo.load rfl (Lds.one rfl)) rfl ?_)
            refine Qt (i := 2) rfl (Rdo.eqi rfl rfl) (Qt (i := 3) rfl (Rdo.move rfl) ?_)
            refine WpR.tT 16 rfl (by first | rfl | assumption | (simp only [decide_eq_true_eq, decide_eq_false_iff_not, Bool.not_eq_true', Bool.not_eq_false', List.length_cons, List.length_nil]; first | assumption | omega) | (simp <;> done) | (simp <;> omega)) ?_
            refine Qp (i := 4) rfl rfl rfl (Qp (i := 5) rfl rfl rfl (Qp (i := 6) rfl rfl rfl (Qt (i := 7) rfl (Rdo.pick_t rfl rfl) (Qt (i := 8) rfl (Rdo.move rfl) (Qw (i := 9) rfl rfl rfl (Rdo.fieldAddr0 rfl) (Qw (i := 11) rfl rfl rfl (Rdo.move rfl) (Qw (i := 12) rfl rfl rfl (Rdo.nilCheck rfl) (Qw (i := 13) rfl rfl rfl (Rdo.fieldAddr0 rfl) ?_))))))))
            refine WpR.phaseL (m := 0) #[true, true, true, true, true, true, true, true, true, true, true, true, true, true, true, true, true, true, true, true, true, true, true, true, true, true, true, true, true, true, true, true] 19 _ rfl (by kernel_rfl) (Tk.cons Pk.here (Tk.cons Pk.here (Tk.cons Pk.here Tk.nil))) ?_
            refine Aw (i := 10) rfl rfl rfl (Rdo.load rfl (Lds.one rfl)) (Aw (i := 14) rfl rfl rfl (Rdo.load rfl (Lds.next (Lds.next (Lds.one rfl)))) (Aw (i := 15) rfl rfl rfl (Rdo.eqi rfl rfl) (At (i := 16) rfl (Rdo.pick_t rfl rfl) (At (i := 17) rfl (Rdo.move rfl) ?_))))
            refine WpA.tT 30 rfl (by first | rfl | assumption | (simp only [decide_eq_true_eq, decide_eq_false_iff_not, Bool.not_eq_true', Bool.not_eq_false', List.length_cons, List.length_nil]; first | assumption | omega) | (simp <;> done) | (simp <;> omega)) ?_
            refine Aw (i := 18) rfl rfl rfl (Rdo.fieldAddr0 rfl) ?_
            refine Aw (i := 19) rfl rfl rfl (Rdo.load rfl (Lds.one (by assumption))) ?_
            refine Aw (i := 20) rfl rfl rfl (Rdo.fieldAddr0 rfl) (Aw (i := 21) rfl rfl rfl (Rdo.load rfl (Lds.next (Lds.one rfl))) (Aw (i := 22) rfl rfl rfl (Rdo.eqi rfl rfl) (At (i := 23) rfl (Rdo.pick_t rfl rfl) (At (i := 24) rfl (Rdo.move rfl) ?_))))
            refine WpA.tT 37 rfl (by first | rfl | assumption | (simp only [decide_eq_true_eq, decide_eq_false_iff_not, Bool.not_eq_true', Bool.not_eq_false', List.length_cons, List.length_nil]; first | assumption | omega) | (simp <;> done) | (simp <;> omega)) ?_
            refine Aw (i := 25) rfl rfl rfl (Rdo.move rfl) (Aw (i := 26) rfl rfl rfl (Rdo.nilCheck rfl) (Aw (i := 27) rfl rfl rfl (Rdo.fieldAddr0 rfl) (Aw (i := 28) rfl rfl rfl (Rdo.load rfl (Lds.next (Lds.next (Lds.one rfl)))) ?_)))
            refine Aw (i := 29) rfl rfl rfl (Rdo.load rfl Ld) ?_
            refine WpA.oneG (i := 30) rfl rfl rfl rfl (by kernel_rfl) (Sc (s1) rfl ?_)
            rintro _ _ ⟨rfl, rfl⟩
            refine WpA.lst (by simp only [List.cons_append, List.nil_append]; exact rfl) ?_
            refine At (i := 31) rfl (Rdo.pick_t rfl rfl) ?_
            refine WpA.stop (by kernel_rfl) ?_
            refine Ql ?_
            refine WpR.done (by kernel_rfl) ?_
            refine Thn.n ?_
            refine Wp.condT rfl ?_
            refine Wp.region (Ls (Rdo.move rfl) ?_)
            refine Ls (Rdo.load rfl Ld) ?_
            refine WpL.step (Sc (s2) rfl ?_)
            rintro _ _ ⟨rfl, rfl⟩
            refine Ll ?_
            refine WpL.nil ?_
            refine Ret.end_ ResV.nil Gk ⟨rfl, rfl⟩
          | false =>
            rw [if_neg (by simp)]
            refine Trip.of_body Tryz.func56 rfl Tryz.ntmps56 Tryz.results56 rfl ?_
            refine Wsr ?_
            (refine WpL.step (Stp.boxV rfl (VC.ag _) rfl ?_); intro nb2)
            refine Lnt (Wp.seq (Wsr (Ls (Rdo.fieldAddr0 rfl) (Ls (Rdo.load rfl (Lds.one rfl)) (Ls (Rdo.lenSlice rfl) (Ls (Rdo.eqi rfl rfl) (Lnt (cL rfl (Wp.skip (Thn.n (Wsr (Ls (Rdo.fieldAddr0 rfl) (Ls (Rdo.load rfl (Lds.one rfl)) ?_)))))))))))))
            refine Ls (Rdo.indexSliceE (i := 0) rfl rfl rfl (by first | omega | (simp <;> omega))) ?_
            refine Ls (Rdo.load rfl (Lds.next (Lds.next (Lds.next (Lds.next (Lds.next (Lds.fzV (by assumption)))))))) ?_
            (refine WpL.step (Stp.alloc rfl ?_); intro nb23)
            refine WpL.step (St rfl rfl (VC.ag _) ?_)
            refine Lnt (Wp.seq ?_)
            refine Wp.draw (by kernel_rfl) ?_
            refine Qt (i := 0) rfl (Rdo.fieldAddr0 rfl) ?_
            refine Qo (i := 1) rfl (Stp.rd (Rdo.load rfl (Lds.one rfl)) rfl ?_)
            refine Qt (i := 2) rfl (Rdo.eqi rfl rfl) (Qt (i := 3) rfl (Rdo.move rfl) ?_)
            refine WpR.tT 16 rfl (by first | rfl | assumption | (simp only [decide_eq_true_eq, decide_eq_false_iff_not, Bool.not_eq_true', Bool.not_eq_false', List.length_cons, List.length_nil]; first | assumption | omega) | (simp <;> done) | (simp <;> omega)) ?_
            refine Qp (i := 4) rfl rfl rfl (Qp (i := 5) rfl rfl rfl (Qp (i := 6) rfl rfl rfl (Qt (i := 7) rfl (Rdo.pick_t rfl rfl) (Qt (i := 8) rfl (Rdo.move rfl) (Qw (i := 9) rfl rfl rfl (Rdo.fieldAddr0 rfl) (Qw (i := 11) rfl rfl rfl (Rdo.move rfl) (Qw (i := 12) rfl rfl rfl (Rdo.nilCheck rfl) (Qw (i := 13) rfl rfl rfl (Rdo.fieldAddr0 rfl) ?_))))))))
            refine WpR.phaseL (m := 0) #[true, true, true, true, true, true, true, true, true, true, true, true, true, true, true, true, true, true, true, true, true, true, true, true, true, true, true, true, true, true, true, true] 19 _ rfl (by kernel_rfl) (Tk.cons Pk.here (Tk.cons Pk.here (Tk.cons Pk.here Tk.nil))) ?_
            refine Aw (i := 10) rfl rfl rfl (Rdo.load rfl (Lds.one rfl)) (Aw (i := 14) rfl rfl rfl (Rdo.load rfl (Lds.next (Lds.next (Lds.one rfl)))) (Aw (i := 15) rfl rfl rfl (Rdo.eqi rfl rfl) (At (i := 16) rfl (Rdo.pick_t rfl rfl) (At (i := 17) rfl (Rdo.move rfl) ?_))))
            refine WpA.tT 30 rfl (by first | rfl | assumption | (simp only [decide_eq_true_eq, decide_eq_false_iff_not, Bool.not_eq_true', Bool.not_eq_false', List.length_cons, List.length_nil]; first | assumption | omega) | (simp <;> done) | (simp <;> omega)) ?_
            refine Aw (i := 18) rfl rfl rfl (Rdo.fieldAddr0 rfl) ?_
            refine Aw (i := 19) rfl rfl rfl (Rdo.load rfl (Lds.one (by assumption))) ?_
            refine Aw (i := 20) rfl rfl rfl (Rdo.fieldAddr0 rfl) (Aw (i := 21) rfl rfl rfl (Rdo.load rfl (Lds.next (Lds.one rfl))) (Aw (i := 22) rfl rfl rfl (Rdo.eqi rfl rfl) (At (i := 23) rfl (Rdo.pick_t rfl rfl) (At (i := 24) rfl (Rdo.move rfl) ?_))))
            refine WpA.tT 37 rfl (by first | rfl | assumption | (simp only [decide_eq_true_eq, decide_eq_false_iff_not, Bool.not_eq_true', Bool.not_eq_false', List.length_cons, List.length_nil]; first | assumption | omega) | (simp <;> done) | (simp <;> omega)) ?_
            refine Aw (i := 25) rfl rfl rfl (Rdo.move rfl) (Aw (i := 26) rfl rfl rfl (Rdo.nilCheck rfl) (Aw (i := 27) rfl rfl rfl (Rdo.fieldAddr0 rfl) (Aw (i := 28) rfl rfl rfl (Rdo.load rfl (Lds.next (Lds.next (Lds.one rfl)))) ?_)))
            refine Aw (i := 29) rfl rfl rfl (Rdo.load rfl Ld) ?_
            refine WpA.oneG (i := 30) rfl rfl rfl rfl (by kernel_rfl) (Sc (s1) rfl ?_)
            rintro _ _ ⟨rfl, rfl⟩
            refine WpA.lst (by simp only [List.cons_append, List.nil_append]; exact rfl) ?_
            refine At (i := 31) rfl (Rdo.pick_t rfl rfl) ?_
            refine WpA.stop (by kernel_rfl) ?_
            refine Ql ?_
            refine WpR.done (by kernel_rfl) ?_
            refine Thn.n ?_
            refine Wp.condF rfl ?_
            refine Wp.skip ?_
            refine Ret.end_ ResV.nil Gk ⟨rfl, rfl⟩
        · rw [if_neg (by simp [b3])]
          refine Trip.of_body Tryz.func56 rfl Tryz.ntmps56 Tryz.results56 rfl ?_
          refine Wsr ?_
          (refine WpL.step (Stp.boxV rfl (VC.ag _) rfl ?_); intro nb2)
          refine Lnt (Wp.seq (Wsr (Ls (Rdo.fieldAddr0 rfl) (Ls (Rdo.load rfl (Lds.one rfl)) (Ls (Rdo.lenSlice rfl) (Ls (Rdo.eqi rfl rfl) (Lnt (cL rfl (Wp.skip (Thn.n (Wsr (Ls (Rdo.fieldAddr0 rfl) (Ls (Rdo.load rfl (Lds.one rfl)) ?_)))))))))))))
          refine Ls (Rdo.indexSliceE (i := 0) rfl rfl rfl (by first | omega | (simp <;> omega))) ?_
          refine Ls (Rdo.load rfl (Lds.next (Lds.next (Lds.next (Lds.next (Lds.next (Lds.fzV (by assumption)))))))) ?_
          (refine WpL.step (Stp.alloc rfl ?_); intro nb23)
          refine WpL.step (St rfl rfl (VC.ag _) ?_)
          refine Lnt (Wp.seq ?_)
          refine Wp.draw (by kernel_rfl) ?_
          refine Qt (i := 0) rfl (Rdo.fieldAddr0 rfl) ?_
          refine Qo (i := 1) rfl (Stp.rd (Rdo.load rfl (Lds.one rfl)) rfl ?_)
          refine Qt (i := 2) rfl (Rdo.eqi rfl rfl) (Qt (i := 3) rfl (Rdo.move rfl) ?_)
          refine WpR.tT 16 rfl (by first | rfl | assumption | (simp only [decide_eq_true_eq, decide_eq_false_iff_not, Bool.not_eq_true', Bool.not_eq_false', List.length_cons, List.length_nil]; first | assumption | omega) | (simp <;> done) | (simp <;> omega)) ?_
          refine Qp (i := 4) rfl rfl rfl (Qp (i := 5) rfl rfl rfl (Qp (i := 6) rfl rfl rfl (Qt (i := 7) rfl (Rdo.pick_t rfl rfl) (Qt (i := 8) rfl (Rdo.move rfl) (Qw (i := 9) rfl rfl rfl (Rdo.fieldAddr0 rfl) (Qw (i := 11) rfl rfl rfl (Rdo.move rfl) (Qw (i := 12) rfl rfl rfl (Rdo.nilCheck rfl) (Qw (i := 13) rfl rfl rfl (Rdo.fieldAddr0 rfl) ?_))))))))
          refine WpR.phaseL (m := 0) #[true, true, true, true, true, true, true, true, true, true, true, true, true, true, true, true, true, true, true, true, true, true, true, true, true, true, true, true, true, true, true, true] 19 _ rfl (by kernel_rfl) (Tk.cons Pk.here (Tk.cons Pk.here (Tk.cons Pk.here Tk.nil))) ?_
          refine Aw (i := 10) rfl rfl rfl (Rdo.load rfl (Lds.one rfl)) (Aw (i := 14) rfl rfl rfl (Rdo.load rfl (Lds.next (Lds.next (Lds.one rfl)))) (Aw (i := 15) rfl rfl rfl (Rdo.eqi rfl rfl) (At (i := 16) rfl (Rdo.pick_t rfl rfl) (At (i := 17) rfl (Rdo.move rfl) ?_))))
          refine WpA.tT 30 rfl (by first | rfl | assumption | (simp only [decide_eq_true_eq, decide_eq_false_iff_not, Bool.not_eq_true', Bool.not_eq_false', List.length_cons, List.length_nil]; first | assumption | omega) | (simp <;> done) | (simp <;> omega)) ?_
          refine Aw (i := 18) rfl rfl rfl (Rdo.fieldAddr0 rfl) ?_
          refine Aw (i := 19) rfl rfl rfl (Rdo.load rfl (Lds.one (by assumption))) ?_
          refine Aw (i := 20) rfl rfl rfl (Rdo.fieldAddr0 rfl) (Aw (i := 21) rfl rfl rfl (Rdo.load rfl (Lds.next (Lds.one rfl))) (Aw (i := 22) rfl rfl rfl (Rdo.eqi rfl rfl) (At (i := 23) rfl (Rdo.pick_t rfl rfl) (At (i := 24) rfl (Rdo.move rfl) ?_))))
          refine WpA.tF 37 rfl (by first | rfl | assumption | (simp only [decide_eq_true_eq, decide_eq_false_iff_not, Bool.not_eq_true', Bool.not_eq_false', List.length_cons, List.length_nil]; first | assumption | omega) | (simp <;> done) | (simp <;> omega)) ?_
          refine WpA.pass (i := 25) rfl rfl rfl rfl rfl (by kernel_rfl) (by kernel_rfl) (by kernel_rfl) rfl ?_
          refine WpA.pass (i := 26) rfl rfl rfl rfl rfl (by kernel_rfl) (by kernel_rfl) (by kernel_rfl) rfl ?_
          refine WpA.pass (i := 27) rfl rfl rfl rfl rfl (by kernel_rfl) (by kernel_rfl) (by kernel_rfl) rfl ?_
          refine WpA.pass (i := 28) rfl rfl rfl rfl rfl (by kernel_rfl) (by kernel_rfl) (by kernel_rfl) rfl ?_
          refine WpA.pass (i := 29) rfl rfl rfl rfl rfl (by kernel_rfl) (by kernel_rfl) (by kernel_rfl) rfl ?_
          refine WpA.pass (i := 30) rfl rfl rfl rfl rfl (by kernel_rfl) (by kernel_rfl) (by kernel_rfl) rfl ?_
          refine At (i := 31) rfl (Rdo.pick_f rfl rfl) ?_
          refine WpA.stop (by kernel_rfl) ?_
          refine Ql ?_
          refine WpR.done (by kernel_rfl) ?_
          refine Thn.n ?_
          refine Wp.condF rfl ?_
          refine Wp.skip ?_
          refine Ret.end_ ResV.nil Gk ⟨rfl, rfl⟩
      · rw [if_neg (by simp [b2])]
        refine Trip.of_body Tryz.func56 rfl Tryz.ntmps56 Tryz.results56 rfl ?_
        refine Wsr ?_
        (refine WpL.step (Stp.boxV rfl (VC.ag _) rfl ?_); intro nb2)
        refine Lnt (Wp.seq (Wsr (Ls (Rdo.fieldAddr0 rfl) (Ls (Rdo.load rfl (Lds.one rfl)) (Ls (Rdo.lenSlice rfl) (Ls (Rdo.eqi rfl rfl) (Lnt (cL rfl (Wp.skip (Thn.n (Wsr (Ls (Rdo.fieldAddr0 rfl) (Ls (Rdo.load rfl (Lds.one rfl)) ?_)))))))))))))
        refine Ls (Rdo.indexSliceE (i := 0) rfl rfl rfl (by first | omega | (simp <;> omega))) ?_
        refine Ls (Rdo.load rfl (Lds.next (Lds.next (Lds.next (Lds.next (Lds.next (Lds.fzV (by assumption)))))))) ?_
        (refine WpL.step (Stp.alloc rfl ?_); intro nb23)
        refine WpL.step (St rfl rfl (VC.ag _) ?_)
        refine Lnt (Wp.seq ?_)
        refine Wp.draw (by kernel_rfl) ?_
        refine Qt (i := 0) rfl (Rdo.fieldAddr0 rfl) ?_
        refine Qo (i := 1) rfl (Stp.rd (Rdo.load rfl (Lds.one rfl)) rfl ?_)
        refine Qt (i := 2) rfl (Rdo.eqi rfl rfl) (Qt (i := 3) rfl (Rdo.move rfl) ?_)
        refine WpR.tT 16 rfl (by first | rfl | assumption | (simp only [decide_eq_true_eq, decide_eq_false_iff_not, Bool.not_eq_true', Bool.not_eq_false', List.length_cons, List.length_nil]; first | assumption | omega) | (simp <;> done) | (simp <;> omega)) ?_
        refine Qp (i := 4) rfl rfl rfl (Qp (i := 5) rfl rfl rfl (Qp (i := 6) rfl rfl rfl (Qt (i := 7) rfl (Rdo.pick_t rfl rfl) (Qt (i := 8) rfl (Rdo.move rfl) (Qw (i := 9) rfl rfl rfl (Rdo.fieldAddr0 rfl) (Qw (i := 11) rfl rfl rfl (Rdo.move rfl) (Qw (i := 12) rfl rfl rfl (Rdo.nilCheck rfl) (Qw (i := 13) rfl rfl rfl (Rdo.fieldAddr0 rfl) ?_))))))))
        refine WpR.phaseL (m := 0) #[true, true, true, true, true, true, true, true, true, true, true, true, true, true, true, true, true, true, true, true, true, true, true, true, true, true, true, true, true, true, true, true] 19 _ rfl (by kernel_rfl) (Tk.cons Pk.here (Tk.cons (Pk.next Pk.here) Tk.nil)) ?_
        refine Aw (i := 10) rfl rfl rfl (Rdo.load rfl (Lds.one rfl)) (Aw (i := 14) rfl rfl rfl (Rdo.load rfl (Lds.next (Lds.one rfl))) (Aw (i := 15) rfl rfl rfl (Rdo.eqi rfl rfl) (At (i := 16) rfl (Rdo.pick_t rfl rfl) (At (i := 17) rfl (Rdo.move rfl) ?_))))
        refine WpA.tF 30 rfl (by first | rfl | assumption | (simp only [decide_eq_true_eq, decide_eq_false_iff_not, Bool.not_eq_true', Bool.not_eq_false', List.length_cons, List.length_nil]; first | assumption | omega) | (simp <;> done) | (simp <;> omega)) ?_
        refine WpA.pass (i := 18) rfl rfl rfl rfl rfl (by kernel_rfl) (by kernel_rfl) (by kernel_rfl) rfl ?_
        refine WpA.pass (i := 19) rfl rfl rfl rfl rfl (by kernel_rfl) (by kernel_rfl) (by kernel_rfl) rfl ?_
        refine WpA.pass (i := 20) rfl rfl rfl rfl rfl (by kernel_rfl) (by kernel_rfl) (by kernel_rfl) rfl ?_
        refine WpA.pass (i := 21) rfl rfl rfl rfl rfl (by kernel_rfl) (by kernel_rfl) (by kernel_rfl) rfl ?_
        refine WpA.pass (i := 22) rfl rfl rfl rfl rfl (by kernel_rfl) (by kernel_rfl) (by kernel_rfl) rfl ?_
        refine At (i := 23) rfl (Rdo.pick_f rfl rfl) (At (i := 24) rfl (Rdo.move rfl) ?_)
        refine WpA.pass (i := 25) rfl rfl rfl rfl rfl (by kernel_rfl) (by kernel_rfl) (by kernel_rfl) rfl ?_
        refine WpA.pass (i := 26) rfl rfl rfl rfl rfl (by kernel_rfl) (by kernel_rfl) (by kernel_rfl) rfl ?_
        refine WpA.pass (i := 27) rfl rfl rfl rfl rfl (by kernel_rfl) (by kernel_rfl) (by kernel_rfl) rfl ?_
        refine WpA.pass (i := 28) rfl rfl rfl rfl rfl (by kernel_rfl) (by kernel_rfl) (by kernel_rfl) rfl ?_
        refine WpA.pass (i := 29) rfl rfl rfl rfl rfl (by kernel_rfl) (by kernel_rfl) (by kernel_rfl) rfl ?_
        refine WpA.pass (i := 30) rfl rfl rfl rfl rfl (by kernel_rfl) (by kernel_rfl) (by kernel_rfl) rfl ?_
        refine At (i := 31) rfl (Rdo.pick_f rfl rfl) ?_
        refine WpA.stop (by kernel_rfl) ?_
        refine Ql ?_
        refine WpR.done (by kernel_rfl) ?_
        refine Thn.n ?_
        refine Wp.condF rfl ?_
        refine Wp.skip ?_
        refine Ret.end_ ResV.nil Gk ⟨rfl, rfl⟩
    by_cases b1' : v.kind = 2
    · by_cases b2 : v.slot = x.slot
      · by_cases b3 : v.from_ = M.from_
        · have s2 := counts_ok b m.t2 (rouX x m) v x.comm (.inr ⟨b1', rfl⟩) (hb2 _)
          have hcc : x.counts v = { x with comm := addV x.comm v } := by unfold RouS.counts; rw [if_neg b1]
          generalize hg : goodV x.keys v = g at *
          cases g with
          | true =>
            rw [if_pos ⟨.inr b1', b2, b3, rfl⟩, hcc]
            refine Trip.of_body Tryz.func56 rfl Tryz.ntmps56 Tryz.results56 rfl ?_
            refine Wsr ?_
            (refine WpL.step (Stp.boxV rfl (VC.ag _) rfl ?_); intro nb2)
            refine Lnt (Wp.seq (Wsr (Ls (Rdo.fieldAddr0 rfl) (Ls (Rdo.load rfl (Lds.one rfl)) (Ls (Rdo.lenSlice rfl) (Ls (Rdo.eqi rfl rfl) (Lnt (cL rfl (Wp.skip (Thn.n (Wsr (Ls (Rdo.fieldAddr0 rfl) (Ls (Rdo.load rfl (Lds.one rfl)) ?_)))))))))))))
            refine Ls (Rdo.indexSliceE (i := 0) rfl rfl rfl (by first | omega | (simp <;> omega))) ?_
            refine Ls (Rdo.load rfl (Lds.next (Lds.next (Lds.next (Lds.next (Lds.next (Lds.fzV (by assumption)))))))) ?_
            (refine WpL.step (Stp.alloc rfl ?_); intro nb23)
            refine WpL.step (St rfl rfl (VC.ag _) ?_)
            refine Lnt (Wp.seq ?_)
            refine Wp.draw (by kernel_rfl) ?_
            refine Qt (i := 0) rfl (Rdo.fieldAddr0 rfl) ?_
            refine Qo (i := 1) rfl (Stp.rd (Rdo.load rfl (Lds.one rfl)) rfl ?_)
            refine Qt (i := 2) rfl (Rdo.eqi rfl rfl) (Qt (i := 3) rfl (Rdo.move rfl) ?_)
            refine WpR.tF 16 rfl (by first | rfl | assumption | (simp only [decide_eq_true_eq, decide_eq_false_iff_not, Bool.not_eq_true', Bool.not_eq_false', List.length_cons, List.length_nil]; first | assumption | omega) | (simp <;> done) | (simp <;> omega)) ?_
            refine Qw (i := 4) rfl rfl rfl (Rdo.fieldAddr0 rfl) ?_
            refine WpR.oneG (i := 5) rfl rfl rfl rfl (by kernel_rfl) (Stp.rd (Rdo.load rfl (Lds.one rfl)) rfl ?_)
            refine Qw (i := 6) rfl rfl rfl (Rdo.eqi rfl rfl) (Qt (i := 7) rfl (Rdo.pick_f rfl rfl) (Qt (i := 8) rfl (Rdo.move rfl) ?_))
            refine WpR.tT 21 rfl (by first | rfl | assumption | (simp only [decide_eq_true_eq, decide_eq_false_iff_not, Bool.not_eq_true', Bool.not_eq_false', List.length_cons, List.length_nil]; first | assumption | omega) | (simp <;> done) | (simp <;> omega)) ?_
            refine Qw (i := 9) rfl rfl rfl (Rdo.fieldAddr0 rfl) (Qw (i := 11) rfl rfl rfl (Rdo.move rfl) (Qw (i := 12) rfl rfl rfl (Rdo.nilCheck rfl) (Qw (i := 13) rfl rfl rfl (Rdo.fieldAddr0 rfl) ?_)))
            refine WpR.phaseL (m := 0) #[true, true, true, true, true, true, true, true, true, true, true, true, true, true, true, true, true, true, true, true, true, true, true, true, true, true, true, true, true, true, true, true] 19 _ rfl (by kernel_rfl) (Tk.cons Pk.here (Tk.cons Pk.here (Tk.cons Pk.here Tk.nil))) ?_
            refine Aw (i := 10) rfl rfl rfl (Rdo.load rfl (Lds.one rfl)) (Aw (i := 14) rfl rfl rfl (Rdo.load rfl (Lds.next (Lds.next (Lds.one rfl)))) (Aw (i := 15) rfl rfl rfl (Rdo.eqi rfl rfl) (At (i := 16) rfl (Rdo.pick_t rfl rfl) (At (i := 17) rfl (Rdo.move rfl) ?_))))
            refine WpA.tT 30 rfl (by first | rfl | assumption | (simp only [decide_eq_true_eq, decide_eq_false_iff_not, Bool.not_eq_true', Bool.not_eq_false', List.length_cons, List.length_nil]; first | assumption | omega) | (simp <;> done) | (simp <;> omega)) ?_
            refine Aw (i := 18) rfl rfl rfl (Rdo.fieldAddr0 rfl) ?_
            refine Aw (i := 19) rfl rfl rfl (Rdo.load rfl (Lds.one (by assumption))) ?_
            refine Aw (i := 20) rfl rfl rfl (Rdo.fieldAddr0 rfl) (Aw (i := 21) rfl rfl rfl (Rdo.load rfl (Lds.next (Lds.one rfl))) (Aw (i := 22) rfl rfl rfl (Rdo.eqi rfl rfl) (At (i := 23) rfl (Rdo.pick_t rfl rfl) (At (i := 24) rfl (Rdo.move rfl) ?_))))
            refine WpA.tT 37 rfl (by first | rfl | assumption | (simp only [decide_eq_true_eq, decide_eq_false_iff_not, Bool.not_eq_true', Bool.not_eq_false', List.length_cons, List.length_nil]; first | assumption | omega) | (simp <;> done) | (simp <;> omega)) ?_
            refine Aw (i := 25) rfl rfl rfl (Rdo.move rfl) (Aw (i := 26) rfl rfl rfl (Rdo.nilCheck rfl) (Aw (i := 27) rfl rfl rfl (Rdo.fieldAddr0 rfl) (Aw (i := 28) rfl rfl rfl (Rdo.load rfl (Lds.next (Lds.next (Lds.one rfl)))) ?_)))
            refine Aw (i := 29) rfl rfl rfl (Rdo.load rfl Ld) ?_
            refine WpA.oneG (i := 30) rfl rfl rfl rfl (by kernel_rfl) (Sc (s1) rfl ?_)
            rintro _ _ ⟨rfl, rfl⟩
            refine WpA.lst (by simp only [List.cons_append, List.nil_append]; exact rfl) ?_
            refine At (i := 31) rfl (Rdo.pick_t rfl rfl) ?_
            refine WpA.stop (by kernel_rfl) ?_
            refine Ql ?_
            refine WpR.done (by kernel_rfl) ?_
            refine Thn.n ?_
            refine Wp.condT rfl ?_
            refine Wp.region (Ls (Rdo.move rfl) ?_)
            refine Ls (Rdo.load rfl Ld) ?_
            refine WpL.step (Sc (s2) rfl ?_)
            rintro _ _ ⟨rfl, rfl⟩
            refine Ll ?_
            refine WpL.nil ?_
            refine Ret.end_ ResV.nil Gk ⟨rfl, rfl⟩
          | false =>
            rw [if_neg (by simp)]
            refine Trip.of_body Tryz.func56 rfl Tryz.ntmps56 Tryz.results56 rfl ?_
            refine Wsr ?_
            (refine WpL.step (Stp.boxV rfl (VC.ag _) rfl ?_); intro nb2)
            refine Lnt (Wp.seq (Wsr (Ls (Rdo.fieldAddr0 rfl) (Ls (Rdo.load rfl (Lds.one rfl)) (Ls (Rdo.lenSlice rfl) (Ls (Rdo.eqi rfl rfl) (Lnt (cL rfl (Wp.skip (Thn.n (Wsr (Ls (Rdo.fieldAddr0 rfl) (Ls (Rdo.load rfl (Lds.one rfl)) ?_)))))))))))))
            refine Ls (Rdo.indexSliceE (i := 0) rfl rfl rfl (by first | omega | (simp <;> omega))) ?_
            refine Ls (Rdo.load rfl (Lds.next (Lds.next (Lds.next (Lds.next (Lds.next (Lds.fzV (by assumption)))))))) ?_
            (refine WpL.step (Stp.alloc rfl ?_); intro nb23)
            refine WpL.step (St rfl rfl (VC.ag _) ?_)
            refine Lnt (Wp.seq ?_)
            refine Wp.draw (by kernel_rfl) ?_
            refine Qt (i := 0) rfl (Rdo.fieldAddr0 rfl) ?_
            refine Qo (i := 1) rfl (Stp.rd (Rdo.load rfl (Lds.one rfl)) rfl ?_)
            refine Qt (i := 2) rfl (Rdo.eqi rfl rfl) (Qt (i := 3) rfl (Rdo.move rfl) ?_)
            refine WpR.tF 16 rfl (by first | rfl | assumption | (simp only [decide_eq_true_eq, decide_eq_false_iff_not, Bool.not_eq_true', Bool.not_eq_false', List.length_cons, List.length_nil]; first | assumption | omega) | (simp <;> done) | (simp <;> omega)) ?_
            refine Qw (i := 4) rfl rfl rfl (Rdo.fieldAddr0 rfl) ?_
            refine WpR.oneG (i := 5) rfl rfl rfl rfl (by kernel_rfl) (Stp.rd (Rdo.load rfl (Lds.one rfl)) rfl ?_)
            refine Qw (i := 6) rfl rfl rfl (Rdo.eqi rfl rfl) (Qt (i := 7) rfl (Rdo.pick_f rfl rfl) (Qt (i := 8) rfl (Rdo.move rfl) ?_))
            refine WpR.tT 21 rfl (by first | rfl | assumption | (simp only [decide_eq_true_eq, decide_eq_false_iff_not, Bool.not_eq_true', Bool.not_eq_false', List.length_cons, List.length_nil]; first | assumption | omega) | (simp <;> done) | (simp <;> omega)) ?_
            refine Qw (i := 9) rfl rfl rfl (Rdo.fieldAddr0 rfl) (Qw (i := 11) rfl rfl rfl (Rdo.move rfl) (Qw (i := 12) rfl rfl rfl (Rdo.nilCheck rfl) (Qw (i := 13) rfl rfl rfl (Rdo.fieldAddr0 rfl) ?_)))
            refine WpR.phaseL (m := 0) #[true, true, true, true, true, true, true, true, true, true, true, true, true, true, true, true, true, true, true, true, true, true, true, true, true, true, true, true, true, true, true, true] 19 _ rfl (by kernel_rfl) (Tk.cons Pk.here (Tk.cons Pk.here (Tk.cons Pk.here Tk.nil))) ?_
            refine Aw (i := 10) rfl rfl rfl (Rdo.load rfl (Lds.one rfl)) (Aw (i := 14) rfl rfl rfl (Rdo.load rfl (Lds.next (Lds.next (Lds.one rfl)))) (Aw (i := 15) rfl rfl rfl (Rdo.eqi rfl rfl) (At (i := 16) rfl (Rdo.pick_t rfl rfl) (At (i := 17) rfl (Rdo.move rfl) ?_))))
            refine WpA.tT 30 rfl (by first | rfl | assumption | (simp only [decide_eq_true_eq, decide_eq_false_iff_not, Bool.not_eq_true', Bool.not_eq_false', List.length_cons, List.length_nil]; first | assumption | omega) | (simp <;> done) | (simp <;> omega)) ?_
            refine Aw (i := 18) rfl rfl rfl (Rdo.fieldAddr0 rfl) ?_
            refine Aw (i := 19) rfl rfl rfl (Rdo.load rfl (Lds.one (by assumption))) ?_
            refine Aw (i := 20) rfl rfl rfl (Rdo.fieldAddr0 rfl) (Aw (i := 21) rfl rfl rfl (Rdo.load rfl (Lds.next (Lds.one rfl))) (Aw (i := 22) rfl rfl rfl (Rdo.eqi rfl rfl) (At (i := 23) rfl (Rdo.pick_t rfl rfl) (At (i := 24) rfl (Rdo.move rfl) ?_))))
            refine WpA.tT 37 rfl (by first | rfl | assumption | (simp only [decide_eq_true_eq, decide_eq_false_iff_not, Bool.not_eq_true', Bool.not_eq_false', List.length_cons, List.length_nil]; first | assumption | omega) | (simp <;> done) | (simp <;> omega)) ?_
            refine Aw (i := 25) rfl rfl rfl (Rdo.move rfl) (Aw (i := 26) rfl rfl rfl (Rdo.nilCheck rfl) (Aw (i := 27) rfl rfl rfl (Rdo.fieldAddr0 rfl) (Aw (i := 28) rfl rfl rfl (Rdo.load rfl (Lds.next (Lds.next (Lds.one rfl)))) ?_)))
            refine Aw (i := 29) rfl rfl rfl (Rdo.load rfl Ld) ?_
            refine WpA.oneG (i := 30) rfl rfl rfl rfl (by kernel_rfl) (Sc (s1) rfl ?_)
            rintro _ _ ⟨rfl, rfl⟩
            refine WpA.lst (by simp only [List.cons_append, List.nil_append]; exact rfl) ?_
            refine At (i := 31) rfl (Rdo.pick_t rfl rfl) ?_
            refine WpA.stop (by kernel_rfl) ?_
            refine Ql ?_
            refine WpR.done (by kernel_rfl) ?_
            refine Thn.n ?_
            refine Wp.condF rfl ?_
            refine Wp.skip ?_
            refine Ret.end_ ResV.nil Gk ⟨rfl, rfl⟩
        · rw [if_neg (by simp [b3])]
          refine Trip.of_body Tryz.func56 rfl Tryz.ntmps56 Tryz.results56 rfl ?_
          refine Wsr ?_
          (refine WpL.step (Stp.boxV rfl (VC.ag _) rfl ?_); intro nb2)
          refine Lnt (Wp.seq (Wsr (Ls (Rdo.fieldAddr0 rfl) (Ls (Rdo.load rfl (Lds.one rfl)) (Ls (Rdo.lenSlice rfl) (Ls (Rdo.eqi rfl rfl) (Lnt (cL rfl (Wp.skip (Thn.n (Wsr (Ls (Rdo.fieldAddr0 rfl) (Ls (Rdo.load rfl (Lds.one rfl)) ?_)))))))))))))
          refine Ls (Rdo.indexSliceE (i := 0) rfl rfl rfl (by first | omega | (simp <;> omega))) ?_
          refine Ls (Rdo.load rfl (Lds.next (Lds.next (Lds.next (Lds.next (Lds.next (Lds.fzV (by assumption)))))))) ?_
          (refine WpL.step (Stp.alloc rfl ?_); intro nb23)
          refine WpL.step (St rfl rfl (VC.ag _) ?_)
          refine Lnt (Wp.seq ?_)
          refine Wp.draw (by kernel_rfl) ?_
          refine Qt (i := 0) rfl (Rdo.fieldAddr0 rfl) ?_
          refine Qo (i := 1) rfl (Stp.rd (Rdo.load rfl (Lds.one rfl)) rfl ?_)
          refine Qt (i := 2) rfl (Rdo.eqi rfl rfl) (Qt (i := 3) rfl (Rdo.move rfl) ?_)
          refine WpR.tF 16 rfl (by first | rfl | assumption | (simp only [decide_eq_true_eq, decide_eq_false_iff_not, Bool.not_eq_true', Bool.not_eq_false', List.length_cons, List.length_nil]; first | assumption | omega) | (simp <;> done) | (simp <;> omega)) ?_
          refine Qw (i := 4) rfl rfl rfl (Rdo.fieldAddr0 rfl) ?_
          refine WpR.oneG (i := 5) rfl rfl rfl rfl (by kernel_rfl) (Stp.rd (Rdo.load rfl (Lds.one rfl)) rfl ?_)
          refine Qw (i := 6) rfl rfl rfl (Rdo.eqi rfl rfl) (Qt (i := 7) rfl (Rdo.pick_f rfl rfl) (Qt (i := 8) rfl (Rdo.move rfl) ?_))
          refine WpR.tT 21 rfl (by first | rfl | assumption | (simp only [decide_eq_true_eq, decide_eq_false_iff_not, Bool.not_eq_true', Bool.not_eq_false', List.length_cons, List.length_nil]; first | assumption | omega) | (simp <;> done) | (simp <;> omega)) ?_
          refine Qw (i := 9) rfl rfl rfl (Rdo.fieldAddr0 rfl) (Qw (i := 11) rfl rfl rfl (Rdo.move rfl) (Qw (i := 12) rfl rfl rfl (Rdo.nilCheck rfl) (Qw (i := 13) rfl rfl rfl (Rdo.fieldAddr0 rfl) ?_)))
          refine WpR.phaseL (m := 0) #[true, true, true, true, true, true, true, true, true, true, true, true, true, true, true, true, true, true, true, true, true, true, true, true, true, true, true, true, true, true, true, true] 19 _ rfl (by kernel_rfl) (Tk.cons Pk.here (Tk.cons Pk.here (Tk.cons Pk.here Tk.nil))) ?_
          refine Aw (i := 10) rfl rfl rfl (Rdo.load rfl (Lds.one rfl)) (Aw (i := 14) rfl rfl rfl (Rdo.load rfl (Lds.next (Lds.next (Lds.one rfl)))) (Aw (i := 15) rfl rfl rfl (Rdo.eqi rfl rfl) (At (i := 16) rfl (Rdo.pick_t rfl rfl) (At (i := 17) rfl (Rdo.move rfl) ?_))))
          refine WpA.tT 30 rfl (by first | rfl | assumption | (simp only [decide_eq_true_eq, decide_eq_false_iff_not, Bool.not_eq_true', Bool.not_eq_false', List.length_cons, List.length_nil]; first | assumption | omega) | (simp <;> done) | (simp <;> omega)) ?_
          refine Aw (i := 18) rfl rfl rfl (Rdo.fieldAddr0 rfl) ?_
          refine Aw (i := 19) rfl rfl rfl (Rdo.load rfl (Lds.one (by assumption))) ?_
          refine Aw (i := 20) rfl rfl rfl (Rdo.fieldAddr0 rfl) (Aw (i := 21) rfl rfl rfl (Rdo.load rfl (Lds.next (Lds.one rfl))) (Aw (i := 22) rfl rfl rfl (Rdo.eqi rfl rfl) (At (i := 23) rfl (Rdo.pick_t rfl rfl) (At (i := 24) rfl (Rdo.move rfl) ?_))))
          refine WpA.tF 37 rfl (by first | rfl | assumption | (simp only [decide_eq_true_eq, decide_eq_false_iff_not, Bool.not_eq_true', Bool.not_eq_false', List.length_cons, List.length_nil]; first | assumption | omega) | (simp <;> done) | (simp <;> omega)) ?_
          refine WpA.pass (i := 25) rfl rfl rfl rfl rfl (by kernel_rfl) (by kernel_rfl) (by kernel_rfl) rfl ?_
          refine WpA.pass (i := 26) rfl rfl rfl rfl rfl (by kernel_rfl) (by kernel_rfl) (by kernel_rfl) rfl ?_
          refine WpA.pass (i := 27) rfl rfl rfl rfl rfl (by kernel_rfl) (by kernel_rfl) (by kernel_rfl) rfl ?_
          refine WpA.pass (i := 28) rfl rfl rfl rfl rfl (by kernel_rfl) (by kernel_rfl) (by kernel_rfl) rfl ?_
          refine WpA.pass (i := 29) rfl rfl rfl rfl rfl (by kernel_rfl) (by kernel_rfl) (by kernel_rfl) rfl ?_
          refine WpA.pass (i := 30) rfl rfl rfl rfl rfl (by kernel_rfl) (by kernel_rfl) (by kernel_rfl) rfl ?_
          refine At (i := 31) rfl (Rdo.pick_f rfl rfl) ?_
          refine WpA.stop (by kernel_rfl) ?_
          refine Ql ?_
          refine WpR.done (by kernel_rfl) ?_
          refine Thn.n ?_
          refine Wp.condF rfl ?_
          refine Wp.skip ?_
          refine Ret.end_ ResV.nil Gk ⟨rfl, rfl⟩
      · rw [if_neg (by simp [b2])]
        refine Trip.of_body Tryz.func56 rfl Tryz.ntmps56 Tryz.results56 rfl ?_
        refine Wsr ?_
        (refine WpL.step (Stp.boxV rfl (VC.ag _) rfl ?_); intro nb2)
        refine Lnt (Wp.seq (Wsr (Ls (Rdo.fieldAddr0 rfl) (Ls (Rdo.load rfl (Lds.one rfl)) (Ls (Rdo.lenSlice rfl) (Ls (Rdo.eqi rfl rfl) (Lnt (cL rfl (Wp.skip (Thn.n (Wsr (Ls (Rdo.fieldAddr0 rfl) (Ls (Rdo.load rfl (Lds.one rfl)) ?_)))))))))))))
        refine Ls (Rdo.indexSliceE (i := 0) rfl rfl rfl (by first | omega | (simp <;> omega))) ?_
        refine Ls (Rdo.load rfl (Lds.next (Lds.next (Lds.next (Lds.next (Lds.next (Lds.fzV (by assumption)))))))) ?_
        (refine WpL.step (Stp.alloc rfl ?_); intro nb23)
        refine WpL.step (St rfl rfl (VC.ag _) ?_)
        refine Lnt (Wp.seq ?_)
        refine Wp.draw (by kernel_rfl) ?_
        refine Qt (i := 0) rfl (Rdo.fieldAddr0 rfl) ?_
        refine Qo (i := 1) rfl (Stp.rd (Rdo.load rfl (Lds.one rfl)) rfl ?_)
        refine Qt (i := 2) rfl (Rdo.eqi rfl rfl) (Qt (i := 3) rfl (Rdo.move rfl) ?_)
        refine WpR.tF 16 rfl (by first | rfl | assumption | (simp only [decide_eq_true_eq, decide_eq_false_iff_not, Bool.not_eq_true', Bool.not_eq_false', List.length_cons, List.length_nil]; first | assumption | omega) | (simp <;> done) | (simp <;> omega)) ?_
        refine Qw (i := 4) rfl rfl rfl (Rdo.fieldAddr0 rfl) ?_
        refine WpR.oneG (i := 5) rfl rfl rfl rfl (by kernel_rfl) (Stp.rd (Rdo.load rfl (Lds.one rfl)) rfl ?_)
        refine Qw (i := 6) rfl rfl rfl (Rdo.eqi rfl rfl) (Qt (i := 7) rfl (Rdo.pick_f rfl rfl) (Qt (i := 8) rfl (Rdo.move rfl) ?_))
        refine WpR.tT 21 rfl (by first | rfl | assumption | (simp only [decide_eq_true_eq, decide_eq_false_iff_not, Bool.not_eq_true', Bool.not_eq_false', List.length_cons, List.length_nil]; first | assumption | omega) | (simp <;> done) | (simp <;> omega)) ?_
        refine Qw (i := 9) rfl rfl rfl (Rdo.fieldAddr0 rfl) (Qw (i := 11) rfl rfl rfl (Rdo.move rfl) (Qw (i := 12) rfl rfl rfl (Rdo.nilCheck rfl) (Qw (i := 13) rfl rfl rfl (Rdo.fieldAddr0 rfl) ?_)))
        refine WpR.phaseL (m := 0) #[true, true, true, true, true, true, true, true, true, true, true, true, true, true, true, true, true, true, true, true, true, true, true, true, true, true, true, true, true, true, true, true] 19 _ rfl (by kernel_rfl) (Tk.cons Pk.here (Tk.cons (Pk.next Pk.here) Tk.nil)) ?_
        refine Aw (i := 10) rfl rfl rfl (Rdo.load rfl (Lds.one rfl)) (Aw (i := 14) rfl rfl rfl (Rdo.load rfl (Lds.next (Lds.one rfl))) (Aw (i := 15) rfl rfl rfl (Rdo.eqi rfl rfl) (At (i := 16) rfl (Rdo.pick_t rfl rfl) (At (i := 17) rfl (Rdo.move rfl) ?_))))
        refine WpA.tF 30 rfl (by first | rfl | assumption | (simp only [decide_eq_true_eq, decide_eq_false_iff_not, Bool.not_eq_true', Bool.not_eq_false', List.length_cons, List.length_nil]; first | assumption | omega) | (simp <;> done) | (simp <;> omega)) ?_
        refine WpA.pass (i := 18) rfl rfl rfl rfl rfl (by kernel_rfl) (by kernel_rfl) (by kernel_rfl) rfl ?_
        refine WpA.pass (i := 19) rfl rfl rfl rfl rfl (by kernel_rfl) (by kernel_rfl) (by kernel_rfl) rfl ?_
        refine WpA.pass (i := 20) rfl rfl rfl rfl rfl (by kernel_rfl) (by kernel_rfl) (by kernel_rfl) rfl ?_
        refine WpA.pass (i := 21) rfl rfl rfl rfl rfl (by kernel_rfl) (by kernel_rfl) (by kernel_rfl) rfl ?_
        refine WpA.pass (i := 22) rfl rfl rfl rfl rfl (by kernel_rfl) (by kernel_rfl) (by kernel_rfl) rfl ?_
        refine At (i := 23) rfl (Rdo.pick_f rfl rfl) (At (i := 24) rfl (Rdo.move rfl) ?_)
        refine WpA.pass (i := 25) rfl rfl rfl rfl rfl (by kernel_rfl) (by kernel_rfl) (by kernel_rfl) rfl ?_
        refine WpA.pass (i := 26) rfl rfl rfl rfl rfl (by kernel_rfl) (by kernel_rfl) (by kernel_rfl) rfl ?_
        refine WpA.pass (i := 27) rfl rfl rfl rfl rfl (by kernel_rfl) (by kernel_rfl) (by kernel_rfl) rfl ?_
        refine WpA.pass (i := 28) rfl rfl rfl rfl rfl (by kernel_rfl) (by kernel_rfl) (by kernel_rfl) rfl ?_
        refine WpA.pass (i := 29) rfl rfl rfl rfl rfl (by kernel_rfl) (by kernel_rfl) (by kernel_rfl) rfl ?_
        refine WpA.pass (i := 30) rfl rfl rfl rfl rfl (by kernel_rfl) (by kernel_rfl) (by kernel_rfl) rfl ?_
        refine At (i := 31) rfl (Rdo.pick_f rfl rfl) ?_
        refine WpA.stop (by kernel_rfl) ?_
        refine Ql ?_
        refine WpR.done (by kernel_rfl) ?_
        refine Thn.n ?_
        refine Wp.condF rfl ?_
        refine Wp.skip ?_
        refine Ret.end_ ResV.nil Gk ⟨rfl, rfl⟩
    · rw [if_neg (by simp [b1, b1'])]
      refine Trip.of_body Tryz.func56 rfl Tryz.ntmps56 Tryz.results56 rfl ?_
      refine Wsr ?_
      (refine WpL.step (Stp.boxV rfl (VC.ag _) rfl ?_); intro nb2)
      refine Lnt (Wp.seq (Wsr (Ls (Rdo.fieldAddr0 rfl) (Ls (Rdo.load rfl (Lds.one rfl)) (Ls (Rdo.lenSlice rfl) (Ls (Rdo.eqi rfl rfl) (Lnt (cL rfl (Wp.skip (Thn.n (Wsr (Ls (Rdo.fieldAddr0 rfl) (Ls (Rdo.load rfl (Lds.one rfl)) ?_)))))))))))))
      refine Ls (Rdo.indexSliceE (i := 0) rfl rfl rfl (by first | omega | (simp <;> omega))) ?_
      refine Ls (Rdo.load rfl (Lds.next (Lds.next (Lds.next (Lds.next (Lds.next (Lds.fzV (by assumption)))))))) ?_
      (refine WpL.step (Stp.alloc rfl ?_); intro nb23)
      refine WpL.step (St rfl rfl (VC.ag _) ?_)
      refine Lnt (Wp.seq ?_)
      refine Wp.draw (by kernel_rfl) ?_
      refine Qt (i := 0) rfl (Rdo.fieldAddr0 rfl) ?_
      refine Qo (i := 1) rfl (Stp.rd (Rdo.load rfl (Lds.one rfl)) rfl ?_)
      refine Qt (i := 2) rfl (Rdo.eqi rfl rfl) (Qt (i := 3) rfl (Rdo.move rfl) ?_)
      refine WpR.tF 16 rfl (by first | rfl | assumption | (simp only [decide_eq_true_eq, decide_eq_false_iff_not, Bool.not_eq_true', Bool.not_eq_false', List.length_cons, List.length_nil]; first | assumption | omega) | (simp <;> done) | (simp <;> omega)) ?_
      refine Qw (i := 4) rfl rfl rfl (Rdo.fieldAddr0 rfl) ?_
      refine WpR.oneG (i := 5) rfl rfl rfl rfl (by kernel_rfl) (Stp.rd (Rdo.load rfl (Lds.one rfl)) rfl ?_)
      refine Qw (i := 6) rfl rfl rfl (Rdo.eqi rfl rfl) (Qt (i := 7) rfl (Rdo.pick_f rfl rfl) (Qt (i := 8) rfl (Rdo.move rfl) ?_))
      refine WpR.tF 21 rfl (by first | rfl | assumption | (simp only [decide_eq_true_eq, decide_eq_false_iff_not, Bool.not_eq_true', Bool.not_eq_false', List.length_cons, List.length_nil]; first | assumption | omega) | (simp <;> done) | (simp <;> omega)) ?_
      refine Qp (i := 9) rfl rfl rfl (Qp (i := 10) rfl rfl rfl (Qp (i := 11) rfl rfl rfl (Qp (i := 12) rfl rfl rfl (Qp (i := 13) rfl rfl rfl (Qp (i := 14) rfl rfl rfl (Qp (i := 15) rfl rfl rfl (Qt (i := 16) rfl (Rdo.pick_f rfl rfl) (Qt (i := 17) rfl (Rdo.move rfl) (Qp (i := 18) rfl rfl rfl (Qp (i := 19) rfl rfl rfl (Qp (i := 20) rfl rfl rfl (Qp (i := 21) rfl rfl rfl (Qp (i := 22) rfl rfl rfl ?_)))))))))))))
      refine Qt (i := 23) rfl (Rdo.pick_f rfl rfl) (Qt (i := 24) rfl (Rdo.move rfl) (Qp (i := 25) rfl rfl rfl (Qp (i := 26) rfl rfl rfl (Qp (i := 27) rfl rfl rfl (Qp (i := 28) rfl rfl rfl (Qp (i := 29) rfl rfl rfl (Qp (i := 30) rfl rfl rfl (Qt (i := 31) rfl (Rdo.pick_f rfl rfl) ?_))))))))
      refine WpR.done (by kernel_rfl) ?_
      refine Thn.n ?_
      refine Wp.condF rfl ?_
      refine Wp.skip ?_
      refine Ret.end_ ResV.nil Gk ⟨rfl, rfl⟩
/-- A decision. -/
theorem decides_ok (b : Nat) (x : RouS) (m : RouM) (p q : Option Addr × Nat) (value : List UInt8) (why : List Vote) (hv : value.length ≤ 1000000) (hn : why.length ≤ 1000000) :
    Trip Tryz.prog 95 [vp b 0, .slice p.1 value.length p.2, .slice q.1 why.length q.2] [cel b rT (rouX x m), bsF p value, vsF q why]
      (fun r l => r = .tuple #[] ∧ ∃ dx : PX, l = [cel b rT (rouX (x.decides value why) { m with dx := dx }), bsF dx.1 value, vsF dx.2 why, bsF p value, vsF q why]) := by
  have s1 := bclone_ok p.1 p.2 value (by omega)
  have s2 := vclone_ok q.1 q.2 why (by omega)
  refine Trip.of_body Tryz.func95 rfl Tryz.ntmps95 Tryz.results95 rfl ?_
  refine Wp.region (Ls (Rdo.move rfl) (Ls (Rdo.move rfl) (Ls (Rdo.move rfl) (Ls (Rdo.move rfl) ?_))))
  refine WpL.step (Sc (s1) rfl ?_)
  rintro _ _ ⟨v6_0, ⟨v6_1, ⟨rfl, rfl⟩⟩⟩
  refine Ll ?_
  refine Ls (Rdo.move rfl) ?_
  refine WpL.step (Sc (s2) rfl ?_)
  rintro _ _ ⟨v10_0, ⟨v10_1, ⟨rfl, rfl⟩⟩⟩
  refine Ll ?_
  refine Ls (Rdo.nilCheck rfl) (Ls (Rdo.fieldAddr0 rfl) ?_)
  refine WpL.step (Stp.storeV rfl rfl (VC.sl _ _ _) rfl (Sts.next (Sts.next (Sts.next (Sts.next (Sp (oneCells1 rfl)))))) ?_)
  refine Ls (Rdo.nilCheck rfl) (Ls (Rdo.fieldAddr0 rfl) ?_)
  refine WpL.step (Stp.storeV rfl rfl (VC.sl _ _ _) rfl (Sts.next (Sts.next (Sts.next (Sts.next (Sp (oneCells1 rfl)))))) ?_)
  refine Ls (Rdo.nilCheck rfl) (Ls (Rdo.fieldAddr0 rfl) ?_)
  refine WpL.step (Stp.storeV rfl rfl (VC.b _) rfl (Sts.next (Sts.next (Sts.next (Sts.next (Sp (oneCells1 rfl)))))) ?_)
  refine WpL.nil ?_
  exact Ret.end_ (l' := [cel b rT (rouX (x.decides value why) { m with dx := ((v6_0, v6_1), (v10_0, v10_1)) }), bsF (v6_0, v6_1) value, vsF (v10_0, v10_1) why, bsF p value, vsF q why]) ResV.nil Gk ⟨rfl, ((v6_0, v6_1), (v10_0, v10_1)), rfl⟩
end Go.Proofs.YtomijhgicennbaaGreat
namespace Go.Proofs.YtomijhgicennbaaGreat
open Go
set_option maxHeartbeats 4000000
set_option linter.unusedSimpArgs false
set_option linter.unusedVariables false
set_option maxRecDepth 20000
theorem IterOK.ghost {P : Program} {gf : FuncId} {cap : List Value} {α β : Type} {enc : α → List Value} {see own : List HP} {own' : β → List HP} {S : List α → Prop} (h1 : GhE own (fun _ : β => True) own') (h2 : ∀ x, Gh (own' x) own) (h : ∀ x, IterOK P gf cap enc see (own' x) S) : IterOK P gf cap enc see own S := by
  intro Y J Jx hY l0 h0 hsee
  refine Trip.ghE (φ := fun _ : β => True) (f := fun x => l0 ++ own' x) (GhE.mk fun F w hl => ?_) ?_
  · obtain ⟨G, k1, k2⟩ := (hl.perm List.perm_append_comm).frame
    obtain ⟨x, _, k3⟩ := h1.use k1
    exact ⟨x, trivial, (k2 _ _ k3).perm List.perm_append_comm⟩
  · intro x _
    refine Trip.via (h x Y J Jx hY l0 h0 hsee) (rest := []) Tk.rfl_ ?_
    rintro v l (⟨xs, l', a1, a2, rfl⟩ | ⟨pre, l', a1, rfl⟩)
    · exact ⟨l' ++ own, .inl ⟨xs, l', a1, a2, rfl⟩, by rw [List.append_nil]; exact Gh.frame l' (h2 x)⟩
    · exact ⟨l' ++ own, .inr ⟨pre, l', a1, rfl⟩, by rw [List.append_nil]; exact Gh.frame l' (h2 x)⟩
theorem boIterB (q : Nat) (L : List Vote) (hn : L.length ≤ 1000000) (sum : Hash) (c1 c2 : Nat) : IterOK Tryz.prog 181 [vp c1 0, vp c2 0] voteV [] (boL (vp q 0) sum c1 c2 ++ [balA q L]) (fun xs => xs = sumV sum L) := by
  refine IterOK.ghost (β := Value) (own' := fun s => boL (vp q 0) sum c1 c2 ++ [cel q 189 [s], rowA 44 68 s L.length (votesC L)]) ?_ ?_ (fun s => boIterA q s L hn sum c1 c2)
  · have h := bal_open (l := boL (vp q 0) sum c1 c2 ++ [balA q L]) (q := q) (vs := L) (Pk.next (Pk.next Pk.here))
    refine GhE.mk fun F w hl => ?_
    obtain ⟨s, h1, h2⟩ := h.use hl
    exact ⟨s, h1, Gh.use Gk h2⟩
  · intro s
    exact Gh.trans (Gh.tk (l' := [cel q 189 [s], rowA 44 68 s L.length (votesC L), cel c1 97 [vp q 0], cel c2 28 (hc sum)]) (by repeat (first | exact Tk.nil | apply Tk.cons (by repeat (first | exact Pk.here | apply Pk.next))))) (Gh.trans (bal_shut rfl) Gk)
theorem boIterN2 (sum : Hash) (c1 c2 : Nat) : IterOK Tryz.prog 181 [vp c1 0, vp c2 0] voteV [] (boL (.pointer none) sum c1 c2 ++ [pureH True]) (fun xs => xs = sumV sum []) := by
  refine IterOK.ghost (β := Unit) (own' := fun _ => boL (.pointer none) sum c1 c2) (GhE.mk fun F w hl => ⟨(), trivial, ?_⟩) (fun _ => ?_) (fun _ => boIterN sum c1 c2)
  · exact Gh.use Gk hl
  · refine Gh.mk fun F w hl => ?_
    exact ((Holds.shut_pure (φ := True) trivial hl)).perm (List.perm_append_comm (l₁ := [_]))
theorem sortV_len (l : List Vote) : (sortV l).length = l.length := (sortV_perm l).length_eq
theorem vsorted_fz (gf : FuncId) (cap : List Value) (own : List HP) (L : List Vote) (hl : L.length ≤ 12) (hF : ∀ x ∈ L, okFrom x) (hd : (L.map (·.from_)).Nodup) (hf : callable Tryz.prog gf = true) (hit : IterOK Tryz.prog gf cap voteV [] own (fun xs => xs = L)) :
    Trip Tryz.prog 150 [.func (.func gf) #[] cap.toArray, cmpF] own
      (fun r l => ∃ q : Option Addr × Nat, r = .slice q.1 (sortV L).length q.2 ∧ l = vsF q (sortV L) :: own) := by
  refine Trip.viaG (vsorted_ok gf cap own L hl hF hd hf hit) (rest := []) Tk.rfl_ ?_
  rintro r l rfl F w hl
  rw [List.append_nil] at hl
  obtain ⟨a, c, rfl⟩ := Holds.fact (fun r => rowA_shape) hl
  have e : L.length = (sortV L).length := (sortV_len L).symm
  clear hit hd hF
  generalize sortV L = S at *
  rw [e] at hl ⊢
  exact ⟨_, ⟨(a, c), rfl, rfl⟩, (Gh.ice Pk.here).use hl⟩
theorem find_at {α : Type} {P : α → Bool} {l : List α} {i : Nat} {x : α} (hx : l[i]? = some x) (hno : (l.take i).find? P = none) (hp : P x = true) : l.find? P = some x := by
  have h1 : l = l.take i ++ x :: l.drop (i + 1) := by
    obtain ⟨h4, h5⟩ := List.getElem?_eq_some_iff.1 hx
    rw [← h5, ← List.drop_eq_getElem_cons h4, List.take_append_drop]
  rw [h1, List.find?_append, hno, List.find?_cons, hp]
  rfl
def okL (L : List Vote) : Prop := ∀ sum, (sumV sum L).length ≤ 12 ∧ (∀ v ∈ sumV sum L, okFrom v) ∧ ((sumV sum L).map (·.from_)).Nodup
abbrev enP (n : Nat) (L : List Vote) (bs : List UInt8) : Bool := decide (quorum n ≤ (sumV (dHash bs) L).length)
abbrev enW (b : Nat) (cs : List Value) (rb : Nat) (keys : List Hash) (a : Option Addr) (cap : Nat) (vs : List (List UInt8)) (es : List Value) (B : HP) : List HP :=
  [cel b rT cs, ringF rb keys, rowA 22 1 (.slice a vs.length cap) vs.length es, fz (fun g => RdVals g es vs), B]
abbrev enE (b : Nat) (bv : Option Addr) (s : Value) (n i : Nat) : Env := [(0, vp b 0), (1, .pointer bv), (13, s), (14, vi n), (15, vi i)]
theorem enough_ok (b rb : Nat) (keys : List Hash) (cs : List Value) (a : Option Addr) (cap : Nat) (vs : List (List UInt8)) (es : List Value) (bv : Option Addr) (B : HP) (L : List Vote) (hk : keys.length ≤ 10) (h0 : cs[0]? = some (vp rb 0)) (h9 : cs[9]? = some (.slice a vs.length cap))
    (hn : vs.length ≤ 1000) (hl : ∀ v ∈ vs, v.length ≤ 1000000) (hL : okL L) (hit : ∀ sum c1 c2, IterOK Tryz.prog 181 [vp c1 0, vp c2 0] voteV [] (boL (.pointer bv) sum c1 c2 ++ [B]) (fun xs => xs = sumV sum L)) :
    Trip Tryz.prog 116 [vp b 0, .pointer bv] (enW b cs rb keys a cap vs es B)
      (fun r l => (vs.find? (enP keys.length L) = none ∧ r = .tuple #[vnil, vnil, vb false] ∧ l = enW b cs rb keys a cap vs es B) ∨
        (∃ bs p q, vs.find? (enP keys.length L) = some bs ∧ r = .tuple #[.slice p.1 bs.length p.2, .slice q.1 (sortV (sumV (dHash bs) L)).length q.2, vb true] ∧ l = enW b cs rb keys a cap vs es B ++ [bsF p bs, vsF q (sortV (sumV (dHash bs) L))])) := by
  have s1 := fun sum => boOn_ok bv sum
  have s2 := quorumR_ok b rb keys cs hk h0
  refine Trip.of_body Tryz.func116 rfl Tryz.ntmps116 Tryz.results116 rfl ?_
  refine Wsr (Ls (Rdo.assign rfl) (Ls (Rdo.assign rfl) (Ls (Rdo.assign rfl) (Lnt (Wp.seq (Wsr (Ls (Rdo.move rfl) (Ls (Rdo.nilCheck rfl) (Ls (Rdo.fieldAddr0 rfl) ?_)))))))))
  refine Ls (Rdo.load rfl (Lds.one (by assumption))) ?_
  refine Ls (Rdo.lenSlice rfl) (Ls (Rdo.move rfl) (Lnt (Wp.block ?_)))
  refine Wp.loopE (fun k e h => ∃ i : Nat, i + k = vs.length ∧ (vs.take i).find? (enP keys.length L) = none ∧ e = enE b bv (.slice a vs.length cap) vs.length i ∧ h = enW b cs rb keys a cap vs es B) vs.length
    (e0 := enE b bv (.slice a vs.length cap) vs.length (0 : Nat)) (l0 := enW b cs rb keys a cap vs es B) (by repeat (first | exact trivial | refine ⟨rfl, ?_⟩)) (by repeat (first | exact trivial | refine ⟨rfl, ?_⟩)) Gk ⟨0, by omega, by simp, rfl, rfl⟩ ?_
  rintro k e h ⟨i, hik, hno, rfl, rfl⟩
  simp only [enW]
  by_cases hi : i < vs.length
  · refine Wp.get (Pk.next (Pk.next Pk.here)) (fun r => rowA_at i hi) ?_
    rintro ⟨bb, oo, cap', he⟩
    simp only [Value.slice.injEq, true_and] at he
    obtain ⟨rfl, rfl⟩ := he
    obtain ⟨bs, hx⟩ : ∃ x, vs[i]? = some x := ⟨vs[i], List.getElem?_eq_getElem (by omega)⟩
    have htk : vs.take (i + 1) = vs.take i ++ [bs] := by
      obtain ⟨h1, rfl⟩ := List.getElem?_eq_some_iff.1 hx
      exact List.take_succ_eq_append_getElem h1
    refine Wp.ghE (vals_at (Pk.next (Pk.next (Pk.next Pk.here))) hx) ?_
    intro p hp
    have s3 := vsum_ok p.1 p.2 bs (by have := hl bs (List.mem_of_getElem? hx); omega)
    obtain ⟨k1, k2, k3⟩ := hL (dHash bs)
    have s4 : ∀ c1 c2, Trip Tryz.prog 150 [.func (.func 181) #[] [vp c1 0, vp c2 0].toArray, cmpF] [cel c1 97 [.pointer bv], cel c2 28 (hc (dHash bs)), B]
      (fun r l => ∃ q : Option Addr × Nat, r = .slice q.1 (sortV (sumV (dHash bs) L)).length q.2 ∧ l = [vsF q (sortV (sumV (dHash bs) L)), cel c1 97 [.pointer bv], cel c2 28 (hc (dHash bs)), B]) := fun c1 c2 => vsorted_fz _ _ _ _ k1 k2 k3 (by kernel_rfl) (hit (dHash bs) c1 c2)
    have hsl := sortV_len (sumV (dHash bs) L)
    by_cases hq : quorum keys.length ≤ ((sortV (sumV (dHash bs) L)).length : Int)
    · have hq2 : enP keys.length L bs = true := by simp only [enP, decide_eq_true_eq]; omega
      refine Wsr (Ls (Rdo.lti rfl rfl) (Lnt (Wp.seq (cK rfl (Wp.skip (Thn.n (Wp.seq (Wp.block (Wsr ?_)))))))))
      refine Ls (Rdo.indexSlice rfl rfl (by omega)) ?_
      refine Ls (Rdo.load rfl (Lds.next (Lds.next (Lds.next (Lds.next (Lds.row1 (by assumption))))))) ?_
      refine Ls (Rdo.assign rfl) (Lnt (Wsr (Ls (Rdo.move rfl) (Ls (Rdo.move rfl) ?_))))
      refine WpL.step (Sc (s3) rfl ?_)
      rintro _ _ ⟨rfl, rfl⟩
      refine Ll ?_
      refine WpL.step (Sc (s1 _) rfl ?_)
      rintro _ _ ⟨v26_0, ⟨v26_1, ⟨rfl, rfl⟩⟩⟩
      refine Ll ?_
      refine WpL.step (Sc (s4 _ _) rfl ?_)
      rintro _ _ ⟨v29_0, ⟨rfl, rfl⟩⟩
      refine Ll ?_
      refine Ls (Rdo.assign rfl) (Lnt (Wsr (Ls (Rdo.move rfl) (Ls (Rdo.lenSlice rfl) (Ls (Rdo.move rfl) ?_)))))
      refine WpL.step (Sc (s2) rfl ?_)
      rintro _ _ ⟨rfl, rfl⟩
      refine Ll ?_
      refine Ls (Rdo.gei rfl rfl) (Lnt (cK rfl (Wsr (Ls (Rdo.move rfl) (Ls (Rdo.move rfl) (Ls (Rdo.assign rfl) (Ls (Rdo.assign rfl) (Ls (Rdo.assign rfl) (Lnt (Wp.ret ?_))))))))))
      refine Blk.r ?_
      refine Thn.r ?_
      refine Thn.r ?_
      refine Blk.r ?_
      refine Thn.r ?_
      exact Ret.now (l' := enW b cs rb keys (some ⟨bb, oo, none⟩) cap vs es B ++ [bsF p bs, vsF v29_0 (sortV (sumV (dHash bs) L))]) (by repeat (first | exact ResV.nil | apply ResV.tmp rfl | apply ResV.cell rfl (by repeat (first | exact Lds.one rfl | (apply Lds.all; (first | rfl | assumption | (simp <;> fail))) | exact Lds.ione0 | exact Lds.ione rfl | (apply Lds.iall; (first | rfl | assumption | (simp <;> fail))) | apply Lds.next)))) Gk (.inr ⟨bs, p, v29_0, find_at hx hno hq2, rfl, rfl⟩)
    · have hq2 : enP keys.length L bs = false := by simp only [enP, decide_eq_false_iff_not]; omega
      refine Wsr (Ls (Rdo.lti rfl rfl) (Lnt (Wp.seq (cK rfl (Wp.skip (Thn.n (Wp.seq (Wp.block (Wsr ?_)))))))))
      refine Ls (Rdo.indexSlice rfl rfl (by omega)) ?_
      refine Ls (Rdo.load rfl (Lds.next (Lds.next (Lds.next (Lds.next (Lds.row1 (by assumption))))))) ?_
      refine Ls (Rdo.assign rfl) (Lnt (Wsr (Ls (Rdo.move rfl) (Ls (Rdo.move rfl) ?_))))
      refine WpL.step (Sc (s3) rfl ?_)
      rintro _ _ ⟨rfl, rfl⟩
      refine Ll ?_
      refine WpL.step (Sc (s1 _) rfl ?_)
      rintro _ _ ⟨v26_0, ⟨v26_1, ⟨rfl, rfl⟩⟩⟩
      refine Ll ?_
      refine WpL.step (Sc (s4 _ _) rfl ?_)
      rintro _ _ ⟨v29_0, ⟨rfl, rfl⟩⟩
      refine Ll ?_
      refine Ls (Rdo.assign rfl) (Lnt (Wsr (Ls (Rdo.move rfl) (Ls (Rdo.lenSlice rfl) (Ls (Rdo.move rfl) ?_)))))
      refine WpL.step (Sc (s2) rfl ?_)
      rintro _ _ ⟨rfl, rfl⟩
      refine Ll ?_
      refine Ls (Rdo.gei rfl rfl) (Lnt (cL rfl (Wp.skip (Blk.n (Thn.n (Wp.region ?_))))))
      refine Ls (Rdo.succ rfl rfl (by omega)) ?_
      refine Ls (Rdo.move rfl) (Lnt ?_)
      exact ⟨k - 1, _, _, by omega, ⟨i + 1, by omega, by rw [htk, List.find?_append, hno]; simp [hq2], rfl, rfl⟩, (by repeat (first | exact trivial | refine ⟨rfl, ?_⟩)), Gk⟩
  · obtain rfl : i = vs.length := by omega
    rw [List.take_length] at hno
    refine Wsr (Ls (Rdo.lti rfl rfl) (Lnt (Wp.seq (cL rfl ?_))))
    refine Wp.exit ?_
    refine Thn.x ?_
    refine Thn.x ?_
    refine Blk.here ?_
    refine Thn.n (Wsr (Ls (Rdo.assign rfl) (Ls (Rdo.assign rfl) (Ls (Rdo.assign rfl) (Lnt (Wp.ret ?_))))))
    exact Rt (by repeat (first | exact ResV.nil | apply ResV.tmp rfl | apply ResV.cell rfl (by repeat (first | exact Lds.one rfl | (apply Lds.all; (first | rfl | assumption | (simp <;> fail))) | exact Lds.ione0 | exact Lds.ione rfl | (apply Lds.iall; (first | rfl | assumption | (simp <;> fail))) | apply Lds.next)))) (.inl ⟨hno, rfl, rfl⟩)
theorem enough_no (b rb : Nat) (keys : List Hash) (cs : List Value) (a : Option Addr) (cap : Nat) (vs : List (List UInt8)) (es : List Value) (bv : Option Addr) (B : HP) (L : List Vote) (hk : keys.length ≤ 10) (h0 : cs[0]? = some (vp rb 0)) (h9 : cs[9]? = some (.slice a vs.length cap))
    (hn : vs.length ≤ 1000) (hl : ∀ v ∈ vs, v.length ≤ 1000000) (hL : okL L) (hit : ∀ sum c1 c2, IterOK Tryz.prog 181 [vp c1 0, vp c2 0] voteV [] (boL (.pointer bv) sum c1 c2 ++ [B]) (fun xs => xs = sumV sum L)) (hf : vs.find? (enP keys.length L) = none) :
    Trip Tryz.prog 116 [vp b 0, .pointer bv] (enW b cs rb keys a cap vs es B) (fun r l => r = .tuple #[vnil, vnil, vb false] ∧ l = enW b cs rb keys a cap vs es B) := by
  refine Trip.mono (enough_ok b rb keys cs a cap vs es bv B L hk h0 h9 hn hl hL hit) ?_
  rintro r l (⟨_, h1, h2⟩ | ⟨bs, p, q, h1, _⟩)
  · exact ⟨h1, h2⟩
  · rw [hf] at h1; cases h1
theorem enough_yes (b rb : Nat) (keys : List Hash) (cs : List Value) (a : Option Addr) (cap : Nat) (vs : List (List UInt8)) (es : List Value) (bv : Option Addr) (B : HP) (L : List Vote) (hk : keys.length ≤ 10) (h0 : cs[0]? = some (vp rb 0)) (h9 : cs[9]? = some (.slice a vs.length cap))
    (hn : vs.length ≤ 1000) (hl : ∀ v ∈ vs, v.length ≤ 1000000) (hL : okL L) (hit : ∀ sum c1 c2, IterOK Tryz.prog 181 [vp c1 0, vp c2 0] voteV [] (boL (.pointer bv) sum c1 c2 ++ [B]) (fun xs => xs = sumV sum L)) (bs : List UInt8) (hf : vs.find? (enP keys.length L) = some bs) :
    Trip Tryz.prog 116 [vp b 0, .pointer bv] (enW b cs rb keys a cap vs es B) (fun r l => ∃ pq : PX, r = .tuple #[.slice pq.1.1 bs.length pq.1.2, .slice pq.2.1 (sortV (sumV (dHash bs) L)).length pq.2.2, vb true] ∧ l = enW b cs rb keys a cap vs es B ++ [bsF pq.1 bs, vsF pq.2 (sortV (sumV (dHash bs) L))]) := by
  refine Trip.mono (enough_ok b rb keys cs a cap vs es bv B L hk h0 h9 hn hl hL hit) ?_
  rintro r l (⟨h1, _, _⟩ | ⟨bs', p, q, h1, h2, h3⟩)
  · rw [hf] at h1; cases h1
  · rw [hf] at h1; cases h1; exact ⟨(p, q), h2, h3⟩
end Go.Proofs.YtomijhgicennbaaGreat
namespace Go.Proofs.YtomijhgicennbaaGreat
open Go
set_option maxHeartbeats 4000000
set_option linter.unusedSimpArgs false
set_option linter.unusedVariables false
set_option maxRecDepth 20000
abbrev voteM (view : Int) (v : Vote) : Msg := ⟨3, 0, 0, 0, view, [], [v], hash0⟩
theorem all_eq (x : RouS) (M : Msg) : x.all M = allP x.keys x.me x.slot M x.keys.length := rfl
/-- A vote, in new memory, to all others. -/
theorem allVote (b rb : Nat) (keys : List Hash) (cs : List Value) (me slot view : Int) (v : Vote) (hk : keys.length ≤ 10) (h0 : cs[0]? = some (vp rb 0)) (h1 : cs[1]? = some (vi me)) (h2 : cs[2]? = some (vi slot)) (nb : Nat) :
    Trip Tryz.prog 121 [vp b 0, .agg ([vi 3, vi 0, vi 0, vi 0, vi view, vnil, .slice (some ⟨nb, 0, none⟩) 1 1] ++ List.replicate 32 (Value.int .u8 0)).toArray] [cel b rT cs, ringF rb keys, cel nb 44 (voteC v ++ [])]
      (fun r l => ∃ q : Option Addr × Nat, r = .slice q.1 (allP keys me slot (voteM view v) keys.length).length q.2 ∧ l = [cel b rT cs, ringF rb keys, mrF q (allP keys me slot (voteM view v) keys.length)]) := by
  have h := allR_ok b rb keys cs me slot (voteM view v) ((none, 0), (some ⟨nb, 0, none⟩, 1)) hk h0 h1 h2 (by simp) (by simp)
  have ez : msgCs (voteM view v) ((none, 0), (some ⟨nb, 0, none⟩, 1)) = [vi 3, vi 0, vi 0, vi 0, vi view, vnil, .slice (some ⟨nb, 0, none⟩) 1 1] ++ List.replicate 32 (Value.int .u8 0) := rfl
  rw [ez] at h
  refine Trip.gh (l' := [cel b rT cs, ringF rb keys, bsF (none, 0) [], vsF (some ⟨nb, 0, none⟩, 1) [v]]) ?_ (Trip.via h (rest := []) Tk.rfl_ ?_)
  · refine Gh.trans (Gh.row (n := 1) (sz := 68) (Pk.next (Pk.next Pk.here)) (by simp)) ?_
    rw [show voteC v ++ [] = votesC [v] by simp [votesC]]
    exact Gh.trans (Gh.ice Pk.here) (Gh.trans (Gh.noBytes (a := none) (c := 0)) Gk)
  · rintro r l ⟨p, h1, rfl⟩
    exact ⟨_, ⟨p, h1, rfl⟩, Gk⟩
theorem votes1_ok (b : Nat) (x : RouS) (m : RouM) (p : Option Addr × Nat) (value : List UInt8) (hk : x.keys.length ≤ 10) (hv : value.length ≤ 1000000) (hb : ∀ w, (balOf x.prep w).length ≤ 100000) :
    Trip Tryz.prog 118 [vp b 0, vi 1, .slice p.1 value.length p.2] [cel b rT (rouX x m), ringF m.rb x.keys, tbA m.t1 x.prep, bsF p value]
      (fun r l => ∃ q : Option Addr × Nat, r = .slice q.1 (x.votes 1 value).1.length q.2 ∧ l = [cel b rT (rouX x m), ringF m.rb x.keys, tbA m.t1 (x.votes 1 value).2.prep, bsF p value, mrF q (x.votes 1 value).1]) := by
  have s1 := vsum_ok p.1 p.2 value (by omega)
  have s2 := cast_ok m.rb x.keys 1 x.slot x.view (dHash value) x.me hk
  obtain ⟨v, hvv⟩ : ∃ v, v = castV x.keys 1 x.slot x.view (dHash value) x.me := ⟨_, rfl⟩
  have e1 : (x.votes 1 value).1 = allP x.keys x.me x.slot (voteM x.view v) x.keys.length := by rw [hvv]; rfl
  have e2 : (x.votes 1 value).2.prep = addV x.prep v := by rw [hvv]; rfl
  have hkind : v.kind = 1 := by rw [hvv]; rfl
  have hview : v.view = x.view := by rw [hvv]; rfl
  rw [e1, e2]
  rw [← hvv] at s2
  have s3 := counts_ok b m.t1 (rouX x m) v x.prep (.inl ⟨hkind, rfl⟩) (hb _)
  have s4 := allVote b m.rb x.keys (rouX x m) x.me x.slot x.view v hk rfl rfl rfl
  have hlv := voteC_length v
  have hov := oneCells_voteC v
  generalize allP x.keys x.me x.slot (voteM x.view v) x.keys.length = ms at *
  refine Trip.of_body Tryz.func118 rfl Tryz.ntmps118 Tryz.results118 rfl ?_
  refine Wsr (Ls (Rdo.assign rfl) (Lnt (Wp.seq ?_)))
  refine Wp.draw (by kernel_rfl) ?_
  refine Qt (i := 0) rfl (Rdo.move rfl) (Qt (i := 1) rfl (Rdo.nilCheck rfl) (Qt (i := 2) rfl (Rdo.fieldAddr0 rfl) (Qt (i := 4) rfl (Rdo.move rfl) (Qt (i := 5) rfl (Rdo.move rfl) (Qt (i := 6) rfl (Rdo.nilCheck rfl) (Qt (i := 7) rfl (Rdo.fieldAddr0 rfl) (Qt (i := 9) rfl (Rdo.move rfl) (Qt (i := 10) rfl (Rdo.nilCheck rfl) (Qt (i := 11) rfl (Rdo.fieldAddr0 rfl) (Qt (i := 13) rfl (Rdo.move rfl) (Qt (i := 15) rfl (Rdo.move rfl) (Qt (i := 16) rfl (Rdo.nilCheck rfl) (Qt (i := 17) rfl (Rdo.fieldAddr0 rfl) ?_)))))))))))))
  refine WpR.phaseL (m := 0) #[true, true, true, true, true, true, true, true, true, true, true, true, true, true, true, true, true, true, true, true, true, true] 8 _ rfl (by kernel_rfl) (Tk.cons Pk.here Tk.nil) ?_
  refine At (i := 3) rfl (Rdo.load rfl (Lds.one rfl)) (At (i := 8) rfl (Rdo.load rfl (Lds.one rfl)) (At (i := 12) rfl (Rdo.load rfl (Lds.one rfl)) (At (i := 18) rfl (Rdo.load rfl (Lds.one rfl)) ?_)))
  refine PendA.start (i := 20) rfl ?_
  refine PendA.one (j := 14) rfl rfl (by kernel_rfl) (by kernel_rfl) (by kernel_rfl) rfl (by simp) rfl rfl (Sc (s1) rfl ?_)
  rintro _ _ ⟨rfl, rfl⟩
  refine PendA.lst (by simp only [List.cons_append, List.nil_append]; exact rfl) ?_
  refine PendA.one (j := 19) rfl rfl (by kernel_rfl) (by kernel_rfl) (by kernel_rfl) rfl (by simp) rfl rfl (Sc (s2) rfl ?_)
  rintro _ _ ⟨rfl, rfl⟩
  refine PendA.lst (by simp only [List.cons_append, List.nil_append]; exact rfl) ?_
  refine PendA.made rfl (by kernel_rfl) rfl (fun nb33 => ?_)
  refine WpA.one (i := 21) rfl (by kernel_rfl) (St rfl rfl (VC.ag _) ?_)
  refine WpA.stop (by kernel_rfl) ?_
  refine Ql ?_
  refine WpR.done (by kernel_rfl) ?_
  refine Thn.n (Wsr (Ls (Rdo.move rfl) ?_))
  refine Ls (Rdo.load rfl (Lds.next Ld)) ?_
  refine WpL.step (Sc (s3) rfl ?_)
  rintro _ _ ⟨rfl, rfl⟩
  refine Ll ?_
  refine Lnt (Wp.seq ?_)
  refine Wp.draw (by kernel_rfl) ?_
  refine Qt (i := 0) rfl (Rdo.move rfl) (Qt (i := 1) rfl (Rdo.move rfl) (Qt (i := 2) rfl (Rdo.nilCheck rfl) (Qt (i := 3) rfl (Rdo.fieldAddr0 rfl) ?_)))
  refine WpR.load (i := 5) [4] rfl (by kernel_rfl) (by kernel_rfl) (by kernel_rfl) (by kernel_rfl) (by kernel_rfl) rfl Tk.rfl_ (Harm.rd rfl (Rdo.load rfl (Lds.one rfl)) Harm.nil) (Rdo.load rfl (Lds.next (Lds.next Ld))) rfl ?_
  refine Pend.start (hz := MK.sl rfl rfl (VCs.cons (VC.ag _) (by first | rfl | assumption | (simp <;> done)) VCs.nil) (by first | exact rfl | (simp only [List.cons_append, List.nil_append, List.append_nil]; exact rfl)) rfl) (i := 6) rfl ?_
  refine Pend.one (hz := MK.sl rfl rfl (VCs.cons (VC.ag _) (by first | rfl | assumption | (simp <;> done)) VCs.nil) (by first | exact rfl | (simp only [List.cons_append, List.nil_append, List.append_nil]; exact rfl)) rfl) (j := 4) rfl rfl (by kernel_rfl) (by kernel_rfl) (by kernel_rfl) rfl (by simp) rfl rfl (Stp.rd (Rdo.load rfl (Lds.one rfl)) rfl ?_)
  refine Pend.made (hz := MK.sl rfl rfl (VCs.cons (VC.ag _) (by first | rfl | assumption | (simp <;> done)) VCs.nil) (by first | exact rfl | (simp only [List.cons_append, List.nil_append, List.append_nil]; exact rfl)) rfl) rfl (by kernel_rfl) rfl (fun nb57 => ?_)
  refine Qt (i := 7) rfl (Rdo.bld rfl (BldL.cons rfl (VC.i _ _) (by first | rfl | assumption | (simp <;> done)) (by repeat (first | exact LPut.nil _ | (refine LPut.seg ?_; first | assumption | (simp <;> done)) | (refine LPut.segEnd ?_; first | assumption | (simp <;> done)) | (with_reducible apply LPut.here) | apply LPut.hereL | apply LPut.here | (apply LPut.over32; focus (first | assumption | (simp <;> done))) | (with_reducible apply LPut.next) | apply LPut.nextL | apply LPut.next)) (BldL.cons rfl (VC.i _ _) (by first | rfl | assumption | (simp <;> done)) (by repeat (first | exact LPut.nil _ | (refine LPut.seg ?_; first | assumption | (simp <;> done)) | (refine LPut.segEnd ?_; first | assumption | (simp <;> done)) | (with_reducible apply LPut.here) | apply LPut.hereL | apply LPut.here | (apply LPut.over32; focus (first | assumption | (simp <;> done))) | (with_reducible apply LPut.next) | apply LPut.nextL | apply LPut.next)) (BldL.cons rfl (VC.sl _ _ _) (by first | rfl | assumption | (simp <;> done)) (by repeat (first | exact LPut.nil _ | (refine LPut.seg ?_; first | assumption | (simp <;> done)) | (refine LPut.segEnd ?_; first | assumption | (simp <;> done)) | (with_reducible apply LPut.here) | apply LPut.hereL | apply LPut.here | (apply LPut.over32; focus (first | assumption | (simp <;> done))) | (with_reducible apply LPut.next) | apply LPut.nextL | apply LPut.next)) (BldL.nil _))))) ?_
  refine Qo (i := 8) rfl (Sc (s4 _) rfl ?_)
  rintro _ _ ⟨v60_0, ⟨rfl, rfl⟩⟩
  refine Ql ?_
  refine Qt (i := 9) rfl (Rdo.assign rfl) ?_
  refine WpR.done (by kernel_rfl) ?_
  refine Thn.n (Wp.ret ?_)
  refine Rt (ResV.tmp rfl ResV.nil) ⟨_, ⟨rfl, rfl⟩⟩
theorem votes2_ok (b : Nat) (x : RouS) (m : RouM) (p : Option Addr × Nat) (value : List UInt8) (hk : x.keys.length ≤ 10) (hv : value.length ≤ 1000000) (hb : ∀ w, (balOf x.comm w).length ≤ 100000) :
    Trip Tryz.prog 118 [vp b 0, vi 2, .slice p.1 value.length p.2] [cel b rT (rouX x m), ringF m.rb x.keys, tbA m.t2 x.comm, bsF p value]
      (fun r l => ∃ q : Option Addr × Nat, r = .slice q.1 (x.votes 2 value).1.length q.2 ∧ l = [cel b rT (rouX x m), ringF m.rb x.keys, tbA m.t2 (x.votes 2 value).2.comm, bsF p value, mrF q (x.votes 2 value).1]) := by
  have s1 := vsum_ok p.1 p.2 value (by omega)
  have s2 := cast_ok m.rb x.keys 2 x.slot x.view (dHash value) x.me hk
  obtain ⟨v, hvv⟩ : ∃ v, v = castV x.keys 2 x.slot x.view (dHash value) x.me := ⟨_, rfl⟩
  have e1 : (x.votes 2 value).1 = allP x.keys x.me x.slot (voteM x.view v) x.keys.length := by rw [hvv]; rfl
  have e2 : (x.votes 2 value).2.comm = addV x.comm v := by rw [hvv]; rfl
  have hkind : v.kind = 2 := by rw [hvv]; rfl
  have hview : v.view = x.view := by rw [hvv]; rfl
  rw [e1, e2]
  rw [← hvv] at s2
  have s3 := counts_ok b m.t2 (rouX x m) v x.comm (.inr ⟨hkind, rfl⟩) (hb _)
  have s4 := allVote b m.rb x.keys (rouX x m) x.me x.slot x.view v hk rfl rfl rfl
  have hlv := voteC_length v
  have hov := oneCells_voteC v
  generalize allP x.keys x.me x.slot (voteM x.view v) x.keys.length = ms at *
  refine Trip.of_body Tryz.func118 rfl Tryz.ntmps118 Tryz.results118 rfl ?_
  refine Wsr (Ls (Rdo.assign rfl) (Lnt (Wp.seq ?_)))
  refine Wp.draw (by kernel_rfl) ?_
  refine Qt (i := 0) rfl (Rdo.move rfl) (Qt (i := 1) rfl (Rdo.nilCheck rfl) (Qt (i := 2) rfl (Rdo.fieldAddr0 rfl) (Qt (i := 4) rfl (Rdo.move rfl) (Qt (i := 5) rfl (Rdo.move rfl) (Qt (i := 6) rfl (Rdo.nilCheck rfl) (Qt (i := 7) rfl (Rdo.fieldAddr0 rfl) (Qt (i := 9) rfl (Rdo.move rfl) (Qt (i := 10) rfl (Rdo.nilCheck rfl) (Qt (i := 11) rfl (Rdo.fieldAddr0 rfl) (Qt (i := 13) rfl (Rdo.move rfl) (Qt (i := 15) rfl (Rdo.move rfl) (Qt (i := 16) rfl (Rdo.nilCheck rfl) (Qt (i := 17) rfl (Rdo.fieldAddr0 rfl) ?_)))))))))))))
  refine WpR.phaseL (m := 0) #[true, true, true, true, true, true, true, true, true, true, true, true, true, true, true, true, true, true, true, true, true, true] 8 _ rfl (by kernel_rfl) (Tk.cons Pk.here Tk.nil) ?_
  refine At (i := 3) rfl (Rdo.load rfl (Lds.one rfl)) (At (i := 8) rfl (Rdo.load rfl (Lds.one rfl)) (At (i := 12) rfl (Rdo.load rfl (Lds.one rfl)) (At (i := 18) rfl (Rdo.load rfl (Lds.one rfl)) ?_)))
  refine PendA.start (i := 20) rfl ?_
  refine PendA.one (j := 14) rfl rfl (by kernel_rfl) (by kernel_rfl) (by kernel_rfl) rfl (by simp) rfl rfl (Sc (s1) rfl ?_)
  rintro _ _ ⟨rfl, rfl⟩
  refine PendA.lst (by simp only [List.cons_append, List.nil_append]; exact rfl) ?_
  refine PendA.one (j := 19) rfl rfl (by kernel_rfl) (by kernel_rfl) (by kernel_rfl) rfl (by simp) rfl rfl (Sc (s2) rfl ?_)
  rintro _ _ ⟨rfl, rfl⟩
  refine PendA.lst (by simp only [List.cons_append, List.nil_append]; exact rfl) ?_
  refine PendA.made rfl (by kernel_rfl) rfl (fun nb33 => ?_)
  refine WpA.one (i := 21) rfl (by kernel_rfl) (St rfl rfl (VC.ag _) ?_)
  refine WpA.stop (by kernel_rfl) ?_
  refine Ql ?_
  refine WpR.done (by kernel_rfl) ?_
  refine Thn.n (Wsr (Ls (Rdo.move rfl) ?_))
  refine Ls (Rdo.load rfl (Lds.next Ld)) ?_
  refine WpL.step (Sc (s3) rfl ?_)
  rintro _ _ ⟨rfl, rfl⟩
  refine Ll ?_
  refine Lnt (Wp.seq ?_)
  refine Wp.draw (by kernel_rfl) ?_
  refine Qt (i := 0) rfl (Rdo.move rfl) (Qt (i := 1) rfl (Rdo.move rfl) (Qt (i := 2) rfl (Rdo.nilCheck rfl) (Qt (i := 3) rfl (Rdo.fieldAddr0 rfl) ?_)))
  refine WpR.load (i := 5) [4] rfl (by kernel_rfl) (by kernel_rfl) (by kernel_rfl) (by kernel_rfl) (by kernel_rfl) rfl Tk.rfl_ (Harm.rd rfl (Rdo.load rfl (Lds.one rfl)) Harm.nil) (Rdo.load rfl (Lds.next (Lds.next Ld))) rfl ?_
  refine Pend.start (hz := MK.sl rfl rfl (VCs.cons (VC.ag _) (by first | rfl | assumption | (simp <;> done)) VCs.nil) (by first | exact rfl | (simp only [List.cons_append, List.nil_append, List.append_nil]; exact rfl)) rfl) (i := 6) rfl ?_
  refine Pend.one (hz := MK.sl rfl rfl (VCs.cons (VC.ag _) (by first | rfl | assumption | (simp <;> done)) VCs.nil) (by first | exact rfl | (simp only [List.cons_append, List.nil_append, List.append_nil]; exact rfl)) rfl) (j := 4) rfl rfl (by kernel_rfl) (by kernel_rfl) (by kernel_rfl) rfl (by simp) rfl rfl (Stp.rd (Rdo.load rfl (Lds.one rfl)) rfl ?_)
  refine Pend.made (hz := MK.sl rfl rfl (VCs.cons (VC.ag _) (by first | rfl | assumption | (simp <;> done)) VCs.nil) (by first | exact rfl | (simp only [List.cons_append, List.nil_append, List.append_nil]; exact rfl)) rfl) rfl (by kernel_rfl) rfl (fun nb57 => ?_)
  refine Qt (i := 7) rfl (Rdo.bld rfl (BldL.cons rfl (VC.i _ _) (by first | rfl | assumption | (simp <;> done)) (by repeat (first | exact LPut.nil _ | (refine LPut.seg ?_; first | assumption | (simp <;> done)) | (refine LPut.segEnd ?_; first | assumption | (simp <;> done)) | (with_reducible apply LPut.here) | apply LPut.hereL | apply LPut.here | (apply LPut.over32; focus (first | assumption | (simp <;> done))) | (with_reducible apply LPut.next) | apply LPut.nextL | apply LPut.next)) (BldL.cons rfl (VC.i _ _) (by first | rfl | assumption | (simp <;> done)) (by repeat (first | exact LPut.nil _ | (refine LPut.seg ?_; first | assumption | (simp <;> done)) | (refine LPut.segEnd ?_; first | assumption | (simp <;> done)) | (with_reducible apply LPut.here) | apply LPut.hereL | apply LPut.here | (apply LPut.over32; focus (first | assumption | (simp <;> done))) | (with_reducible apply LPut.next) | apply LPut.nextL | apply LPut.next)) (BldL.cons rfl (VC.sl _ _ _) (by first | rfl | assumption | (simp <;> done)) (by repeat (first | exact LPut.nil _ | (refine LPut.seg ?_; first | assumption | (simp <;> done)) | (refine LPut.segEnd ?_; first | assumption | (simp <;> done)) | (with_reducible apply LPut.here) | apply LPut.hereL | apply LPut.here | (apply LPut.over32; focus (first | assumption | (simp <;> done))) | (with_reducible apply LPut.next) | apply LPut.nextL | apply LPut.next)) (BldL.nil _))))) ?_
  refine Qo (i := 8) rfl (Sc (s4 _) rfl ?_)
  rintro _ _ ⟨v60_0, ⟨rfl, rfl⟩⟩
  refine Ql ?_
  refine Qt (i := 9) rfl (Rdo.assign rfl) ?_
  refine WpR.done (by kernel_rfl) ?_
  refine Thn.n (Wp.ret ?_)
  refine Rt (ResV.tmp rfl ResV.nil) ⟨_, ⟨rfl, rfl⟩⟩
end Go.Proofs.YtomijhgicennbaaGreat
namespace Go.Proofs.YtomijhgicennbaaGreat
open Go
set_option maxHeartbeats 4000000
set_option linter.unusedSimpArgs false
set_option linter.unusedVariables false
set_option maxRecDepth 20000
theorem tp_same {β : Type} {T : TypeId} {A : Nat → β → HP} {b mb q : Nat} {qs : List Nat} {R rest : List HP} {ls : List (Int × β)} {v : β} (hlen : qs.length = ls.length) (hR : (ownE A ls qs).Perm (A q v :: R)) :
    Gh (cel b T [.map (some mb)] :: mapA i64 mb (ptrE ls qs) :: A q v :: starH R :: rest) (tpA T A b ls :: rest) := tp_back hlen hR.symm
theorem tp_shut {β : Type} {T : TypeId} {A : Nat → β → HP} {b mb : Nat} {qs : List Nat} {rest : List HP} {ls : List (Int × β)} (hlen : qs.length = ls.length) :
    Gh (cel b T [.map (some mb)] :: mapA i64 mb (ptrE ls qs) :: starH (ownE A ls qs) :: rest) (tpA T A b ls :: rest) := Gh.mk fun F w hl =>
  Gh.use (Gh.shut (f := tpL T A b ls) (mb, qs) (rest := rest) (by repeat (first | exact Tk.nil | apply Tk.cons (by repeat (first | exact Pk.here | apply Pk.next))))) (Holds.shut_pure hlen hl)
/-- What is enough on a ballot that may not be there. -/
theorem enough_eq (x : RouS) (L : List Vote) : x.enough L = (x.values.find? (enP x.keys.length L)).map fun b => (b, sortV (sumV (dHash b) L)) := rfl
abbrev coW (b : Nat) (x : RouS) (m : RouM) : List HP :=
  [cel b rT (rouX x m), ringF m.rb x.keys, rowA 22 1 (.slice m.vl.1 x.values.length m.vl.2) x.values.length m.es, fz (fun g => RdVals g m.es x.values), tbA m.t1 x.prep, tbA m.t2 x.comm]
structure CoOk (x : RouS) : Prop where
  keys : x.keys.length ≤ 10
  vals : x.values.length ≤ 1000
  val : ∀ v ∈ x.values, v.length ≤ 100000
  prep : ∀ w, (balOf x.prep w).length ≤ 100000
  comm : ∀ w, (balOf x.comm w).length ≤ 100000
  okp : ∀ w, okL (balOf x.prep w)
theorem commits_no (b : Nat) (x : RouS) (m : RouM) (ho : CoOk x) (hno : x.commits = none) :
    Trip Tryz.prog 79 [vp b 0] (coW b x m) (fun r l => r = .tuple #[vnil, vb false] ∧ l = coW b x m) := by
  unfold RouS.commits at hno
  obtain ⟨hk, h1, h2, h3, h4, h5⟩ := ho
  by_cases b1 : x.view ≤ x.committed
  · refine Trip.of_body Tryz.func79 rfl Tryz.ntmps79 Tryz.results79 rfl ?_
    refine Wsr (Ls (Rdo.assign rfl) (Ls (Rdo.assign rfl) (Lnt (Wp.seq (Wp.seq ?_)))))
    refine Wp.draw (by kernel_rfl) ?_
    refine Qt (i := 0) rfl (Rdo.move rfl) (Qt (i := 1) rfl (Rdo.nilCheck rfl) (Qt (i := 2) rfl (Rdo.fieldAddr0 rfl) (Qt (i := 4) rfl (Rdo.move rfl) (Qt (i := 5) rfl (Rdo.nilCheck rfl) (Qt (i := 6) rfl (Rdo.fieldAddr0 rfl) ?_)))))
    refine WpR.phaseL (m := 1) #[true, true, true, true, true, true, true, true, false] 2 _ rfl (by kernel_rfl) Tk.rfl_ ?_
    refine At (i := 3) rfl (Rdo.load rfl (Lds.one rfl)) (At (i := 7) rfl (Rdo.load rfl (Lds.one rfl)) ?_)
    refine WpA.stop (by kernel_rfl) ?_
    refine WpR.lst (by simp only [List.cons_append, List.nil_append, List.append_nil]; exact rfl) ?_
    refine Qt (i := 8) rfl (Rdo.gei rfl rfl) ?_
    refine WpR.done (by kernel_rfl) ?_
    refine Thn.n (cK rfl (Wsr (Ls (Rdo.assign rfl) (Ls (Rdo.assign rfl) (Lnt (Wp.ret ?_))))))
    refine Thn.r ?_
    refine Rt (ResV.tmp rfl (ResV.tmp rfl ResV.nil)) ⟨rfl, rfl⟩
  rw [if_neg b1] at hno
  have hen : x.values.find? (enP x.keys.length (balOf x.prep x.view)) = none := by
    cases h : x.values.find? (enP x.keys.length (balOf x.prep x.view)) with
    | none => rfl
    | some bs => rw [enough_eq, h] at hno; cases hno
  have h5v := h5 x.view
  have h3v := h3 x.view
  refine Trip.gh (l' := [tbA m.t1 x.prep, cel b rT (rouX x m), ringF m.rb x.keys, rowA 22 1 (.slice m.vl.1 x.values.length m.vl.2) x.values.length m.es, fz (fun g => RdVals g m.es x.values), tbA m.t2 x.comm]) Gk ?_
  cases hlk : alook x.prep x.view with
  | none =>
    rw [balOf_none hlk] at hen h5v
    refine Trip.ghE (GhE.tpN Pk.here hlk) ?_
    rintro ⟨mb, qs⟩ ⟨hnl, hlen⟩
    simp only at hnl hlen ⊢
    have s1 := ballot_ok b m.t1 mb (rouX x m) 1 x.view (ptrE x.prep qs) (.inl ⟨rfl, rfl⟩)
    rw [show mapVal (ptrE x.prep qs) x.view (.pointer none) = .pointer none by unfold mapVal; rw [hnl]; rfl] at s1
    have s2 := enough_no b m.rb x.keys (rouX x m) m.vl.1 m.vl.2 x.values m.es none (pureH True) [] hk rfl rfl h1 (fun v hv => by have := h2 v hv; omega) h5v boIterN2 hen
    refine Trip.gh (Gh.mk fun F w hl => Holds.shut_pure (φ := True) trivial hl) ?_
    simp only [Tabbal.tabA, enW] at *
    refine Trip.of_body Tryz.func79 rfl Tryz.ntmps79 Tryz.results79 rfl ?_
    refine Wsr (Ls (Rdo.assign rfl) (Ls (Rdo.assign rfl) (Lnt (Wp.seq (Wp.seq ?_)))))
    refine Wp.draw (by kernel_rfl) ?_
    refine Qt (i := 0) rfl (Rdo.move rfl) (Qt (i := 1) rfl (Rdo.nilCheck rfl) (Qt (i := 2) rfl (Rdo.fieldAddr0 rfl) (Qt (i := 4) rfl (Rdo.move rfl) (Qt (i := 5) rfl (Rdo.nilCheck rfl) (Qt (i := 6) rfl (Rdo.fieldAddr0 rfl) ?_)))))
    refine WpR.phaseL (m := 1) #[true, true, true, true, true, true, true, true, false] 2 _ rfl (by kernel_rfl) Tk.rfl_ ?_
    refine At (i := 3) rfl (Rdo.load rfl (Lds.next (Lds.next (Lds.next (Lds.next (Lds.one rfl)))))) (At (i := 7) rfl (Rdo.load rfl (Lds.next (Lds.next (Lds.next (Lds.next (Lds.one rfl)))))) ?_)
    refine WpA.stop (by kernel_rfl) ?_
    refine WpR.lst (by simp only [List.cons_append, List.nil_append, List.append_nil]; exact rfl) ?_
    refine Qt (i := 8) rfl (Rdo.gei rfl rfl) ?_
    refine WpR.done (by kernel_rfl) ?_
    refine Thn.n (cL rfl (Wp.skip (Thn.n (Wsr (Ls (Rdo.move rfl) (Ls (Rdo.move rfl) (Ls (Rdo.move rfl) (Ls (Rdo.nilCheck rfl) (Ls (Rdo.fieldAddr0 rfl) (Ls (Rdo.load rfl (Lds.next (Lds.next (Lds.next (Lds.next (Lds.one rfl)))))) ?_))))))))))
    refine WpL.step (Sc (s1) rfl ?_)
    rintro _ _ ⟨rfl, rfl⟩
    refine Ll ?_
    refine WpL.step (Sc (s2) rfl ?_)
    rintro _ _ ⟨rfl, rfl⟩
    refine Ll ?_
    refine Ls (Rdo.move rfl) (Ls (Rdo.extract rfl rfl) (Ls (Rdo.extract rfl rfl) (Ls (Rdo.extract rfl rfl) (Ls (Rdo.assign rfl) (Ls (Rdo.assign rfl) (Ls (Rdo.assign rfl) (Lnt (Wp.seq (Wsr (Ls (Rdo.move rfl) (Ls (Rdo.not rfl) (Lnt ?_))))))))))))
    refine Wp.condT rfl ?_
    refine Wsr (Ls (Rdo.assign rfl) (Ls (Rdo.assign rfl) (Lnt (Wp.ret ?_))))
    refine Thn.r ?_
    exact Ret.now (l' := coW b x m) (by repeat (first | exact ResV.nil | apply ResV.tmp rfl | apply ResV.cell rfl (by repeat (first | exact Lds.one rfl | (apply Lds.all; (first | rfl | assumption | (simp <;> fail))) | exact Lds.ione0 | exact Lds.ione rfl | (apply Lds.iall; (first | rfl | assumption | (simp <;> fail))) | apply Lds.next)))) (Gh.trans (Gh.tk (l' := [cel m.t1 tbT [.map (some mb)], mapA i64 mb (ptrE x.prep qs), starH (ownE balA x.prep qs), cel b rT (rouX x m), ringF m.rb x.keys, rowA 22 1 (.slice m.vl.1 x.values.length m.vl.2) x.values.length m.es, fz (fun g => RdVals g m.es x.values), tbA m.t2 x.comm]) (by repeat (first | exact Tk.nil | apply Tk.cons (by repeat (first | exact Pk.here | apply Pk.next))))) (Gh.trans (tp_shut hlen) Gk)) ⟨rfl, rfl⟩
  | some L =>
    rw [balOf_some hlk] at hen h5v h3v
    refine Trip.ghE (GhE.tpS Pk.here hlk) ?_
    rintro ⟨mb, qs, q, R⟩ ⟨hyes, hlen, hR, hback⟩
    simp only at hyes hlen hR hback ⊢
    have s1 := ballot_ok b m.t1 mb (rouX x m) 1 x.view (ptrE x.prep qs) (.inl ⟨rfl, rfl⟩)
    rw [show mapVal (ptrE x.prep qs) x.view (.pointer none) = vp q 0 by unfold mapVal; rw [hyes]; rfl] at s1
    have s2 := enough_no b m.rb x.keys (rouX x m) m.vl.1 m.vl.2 x.values m.es (some ⟨q, 0, none⟩) (balA q L) L hk rfl rfl h1 (fun v hv => by have := h2 v hv; omega) h5v (boIterB q L (by omega)) hen
    simp only [Tabbal.tabA, enW] at *
    refine Trip.of_body Tryz.func79 rfl Tryz.ntmps79 Tryz.results79 rfl ?_
    refine Wsr (Ls (Rdo.assign rfl) (Ls (Rdo.assign rfl) (Lnt (Wp.seq (Wp.seq ?_)))))
    refine Wp.draw (by kernel_rfl) ?_
    refine Qt (i := 0) rfl (Rdo.move rfl) (Qt (i := 1) rfl (Rdo.nilCheck rfl) (Qt (i := 2) rfl (Rdo.fieldAddr0 rfl) (Qt (i := 4) rfl (Rdo.move rfl) (Qt (i := 5) rfl (Rdo.nilCheck rfl) (Qt (i := 6) rfl (Rdo.fieldAddr0 rfl) ?_)))))
    refine WpR.phaseL (m := 1) #[true, true, true, true, true, true, true, true, false] 2 _ rfl (by kernel_rfl) Tk.rfl_ ?_
    refine At (i := 3) rfl (Rdo.load rfl (Lds.next (Lds.next (Lds.next (Lds.next (Lds.one rfl)))))) (At (i := 7) rfl (Rdo.load rfl (Lds.next (Lds.next (Lds.next (Lds.next (Lds.one rfl)))))) ?_)
    refine WpA.stop (by kernel_rfl) ?_
    refine WpR.lst (by simp only [List.cons_append, List.nil_append, List.append_nil]; exact rfl) ?_
    refine Qt (i := 8) rfl (Rdo.gei rfl rfl) ?_
    refine WpR.done (by kernel_rfl) ?_
    refine Thn.n (cL rfl (Wp.skip (Thn.n (Wsr (Ls (Rdo.move rfl) (Ls (Rdo.move rfl) (Ls (Rdo.move rfl) (Ls (Rdo.nilCheck rfl) (Ls (Rdo.fieldAddr0 rfl) (Ls (Rdo.load rfl (Lds.next (Lds.next (Lds.next (Lds.next (Lds.one rfl)))))) ?_))))))))))
    refine WpL.step (Sc (s1) rfl ?_)
    rintro _ _ ⟨rfl, rfl⟩
    refine Ll ?_
    refine WpL.step (Sc (s2) rfl ?_)
    rintro _ _ ⟨rfl, rfl⟩
    refine Ll ?_
    refine Ls (Rdo.move rfl) (Ls (Rdo.extract rfl rfl) (Ls (Rdo.extract rfl rfl) (Ls (Rdo.extract rfl rfl) (Ls (Rdo.assign rfl) (Ls (Rdo.assign rfl) (Ls (Rdo.assign rfl) (Lnt (Wp.seq (Wsr (Ls (Rdo.move rfl) (Ls (Rdo.not rfl) (Lnt ?_))))))))))))
    refine Wp.condT rfl ?_
    refine Wsr (Ls (Rdo.assign rfl) (Ls (Rdo.assign rfl) (Lnt (Wp.ret ?_))))
    refine Thn.r ?_
    exact Ret.now (l' := coW b x m) (by repeat (first | exact ResV.nil | apply ResV.tmp rfl | apply ResV.cell rfl (by repeat (first | exact Lds.one rfl | (apply Lds.all; (first | rfl | assumption | (simp <;> fail))) | exact Lds.ione0 | exact Lds.ione rfl | (apply Lds.iall; (first | rfl | assumption | (simp <;> fail))) | apply Lds.next)))) (Gh.trans (Gh.tk (l' := [cel m.t1 tbT [.map (some mb)], mapA i64 mb (ptrE x.prep qs), balA q L, starH R, cel b rT (rouX x m), ringF m.rb x.keys, rowA 22 1 (.slice m.vl.1 x.values.length m.vl.2) x.values.length m.es, fz (fun g => RdVals g m.es x.values), tbA m.t2 x.comm]) (by repeat (first | exact Tk.nil | apply Tk.cons (by repeat (first | exact Pk.here | apply Pk.next))))) (Gh.trans (tp_same hlen hR) Gk)) ⟨rfl, rfl⟩
theorem commits_yes (b : Nat) (x : RouS) (m : RouM) (ho : CoOk x) (ms : List Msg) (x' : RouS) (hyes : x.commits = some (ms, x')) :
    Trip Tryz.prog 79 [vp b 0] (coW b x m) (fun r l => ∃ (kx : PX) (q : Option Addr × Nat), r = .tuple #[.slice q.1 ms.length q.2, vb true] ∧ l = coW b x' { m with kx := kx } ++ [bsF kx.1 x'.lock.value, vsF kx.2 x'.lock.votes, mrF q ms]) := by
  unfold RouS.commits at hyes
  obtain ⟨hk, h1, h2, h3, h4, h5⟩ := ho
  by_cases b1 : x.view ≤ x.committed
  · rw [if_pos b1] at hyes; cases hyes
  rw [if_neg b1] at hyes
  cases hen : x.values.find? (enP x.keys.length (balOf x.prep x.view)) with
  | none => rw [enough_eq, hen] at hyes; cases hyes
  | some bs =>
    rw [enough_eq, hen] at hyes
    simp only [Option.map_some] at hyes
    have h5v := h5 x.view
    have h3v := h3 x.view
    have hbs : bs.length ≤ 100000 := h2 bs (List.mem_of_find?_eq_some hen)
    have s4 := fun p : Option Addr × Nat => bclone_ok p.1 p.2 bs (by omega)
    refine Trip.gh (l' := [tbA m.t1 x.prep, cel b rT (rouX x m), ringF m.rb x.keys, rowA 22 1 (.slice m.vl.1 x.values.length m.vl.2) x.values.length m.es, fz (fun g => RdVals g m.es x.values), tbA m.t2 x.comm]) Gk ?_
    obtain ⟨S, hS⟩ : ∃ S, S = sortV (sumV (dHash bs) (balOf x.prep x.view)) := ⟨_, rfl⟩
    rw [← hS] at hyes
    have s3 := fun (a : Option Addr) (c : Nat) (p q : Option Addr × Nat) => votes2_ok b { x with committed := x.view, lock := ⟨x.view, bs, S⟩ } { m with kx := ((a, c), p) } q bs hk (by omega) h4
    have hE : ({ x with committed := x.view, lock := ⟨x.view, bs, S⟩ }.votes 2 bs) = (ms, x') := Option.some.inj hyes
    have hE2 : x' = { x with committed := x.view, lock := ⟨x.view, bs, S⟩, comm := x'.comm } := by
      have := congrArg Prod.snd hE
      simp only at this
      rw [← this]
      rfl
    rw [hE] at s3
    simp only at s3
    rw [hE2]
    generalize x'.comm = cc at *
    clear hE hE2 hyes
    cases hlk : alook x.prep x.view with
    | none =>
      rw [balOf_none hlk] at hen h5v hS
      refine Trip.ghE (GhE.tpN Pk.here hlk) ?_
      rintro ⟨mb, qs⟩ ⟨hnl, hlen⟩
      simp only at hnl hlen ⊢
      have s1 := ballot_ok b m.t1 mb (rouX x m) 1 x.view (ptrE x.prep qs) (.inl ⟨rfl, rfl⟩)
      rw [show mapVal (ptrE x.prep qs) x.view (.pointer none) = .pointer none by unfold mapVal; rw [hnl]; rfl] at s1
      have s2 := enough_yes b m.rb x.keys (rouX x m) m.vl.1 m.vl.2 x.values m.es none (pureH True) [] hk rfl rfl h1 (fun v hv => by have := h2 v hv; omega) h5v boIterN2 bs hen
      rw [← hS] at s2
      refine Trip.gh (Gh.mk fun F w hl => Holds.shut_pure (φ := True) trivial hl) ?_
      simp only [Tabbal.tabA, enW, List.cons_append, List.nil_append] at *
      refine Trip.of_body Tryz.func79 rfl Tryz.ntmps79 Tryz.results79 rfl ?_
      refine Wsr (Ls (Rdo.assign rfl) (Ls (Rdo.assign rfl) (Lnt (Wp.seq (Wp.seq ?_)))))
      refine Wp.draw (by kernel_rfl) ?_
      refine Qt (i := 0) rfl (Rdo.move rfl) (Qt (i := 1) rfl (Rdo.nilCheck rfl) (Qt (i := 2) rfl (Rdo.fieldAddr0 rfl) (Qt (i := 4) rfl (Rdo.move rfl) (Qt (i := 5) rfl (Rdo.nilCheck rfl) (Qt (i := 6) rfl (Rdo.fieldAddr0 rfl) ?_)))))
      refine WpR.phaseL (m := 1) #[true, true, true, true, true, true, true, true, false] 2 _ rfl (by kernel_rfl) Tk.rfl_ ?_
      refine At (i := 3) rfl (Rdo.load rfl (Lds.next (Lds.next (Lds.next (Lds.next (Lds.one rfl)))))) (At (i := 7) rfl (Rdo.load rfl (Lds.next (Lds.next (Lds.next (Lds.next (Lds.one rfl)))))) ?_)
      refine WpA.stop (by kernel_rfl) ?_
      refine WpR.lst (by simp only [List.cons_append, List.nil_append, List.append_nil]; exact rfl) ?_
      refine Qt (i := 8) rfl (Rdo.gei rfl rfl) ?_
      refine WpR.done (by kernel_rfl) ?_
      refine Thn.n (cL rfl (Wp.skip (Thn.n (Wsr (Ls (Rdo.move rfl) (Ls (Rdo.move rfl) (Ls (Rdo.move rfl) (Ls (Rdo.nilCheck rfl) (Ls (Rdo.fieldAddr0 rfl) (Ls (Rdo.load rfl (Lds.next (Lds.next (Lds.next (Lds.next (Lds.one rfl)))))) ?_))))))))))
      refine WpL.step (Sc (s1) rfl ?_)
      rintro _ _ ⟨rfl, rfl⟩
      refine Ll ?_
      refine WpL.step (Sc (s2) rfl ?_)
      rintro _ _ ⟨v38_0, ⟨rfl, rfl⟩⟩
      refine Ll ?_
      refine Ls (Rdo.move rfl) (Ls (Rdo.extract rfl rfl) (Ls (Rdo.extract rfl rfl) (Ls (Rdo.extract rfl rfl) (Ls (Rdo.assign rfl) (Ls (Rdo.assign rfl) (Ls (Rdo.assign rfl) (Lnt (Wp.seq (Wsr (Ls (Rdo.move rfl) (Ls (Rdo.not rfl) (Lnt ?_))))))))))))
      refine Wp.condF rfl ?_
      refine Wp.skip (Thn.n (Wsr (Ls (Rdo.move rfl) (Ls (Rdo.move rfl) (Ls (Rdo.nilCheck rfl) (Ls (Rdo.fieldAddr0 rfl) (Ls (Rdo.load rfl (Lds.one rfl)) (Ls (Rdo.nilCheck rfl) (Ls (Rdo.fieldAddr0 rfl) ?_)))))))))
      refine WpL.step (Stp.storeV rfl rfl (VC.i _ _) rfl (Sp (oneCells1 rfl)) ?_)
      refine Lnt (Wp.seq ?_)
      refine Wp.draw (by kernel_rfl) ?_
      refine Qt (i := 0) rfl (Rdo.move rfl) (Qt (i := 1) rfl (Rdo.move rfl) (Qt (i := 2) rfl (Rdo.nilCheck rfl) (Qt (i := 3) rfl (Rdo.fieldAddr0 rfl) (Qt (i := 5) rfl (Rdo.move rfl) (Qt (i := 7) rfl (Rdo.move rfl) ?_)))))
      refine WpR.phaseT (m := 1) #[true, true, true, true, true, true, true, true, true, true, true, false] 5 _ (by kernel_rfl) (Tk.cons Pk.here Tk.nil) ?_
      refine At (i := 4) rfl (Rdo.load rfl (Lds.one rfl)) ?_
      refine WpA.one (i := 6) rfl (by kernel_rfl) (Sc (s4 _) rfl ?_)
      rintro _ _ ⟨v82_0, ⟨v82_1, ⟨rfl, rfl⟩⟩⟩
      refine WpA.lst (by simp only [List.cons_append, List.nil_append]; exact rfl) ?_
      refine At (i := 8) rfl (Rdo.bld rfl (BldL.cons rfl (VC.i _ _) (by first | rfl | assumption | (simp <;> done)) (by repeat (first | exact LPut.nil _ | (refine LPut.seg ?_; first | assumption | (simp <;> done)) | (refine LPut.segEnd ?_; first | assumption | (simp <;> done)) | (with_reducible apply LPut.here) | apply LPut.hereL | apply LPut.here | (apply LPut.over32; focus (first | assumption | (simp <;> done))) | (with_reducible apply LPut.next) | apply LPut.nextL | apply LPut.next)) (BldL.cons rfl (VC.sl _ _ _) (by first | rfl | assumption | (simp <;> done)) (by repeat (first | exact LPut.nil _ | (refine LPut.seg ?_; first | assumption | (simp <;> done)) | (refine LPut.segEnd ?_; first | assumption | (simp <;> done)) | (with_reducible apply LPut.here) | apply LPut.hereL | apply LPut.here | (apply LPut.over32; focus (first | assumption | (simp <;> done))) | (with_reducible apply LPut.next) | apply LPut.nextL | apply LPut.next)) (BldL.cons rfl (VC.sl _ _ _) (by first | rfl | assumption | (simp <;> done)) (by repeat (first | exact LPut.nil _ | (refine LPut.seg ?_; first | assumption | (simp <;> done)) | (refine LPut.segEnd ?_; first | assumption | (simp <;> done)) | (with_reducible apply LPut.here) | apply LPut.hereL | apply LPut.here | (apply LPut.over32; focus (first | assumption | (simp <;> done))) | (with_reducible apply LPut.next) | apply LPut.nextL | apply LPut.next)) (BldL.nil _))))) ?_
      refine At (i := 9) rfl (Rdo.nilCheck rfl) (At (i := 10) rfl (Rdo.fieldAddr0 rfl) ?_)
      refine WpA.stop (by kernel_rfl) ?_
      refine Ql ?_
      refine Qo (i := 11) rfl (St rfl rfl (VC.ag _) ?_)
      refine WpR.done (by kernel_rfl) ?_
      refine Thn.n (Wsr (Ls (Rdo.move rfl) (Ls (Rdo.move rfl) ?_)))
      refine WpL.step (Stp.call (s3 v82_0 v82_1 v38_0.2 v38_0.1) (by kernel_rfl) rfl (Tk.cons Pk.here (by repeat (first | exact Tk.nil | apply Tk.cons (by repeat (first | exact Pk.here | apply Pk.next))))) rfl ?_)
      rintro r _ ⟨q1, rfl, rfl⟩
      refine Ll ?_
      refine Ls (Rdo.assign rfl) (Ls (Rdo.assign rfl) (Lnt (Wp.ret ?_)))
      refine Ret.now (l' := coW b { x with committed := x.view, lock := ⟨x.view, bs, S⟩, comm := cc } { m with kx := ((v82_0, v82_1), v38_0.2) } ++ [bsF (v82_0, v82_1) bs, vsF v38_0.2 S, mrF q1 ms]) (by repeat (first | exact ResV.nil | apply ResV.tmp rfl | apply ResV.cell rfl (by repeat (first | exact Lds.one rfl | (apply Lds.all; (first | rfl | assumption | (simp <;> fail))) | exact Lds.ione0 | exact Lds.ione rfl | (apply Lds.iall; (first | rfl | assumption | (simp <;> fail))) | apply Lds.next)))) ?_ ⟨((v82_0, v82_1), v38_0.2), q1, rfl, rfl⟩
      refine Gh.trans (Gh.tk (l' := [cel m.t1 tbT [.map (some mb)], mapA i64 mb (ptrE x.prep qs), starH (ownE balA x.prep qs), cel b rT (rouX { x with committed := x.view, lock := ⟨x.view, bs, S⟩, comm := cc } { m with kx := ((v82_0, v82_1), v38_0.2) }), ringF m.rb x.keys, rowA 22 1 (.slice m.vl.1 x.values.length m.vl.2) x.values.length m.es, fz (fun g => RdVals g m.es x.values), tbA m.t2 cc, bsF (v82_0, v82_1) bs, vsF v38_0.2 S, mrF q1 ms]) (by repeat (first | exact Tk.nil | apply Tk.cons (by repeat (first | exact Pk.here | apply Pk.next))))) ?_
      exact Gh.trans (tp_shut hlen) Gk
    | some L =>
      rw [balOf_some hlk] at hen h5v h3v hS
      refine Trip.ghE (GhE.tpS Pk.here hlk) ?_
      rintro ⟨mb, qs, q, R⟩ ⟨hyes, hlen, hR, hback⟩
      simp only at hyes hlen hR hback ⊢
      have s1 := ballot_ok b m.t1 mb (rouX x m) 1 x.view (ptrE x.prep qs) (.inl ⟨rfl, rfl⟩)
      rw [show mapVal (ptrE x.prep qs) x.view (.pointer none) = vp q 0 by unfold mapVal; rw [hyes]; rfl] at s1
      have s2 := enough_yes b m.rb x.keys (rouX x m) m.vl.1 m.vl.2 x.values m.es (some ⟨q, 0, none⟩) (balA q L) L hk rfl rfl h1 (fun v hv => by have := h2 v hv; omega) h5v (boIterB q L (by omega)) bs hen
      rw [← hS] at s2
      simp only [Tabbal.tabA, enW, List.cons_append, List.nil_append] at *
      refine Trip.of_body Tryz.func79 rfl Tryz.ntmps79 Tryz.results79 rfl ?_
      refine Wsr (Ls (Rdo.assign rfl) (Ls (Rdo.assign rfl) (Lnt (Wp.seq (Wp.seq ?_)))))
      refine Wp.draw (by kernel_rfl) ?_
      refine Qt (i := 0) rfl (Rdo.move rfl) (Qt (i := 1) rfl (Rdo.nilCheck rfl) (Qt (i := 2) rfl (Rdo.fieldAddr0 rfl) (Qt (i := 4) rfl (Rdo.move rfl) (Qt (i := 5) rfl (Rdo.nilCheck rfl) (Qt (i := 6) rfl (Rdo.fieldAddr0 rfl) ?_)))))
      refine WpR.phaseL (m := 1) #[true, true, true, true, true, true, true, true, false] 2 _ rfl (by kernel_rfl) Tk.rfl_ ?_
      refine At (i := 3) rfl (Rdo.load rfl (Lds.next (Lds.next (Lds.next (Lds.next (Lds.one rfl)))))) (At (i := 7) rfl (Rdo.load rfl (Lds.next (Lds.next (Lds.next (Lds.next (Lds.one rfl)))))) ?_)
      refine WpA.stop (by kernel_rfl) ?_
      refine WpR.lst (by simp only [List.cons_append, List.nil_append, List.append_nil]; exact rfl) ?_
      refine Qt (i := 8) rfl (Rdo.gei rfl rfl) ?_
      refine WpR.done (by kernel_rfl) ?_
      refine Thn.n (cL rfl (Wp.skip (Thn.n (Wsr (Ls (Rdo.move rfl) (Ls (Rdo.move rfl) (Ls (Rdo.move rfl) (Ls (Rdo.nilCheck rfl) (Ls (Rdo.fieldAddr0 rfl) (Ls (Rdo.load rfl (Lds.next (Lds.next (Lds.next (Lds.next (Lds.one rfl)))))) ?_))))))))))
      refine WpL.step (Sc (s1) rfl ?_)
      rintro _ _ ⟨rfl, rfl⟩
      refine Ll ?_
      refine WpL.step (Sc (s2) rfl ?_)
      rintro _ _ ⟨v38_0, ⟨rfl, rfl⟩⟩
      refine Ll ?_
      refine Ls (Rdo.move rfl) (Ls (Rdo.extract rfl rfl) (Ls (Rdo.extract rfl rfl) (Ls (Rdo.extract rfl rfl) (Ls (Rdo.assign rfl) (Ls (Rdo.assign rfl) (Ls (Rdo.assign rfl) (Lnt (Wp.seq (Wsr (Ls (Rdo.move rfl) (Ls (Rdo.not rfl) (Lnt ?_))))))))))))
      refine Wp.condF rfl ?_
      refine Wp.skip (Thn.n (Wsr (Ls (Rdo.move rfl) (Ls (Rdo.move rfl) (Ls (Rdo.nilCheck rfl) (Ls (Rdo.fieldAddr0 rfl) (Ls (Rdo.load rfl (Lds.one rfl)) (Ls (Rdo.nilCheck rfl) (Ls (Rdo.fieldAddr0 rfl) ?_)))))))))
      refine WpL.step (Stp.storeV rfl rfl (VC.i _ _) rfl (Sp (oneCells1 rfl)) ?_)
      refine Lnt (Wp.seq ?_)
      refine Wp.draw (by kernel_rfl) ?_
      refine Qt (i := 0) rfl (Rdo.move rfl) (Qt (i := 1) rfl (Rdo.move rfl) (Qt (i := 2) rfl (Rdo.nilCheck rfl) (Qt (i := 3) rfl (Rdo.fieldAddr0 rfl) (Qt (i := 5) rfl (Rdo.move rfl) (Qt (i := 7) rfl (Rdo.move rfl) ?_)))))
      refine WpR.phaseT (m := 1) #[true, true, true, true, true, true, true, true, true, true, true, false] 5 _ (by kernel_rfl) (Tk.cons Pk.here Tk.nil) ?_
      refine At (i := 4) rfl (Rdo.load rfl (Lds.one rfl)) ?_
      refine WpA.one (i := 6) rfl (by kernel_rfl) (Sc (s4 _) rfl ?_)
      rintro _ _ ⟨v82_0, ⟨v82_1, ⟨rfl, rfl⟩⟩⟩
      refine WpA.lst (by simp only [List.cons_append, List.nil_append]; exact rfl) ?_
      refine At (i := 8) rfl (Rdo.bld rfl (BldL.cons rfl (VC.i _ _) (by first | rfl | assumption | (simp <;> done)) (by repeat (first | exact LPut.nil _ | (refine LPut.seg ?_; first | assumption | (simp <;> done)) | (refine LPut.segEnd ?_; first | assumption | (simp <;> done)) | (with_reducible apply LPut.here) | apply LPut.hereL | apply LPut.here | (apply LPut.over32; focus (first | assumption | (simp <;> done))) | (with_reducible apply LPut.next) | apply LPut.nextL | apply LPut.next)) (BldL.cons rfl (VC.sl _ _ _) (by first | rfl | assumption | (simp <;> done)) (by repeat (first | exact LPut.nil _ | (refine LPut.seg ?_; first | assumption | (simp <;> done)) | (refine LPut.segEnd ?_; first | assumption | (simp <;> done)) | (with_reducible apply LPut.here) | apply LPut.hereL | apply LPut.here | (apply LPut.over32; focus (first | assumption | (simp <;> done))) | (with_reducible apply LPut.next) | apply LPut.nextL | apply LPut.next)) (BldL.cons rfl (VC.sl _ _ _) (by first | rfl | assumption | (simp <;> done)) (by repeat (first | exact LPut.nil _ | (refine LPut.seg ?_; first | assumption | (simp <;> done)) | (refine LPut.segEnd ?_; first | assumption | (simp <;> done)) | (with_reducible apply LPut.here) | apply LPut.hereL | apply LPut.here | (apply LPut.over32; focus (first | assumption | (simp <;> done))) | (with_reducible apply LPut.next) | apply LPut.nextL | apply LPut.next)) (BldL.nil _))))) ?_
      refine At (i := 9) rfl (Rdo.nilCheck rfl) (At (i := 10) rfl (Rdo.fieldAddr0 rfl) ?_)
      refine WpA.stop (by kernel_rfl) ?_
      refine Ql ?_
      refine Qo (i := 11) rfl (St rfl rfl (VC.ag _) ?_)
      refine WpR.done (by kernel_rfl) ?_
      refine Thn.n (Wsr (Ls (Rdo.move rfl) (Ls (Rdo.move rfl) ?_)))
      refine WpL.step (Stp.call (s3 v82_0 v82_1 v38_0.2 v38_0.1) (by kernel_rfl) rfl (Tk.cons Pk.here (by repeat (first | exact Tk.nil | apply Tk.cons (by repeat (first | exact Pk.here | apply Pk.next))))) rfl ?_)
      rintro r _ ⟨q1, rfl, rfl⟩
      refine Ll ?_
      refine Ls (Rdo.assign rfl) (Ls (Rdo.assign rfl) (Lnt (Wp.ret ?_)))
      refine Ret.now (l' := coW b { x with committed := x.view, lock := ⟨x.view, bs, S⟩, comm := cc } { m with kx := ((v82_0, v82_1), v38_0.2) } ++ [bsF (v82_0, v82_1) bs, vsF v38_0.2 S, mrF q1 ms]) (by repeat (first | exact ResV.nil | apply ResV.tmp rfl | apply ResV.cell rfl (by repeat (first | exact Lds.one rfl | (apply Lds.all; (first | rfl | assumption | (simp <;> fail))) | exact Lds.ione0 | exact Lds.ione rfl | (apply Lds.iall; (first | rfl | assumption | (simp <;> fail))) | apply Lds.next)))) ?_ ⟨((v82_0, v82_1), v38_0.2), q1, rfl, rfl⟩
      refine Gh.trans (Gh.tk (l' := [cel m.t1 tbT [.map (some mb)], mapA i64 mb (ptrE x.prep qs), balA q L, starH R, cel b rT (rouX { x with committed := x.view, lock := ⟨x.view, bs, S⟩, comm := cc } { m with kx := ((v82_0, v82_1), v38_0.2) }), ringF m.rb x.keys, rowA 22 1 (.slice m.vl.1 x.values.length m.vl.2) x.values.length m.es, fz (fun g => RdVals g m.es x.values), tbA m.t2 cc, bsF (v82_0, v82_1) bs, vsF v38_0.2 S, mrF q1 ms]) (by repeat (first | exact Tk.nil | apply Tk.cons (by repeat (first | exact Pk.here | apply Pk.next))))) ?_
      exact Gh.trans (tp_same hlen hR) Gk
end Go.Proofs.YtomijhgicennbaaGreat
namespace Go.Proofs.YtomijhgicennbaaGreat
open Go
set_option maxHeartbeats 4000000
set_option linter.unusedSimpArgs false
set_option linter.unusedVariables false
set_option maxRecDepth 20000
theorem ptrE_perm {β : Type} (A : Nat → β → HP) {ls ls' : List (Int × β)} (hp : ls.Perm ls') : ∀ {qs : List Nat}, qs.length = ls.length → ∃ qs' : List Nat, qs'.length = ls'.length ∧ (ptrE ls qs).Perm (ptrE ls' qs') ∧ (ownE A ls qs).Perm (ownE A ls' qs') := by
  induction hp with
  | nil => intro qs h; exact ⟨qs, h, List.Perm.refl _, List.Perm.refl _⟩
  | @cons x l1 l2 _ ih =>
    intro qs h
    cases qs with
    | nil => simp at h
    | cons q qs =>
      obtain ⟨qs', h1, h2, h3⟩ := ih (qs := qs) (by simpa using h)
      exact ⟨q :: qs', by simp [h1], h2.cons _, h3.cons _⟩
  | @swap x y l1 =>
    intro qs h
    rcases qs with _ | ⟨q, _ | ⟨q2, qs⟩⟩
    · simp at h
    · simp at h
    · exact ⟨q2 :: q :: qs, by simpa using h, List.Perm.swap _ _ _, List.Perm.swap _ _ _⟩
  | trans _ _ ih1 ih2 =>
    intro qs h
    obtain ⟨qs1, a1, a2, a3⟩ := ih1 h
    obtain ⟨qs2, b1, b2, b3⟩ := ih2 a1
    exact ⟨qs2, b1, a2.trans b2, a3.trans b3⟩
theorem ptrE_ix {β : Type} (A : Nat → β → HP) : ∀ {ls : List (Int × β)} {qs : List Nat} {i : Nat} {x : Int × Value}, qs.length = ls.length → (ptrE ls qs)[i]? = some x →
    ∃ (v : β) (q : Nat) (R : List HP), ls[i]? = some (x.1, v) ∧ x.2 = .pointer (some ⟨q, 0, none⟩) ∧ (ownE A ls qs).Perm (A q v :: R) := by
  intro ls
  induction ls with
  | nil => intro qs i x h hx; cases qs <;> simp [ptrE] at hx
  | cons y ls ih =>
    intro qs i x h hx
    cases qs with
    | nil => simp at h
    | cons q qs =>
      cases i with
      | zero =>
        simp only [ptrE, List.getElem?_cons_zero, Option.some.injEq] at hx
        subst hx
        exact ⟨y.2, q, ownE A ls qs, rfl, rfl, List.Perm.refl _⟩
      | succ i =>
        simp only [ptrE, List.getElem?_cons_succ] at hx
        obtain ⟨v, q', R, h1, h2, h3⟩ := ih (qs := qs) (by simpa using h) hx
        exact ⟨v, q', A q y.2 :: R, by simpa using h1, h2, by simp only [ownE]; exact (h3.cons _).trans (List.Perm.swap _ _ _)⟩
theorem star_out {own R rest : List HP} {p : HP} (h : own.Perm (p :: R)) : Gh (starH own :: rest) (p :: starH R :: rest) := Gh.mk fun F w hl => by
  have h1 := (Holds.open_star hl).perm (h.append_right rest)
  have h2 : Holds (R ++ p :: rest) F w := h1.perm List.perm_middle.symm
  exact (Holds.shut_star h2).perm (List.Perm.swap _ _ _)
theorem star_in {own R rest : List HP} {p : HP} (h : own.Perm (p :: R)) : Gh (p :: starH R :: rest) (starH own :: rest) := Gh.mk fun F w hl => by
  have h1 := Holds.open_star (hl.perm (List.Perm.swap _ _ _))
  have h2 : Holds ((p :: R) ++ rest) F w := h1.perm List.perm_middle
  exact Holds.shut_star (h2.perm (h.symm.append_right rest))
theorem sortT_perm {β : Type} (l : List (Int × β)) : (sortT l).Perm l := List.mergeSort_perm _ _
theorem sortT_rise {β : Type} (l : List (Int × β)) : (akeys (sortT l)).Pairwise (· ≤ ·) := by
  have h := List.pairwise_mergeSort (le := fun a b : Int × β => decide (a.1 ≤ b.1)) (by simp; intro a _ b _ c _ h1 h2; omega) (by simp; intro a _ b _; omega) l
  unfold akeys
  rw [List.pairwise_map]
  exact h.imp (by simp)
abbrev seW (b : Nat) (x : RouS) (m : RouM) : List HP :=
  [cel b rT (rouX x m), ringF m.rb x.keys, rowA 22 1 (.slice m.vl.1 x.values.length m.vl.2) x.values.length m.es, fz (fun g => RdVals g m.es x.values), tbA m.t2 x.comm]
structure SeOk (x : RouS) : Prop where
  keys : x.keys.length ≤ 10
  vals : x.values.length ≤ 1000
  val : ∀ v ∈ x.values, v.length ≤ 100000
  len : x.comm.length ≤ 12
  okc : ∀ p ∈ x.comm, okL p.2 ∧ p.2.length ≤ 100000
theorem star_perm {own own' rest : List HP} (h : own.Perm own') : Gh (starH own :: rest) (starH own' :: rest) := Gh.mk fun F w hl => Holds.shut_star ((Holds.open_star hl).perm (h.append_right rest))
abbrev seX (b : Nat) (x : RouS) (m : RouM) (nb2 nb3 nb4 mb : Nat) (es : List (Int × Value)) (cm : List (Int × List Vote)) (qs : List Nat) : List HP :=
  [cel nb4 4 [vb true], cel nb3 29 [vnil], cel nb2 23 [vp b 0], cel m.t2 tbT [.map (some mb)], mapA i64 mb es, starH (ownE balA (sortT cm) qs), cel b rT (rouX x m), ringF m.rb x.keys, rowA 22 1 (.slice m.vl.1 x.values.length m.vl.2) x.values.length m.es, fz (fun g => RdVals g m.es x.values)]
abbrev seJ (b : Nat) (x : RouS) (m : RouM) (nb2 nb3 nb4 mb : Nat) (es : List (Int × Value)) (qs : List Nat) : List HP :=
  [cel nb4 4 [vb false], cel nb3 29 [vnil], cel nb2 23 [vp b 0], cel m.t2 tbT [.map (some mb)], mapA i64 mb es, starH (ownE balA (sortT x.comm) qs), cel b rT (rouX x m), ringF m.rb x.keys, rowA 22 1 (.slice m.vl.1 x.values.length m.vl.2) x.values.length m.es, fz (fun g => RdVals g m.es x.values)]
theorem settles_ok (b : Nat) (x : RouS) (m : RouM) (ho : SeOk x) :
    Trip Tryz.prog 77 [vp b 0] (seW b x m) (fun r l => (x.settles = none ∧ r = .tuple #[vnil, vb false] ∧ l = seW b x m) ∨
      (∃ (x' : RouS) (dx : PX), x.settles = some ([], x') ∧ r = .tuple #[vnil, vb true] ∧ l = seW b x' { m with dx := dx } ++ [bsF dx.1 x'.value, vsF dx.2 x'.why])) := by
  obtain ⟨hk, h1, h2, h3, h4⟩ := ho
  refine Trip.ghE (GhE.open_ (f := tpL tbT balA m.t2 x.comm) (Pk.next (Pk.next (Pk.next (Pk.next Pk.here))))) ?_
  rintro ⟨mb, qs⟩ -
  simp only [tpL, List.cons_append, List.nil_append]
  refine Trip.ghE (GhE.mk (φ := fun _ : Unit => qs.length = x.comm.length) (f := fun _ => [cel m.t2 tbT [.map (some mb)], mapA i64 mb (ptrE x.comm qs), starH (ownE balA x.comm qs), cel b rT (rouX x m), ringF m.rb x.keys, rowA 22 1 (.slice m.vl.1 x.values.length m.vl.2) x.values.length m.es, fz (fun g => RdVals g m.es x.values)]) fun F w hl => ?_) ?_
  · obtain ⟨e, hl⟩ := ((Gh.front (Pk.next (Pk.next (Pk.next Pk.here)))).use hl).open_pure
    exact ⟨(), e, hl⟩
  rintro - hlen
  obtain ⟨qs', hq1, hq2, hq3⟩ := ptrE_perm balA (sortT_perm x.comm).symm hlen
  have hs : (akeys (ptrE (sortT x.comm) qs')).Pairwise (· ≤ ·) := by rw [ptrE_keys hq1]; exact sortT_rise x.comm
  have s1 := Tabbal.all_ok m.t2
  have hel : (ptrE x.comm qs).length ≤ 12 := by rw [ptrE_len hlen]; exact h3
  generalize hes : ptrE x.comm qs = es at *
  refine Trip.of_body Tryz.func77 rfl Tryz.ntmps77 Tryz.results77 rfl ?_
  refine Wsr ?_
  (refine WpL.step (Stp.boxV rfl (VC.p _) rfl ?_); intro nb2)
  (refine WpL.step (Stp.alloc rfl ?_); intro nb3)
  (refine WpL.step (Stp.alloc rfl ?_); intro nb4)
  refine Lnt (Wp.seq (Wsr (Ls (Rdo.load rfl (Lds.next (Lds.next (Lds.one rfl)))) (Ls (Rdo.nilCheck rfl) (Ls (Rdo.fieldAddr0 rfl) ?_)))))
  refine Ls (Rdo.indexArrE (i := 1) rfl rfl rfl (by first | omega | (simp <;> omega))) ?_
  refine Ls (Rdo.load rfl (Lds.next (Lds.next (Lds.next (Lds.next (Lds.next (Lds.next (Lds.one rfl)))))))) ?_
  refine WpL.step (Sc (s1) rfl ?_)
  rintro _ _ ⟨v16_0, ⟨v16_1, ⟨rfl, rfl⟩⟩⟩
  refine Ll ?_
  refine Lnt (Wp.block ?_)
  refine Wp.rangeFunc (ps := [15, 16]) rfl (by kernel_rfl) (Tabbal.allIter v16_0 v16_1 m.t2 mb 95 68 es (ptrE (sortT x.comm) qs') hq2.symm hs hel) (fun _ => rfl) rfl
    (fun pre l => l = seJ b x m nb2 nb3 nb4 mb es qs' ∧ ((sortT x.comm).take pre.length).findSome? (fun p => x.enough p.2) = none)
    (fun j pre l => j = .ret ∧ ∃ (bs : List UInt8) (S : List Vote) (dx : PX), x.settles = some ([], x.decides bs S) ∧ l = seX b (x.decides bs S) { m with dx := dx } nb2 nb3 nb4 mb es x.comm qs' ++ [bsF dx.1 bs, vsF dx.2 S])
    (l0 := seJ b x m nb2 nb3 nb4 mb es qs') ?_ ⟨rfl, rfl⟩ ?_ ?_ ?_ ?_
  · refine Gh.trans (Gh.trans (Gh.front (Pk.next (Pk.next (Pk.next (Pk.next (Pk.next (Pk.next (Pk.next Pk.here)))))))) (star_perm hq3)) Gk
  · exact Bor.tk (see := Tabbal.tabA m.t2 mb es) (by repeat (first | exact Tk.nil | apply Tk.cons (by repeat (first | exact Pk.here | apply Pk.next)))) Gk
  · rintro lp rec pre ⟨k, v⟩ rest _ hsp ⟨rfl, hno⟩ st pe
    have he : (ptrE (sortT x.comm) qs')[pre.length]? = some (k, v) := by rw [← hsp]; simp
    obtain ⟨L, q, R, e1, e2, e3⟩ := ptrE_ix balA hq1 he
    simp only at e1 e2
    subst e2
    obtain ⟨okl, hLl⟩ := h4 (k, L) ((sortT_perm x.comm).mem_iff.1 (List.mem_of_getElem? e1))
    simp only at okl hLl
    have htk : (sortT x.comm).take (pre ++ [((k, .pointer (some ⟨q, 0, none⟩)) : Int × Value)]).length = (sortT x.comm).take pre.length ++ [(k, L)] := by
      rw [List.length_append]
      obtain ⟨h1, h2⟩ := List.getElem?_eq_some_iff.1 e1
      rw [← h2]
      exact List.take_succ_eq_append_getElem h1
    simp only [seJ, seX, List.cons_append, List.nil_append]
    refine Wp.heap (fun F w h => Gh.use (Gh.trans (Gh.front (Pk.next (Pk.next (Pk.next (Pk.next (Pk.next Pk.here)))))) (star_out e3)) h) ?_
    cases hf : x.values.find? (enP x.keys.length L) with
    | none =>
      have s2 := enough_no b m.rb x.keys (rouX x m) m.vl.1 m.vl.2 x.values m.es (some ⟨q, 0, none⟩) (balA q L) L hk rfl rfl h1 (fun v hv => by have := h2 v hv; omega) okl (boIterB q L (by omega)) hf
      simp only [enW, List.cons_append, List.nil_append] at s2
      refine Wp.region (Ls (Rdo.assign rfl) (WpL.nil ?_))
      refine ⟨rfl, fun st pe => ?_⟩
      refine Wp.block (Wsr (Ls (Rdo.load rfl (Lds.next (Lds.next (Lds.next (Lds.next (Lds.one rfl)))))) (Ls (Rdo.move rfl) ?_)))
      refine WpL.step (Sc (s2) rfl ?_)
      rintro _ _ ⟨rfl, rfl⟩
      refine Ll ?_
      refine Ls (Rdo.move rfl) (Ls (Rdo.extract rfl rfl) (Ls (Rdo.extract rfl rfl) (Ls (Rdo.extract rfl rfl) (Ls (Rdo.assign rfl) (Ls (Rdo.assign rfl) (Ls (Rdo.assign rfl) (Lnt (Wsr (Ls (Rdo.move rfl) (Lnt ?_))))))))))
      refine Wp.condF rfl ?_
      refine Wp.skip (Blk.n ?_)
      refine ⟨seJ b x m nb2 nb3 nb4 mb es qs', Gh.trans (Gh.tk (l' := [balA q L, starH R, cel nb4 4 [vb false], cel nb3 29 [vnil], cel nb2 23 [vp b 0], cel m.t2 tbT [.map (some mb)], mapA i64 mb es, cel b rT (rouX x m), ringF m.rb x.keys, rowA 22 1 (.slice m.vl.1 x.values.length m.vl.2) x.values.length m.es, fz (fun g => RdVals g m.es x.values)]) (by repeat (first | exact Tk.nil | apply Tk.cons (by repeat (first | exact Pk.here | apply Pk.next))))) (Gh.trans (star_in e3) Gk), rfl, ?_⟩
      rw [htk, List.findSome?_append, hno]
      simp [enough_eq, hf]
    | some bs =>
      obtain ⟨S, hS⟩ : ∃ S, S = sortV (sumV (dHash bs) L) := ⟨_, rfl⟩
      have s2 := enough_yes b m.rb x.keys (rouX x m) m.vl.1 m.vl.2 x.values m.es (some ⟨q, 0, none⟩) (balA q L) L hk rfl rfl h1 (fun v hv => by have := h2 v hv; omega) okl (boIterB q L (by omega)) bs hf
      rw [← hS] at s2
      simp only [enW, List.cons_append, List.nil_append] at s2
      have hSl : S.length ≤ 1000000 := by rw [hS, sortV_len]; have := (okl (dHash bs)).1; omega
      have hbs : bs.length ≤ 100000 := h2 bs (List.mem_of_find?_eq_some hf)
      have s3 := fun pq : PX => decides_ok b x m pq.1 pq.2 bs S (by omega) hSl
      have hset : x.settles = some ([], x.decides bs S) := by
        unfold RouS.settles
        have : (sortT x.comm).findSome? (fun p => x.enough p.2) = some (bs, S) := by
          obtain ⟨g1, g2⟩ := List.getElem?_eq_some_iff.1 e1
          rw [← List.take_append_drop pre.length (sortT x.comm), List.drop_eq_getElem_cons g1, g2, List.findSome?_append, hno, List.findSome?_cons]
          simp [enough_eq, hf, hS]
        rw [this]
        rfl
      refine Wp.region (Ls (Rdo.assign rfl) (WpL.nil ?_))
      refine ⟨rfl, fun st pe => ?_⟩
      refine Wp.block (Wsr (Ls (Rdo.load rfl (Lds.next (Lds.next (Lds.next (Lds.next (Lds.one rfl)))))) (Ls (Rdo.move rfl) ?_)))
      refine WpL.step (Sc (s2) rfl ?_)
      rintro _ _ ⟨v6_0, ⟨rfl, rfl⟩⟩
      refine Ll ?_
      refine Ls (Rdo.move rfl) (Ls (Rdo.extract rfl rfl) (Ls (Rdo.extract rfl rfl) (Ls (Rdo.extract rfl rfl) (Ls (Rdo.assign rfl) (Ls (Rdo.assign rfl) (Ls (Rdo.assign rfl) (Lnt (Wsr (Ls (Rdo.move rfl) (Lnt ?_))))))))))
      refine Wp.condT rfl ?_
      refine Wsr (Ls (Rdo.load rfl (Lds.next (Lds.next (Lds.next (Lds.next (Lds.next (Lds.next (Lds.next (Lds.next (Lds.next (Lds.next (Lds.one rfl)))))))))))) (Ls (Rdo.move rfl) (Ls (Rdo.move rfl) ?_)))
      refine WpL.step (Sc (s3 _) rfl ?_)
      rintro _ _ ⟨rfl, ⟨v29_0, rfl⟩⟩
      refine Ll ?_
      refine Lnt (Wsr ?_)
      refine WpL.step (Stp.storeV rfl rfl (VC.sl _ _ _) rfl (Sts.next (Sts.next (Sts.next (Sts.next (Sts.next (Sts.next (Sts.next (Sts.next (Sts.next (Sts.next (Sts.next (Sp (oneCells1 rfl))))))))))))) ?_)
      refine WpL.step (Stp.storeV rfl rfl (VC.b _) rfl (Sts.next (Sts.next (Sts.next (Sts.next (Sts.next (Sts.next (Sts.next (Sts.next (Sts.next (Sts.next (Sp (oneCells1 rfl)))))))))))) ?_)
      refine Lnt (Wp.ret ?_)
      refine Blk.r ?_
      refine ⟨seX b (x.decides bs S) { m with dx := v29_0 } nb2 nb3 nb4 mb es x.comm qs' ++ [bsF v29_0.1 bs, vsF v29_0.2 S], ?_, rfl, bs, S, v29_0, hset, rfl⟩
      exact Gh.trans (Gh.tk (l' := [balA q L, starH R, cel nb4 4 [vb true], cel nb3 29 [vnil], cel nb2 23 [vp b 0], cel m.t2 tbT [.map (some mb)], mapA i64 mb es, cel b rT (rouX (x.decides bs S) { m with dx := v29_0 }), ringF m.rb x.keys, rowA 22 1 (.slice m.vl.1 x.values.length m.vl.2) x.values.length m.es, fz (fun g => RdVals g m.es x.values), bsF v29_0.1 bs, vsF v29_0.2 S]) (by repeat (first | exact Tk.nil | apply Tk.cons (by repeat (first | exact Pk.here | apply Pk.next))))) (Gh.trans (star_in e3) Gk)
  · rintro xs _ rfl ⟨rfl, hno⟩
    rw [ptrE_len hq1, List.take_length] at hno
    have hset : x.settles = none := by unfold RouS.settles; rw [hno]; rfl
    refine Blk.n (Thn.n (Wsr ?_))
    refine WpL.step (Stp.storeV rfl rfl (VC.sl _ _ _) rfl (Sts.next (Sp (oneCells1 rfl))) ?_)
    refine WpL.step (Stp.storeV rfl rfl (VC.b _) rfl (Sp (oneCells1 rfl)) ?_)
    refine Lnt (Wp.ret ?_)
    subst hes
    refine Ret.now (l' := seW b x m) (ResV.cell rfl (by repeat (first | exact Lds.one rfl | (apply Lds.all; (first | rfl | assumption | (simp <;> fail))) | exact Lds.ione0 | exact Lds.ione rfl | (apply Lds.iall; (first | rfl | assumption | (simp <;> fail))) | apply Lds.next)) (ResV.cell rfl (by repeat (first | exact Lds.one rfl | (apply Lds.all; (first | rfl | assumption | (simp <;> fail))) | exact Lds.ione0 | exact Lds.ione rfl | (apply Lds.iall; (first | rfl | assumption | (simp <;> fail))) | apply Lds.next)) ResV.nil)) ?_ (.inl ⟨hset, rfl, rfl⟩)
    refine Gh.trans (Gh.trans (Gh.front (Pk.next (Pk.next (Pk.next (Pk.next (Pk.next Pk.here)))))) (star_perm hq3.symm)) ?_
    exact Gh.trans (Gh.tk (l' := [cel m.t2 tbT [.map (some mb)], mapA i64 mb (ptrE x.comm qs), starH (ownE balA x.comm qs), cel b rT (rouX x m), ringF m.rb x.keys, rowA 22 1 (.slice m.vl.1 x.values.length m.vl.2) x.values.length m.es, fz (fun g => RdVals g m.es x.values)]) (by repeat (first | exact Tk.nil | apply Tk.cons (by repeat (first | exact Pk.here | apply Pk.next))))) (Gh.trans (tp_shut hlen) Gk)
  · rintro j pre l' ⟨rfl, bs, S, dx, hset, rfl⟩
    simp only [Blk, Jump.ex, Thn]
    subst hes
    refine Ret.now (l' := seW b (x.decides bs S) { m with dx := dx } ++ [bsF dx.1 bs, vsF dx.2 S]) (ResV.cell rfl (by repeat (first | exact Lds.one rfl | (apply Lds.all; (first | rfl | assumption | (simp <;> fail))) | exact Lds.ione0 | exact Lds.ione rfl | (apply Lds.iall; (first | rfl | assumption | (simp <;> fail))) | apply Lds.next)) (ResV.cell rfl (by repeat (first | exact Lds.one rfl | (apply Lds.all; (first | rfl | assumption | (simp <;> fail))) | exact Lds.ione0 | exact Lds.ione rfl | (apply Lds.iall; (first | rfl | assumption | (simp <;> fail))) | apply Lds.next)) ResV.nil)) ?_ (.inr ⟨x.decides bs S, dx, hset, rfl, rfl⟩)
    refine Gh.trans (Gh.trans (Gh.front (Pk.next (Pk.next (Pk.next (Pk.next (Pk.next Pk.here)))))) (star_perm hq3.symm)) ?_
    exact Gh.trans (Gh.tk (l' := [cel m.t2 tbT [.map (some mb)], mapA i64 mb (ptrE x.comm qs), starH (ownE balA x.comm qs), cel b rT (rouX (x.decides bs S) { m with dx := dx }), ringF m.rb x.keys, rowA 22 1 (.slice m.vl.1 x.values.length m.vl.2) x.values.length m.es, fz (fun g => RdVals g m.es x.values), bsF dx.1 bs, vsF dx.2 S]) (by repeat (first | exact Tk.nil | apply Tk.cons (by repeat (first | exact Pk.here | apply Pk.next))))) (Gh.trans (tp_shut hlen) Gk)
theorem settles_no (b : Nat) (x : RouS) (m : RouM) (ho : SeOk x) (hno : x.settles = none) : Trip Tryz.prog 77 [vp b 0] (seW b x m) (fun r l => r = .tuple #[vnil, vb false] ∧ l = seW b x m) := by
  refine Trip.mono (settles_ok b x m ho) ?_
  rintro r l (⟨_, h1, h2⟩ | ⟨x', dx, h1, _⟩)
  · exact ⟨h1, h2⟩
  · rw [hno] at h1; cases h1
theorem settles_yes (b : Nat) (x : RouS) (m : RouM) (ho : SeOk x) (ms : List Msg) (x' : RouS) (hyes : x.settles = some (ms, x')) : Trip Tryz.prog 77 [vp b 0] (seW b x m)
    (fun r l => ∃ dx : PX, r = .tuple #[vnil, vb true] ∧ l = seW b x' { m with dx := dx } ++ [bsF dx.1 x'.value, vsF dx.2 x'.why]) := by
  refine Trip.mono (settles_ok b x m ho) ?_
  rintro r l (⟨h1, _, _⟩ | ⟨x2, dx, h1, h2, h3⟩)
  · rw [hyes] at h1; cases h1
  · rw [hyes] at h1; cases h1; exact ⟨dx, h2, h3⟩
end Go.Proofs.YtomijhgicennbaaGreat
namespace Go.Proofs.YtomijhgicennbaaGreat
open Go
set_option maxHeartbeats 4000000
set_option linter.unusedSimpArgs false
set_option linter.unusedVariables false
set_option maxRecDepth 20000
theorem All2.permL {α β : Type} {ms ms' : List β} (hp : ms.Perm ms') : ∀ {es : List α}, es.length = ms.length → ∃ ss : List α, es.Perm ss ∧ ∀ R : α → β → Prop, All2 R es ms → All2 R ss ms' := by
  induction hp with
  | nil => intro es h; exact ⟨es, List.Perm.refl _, fun R h => h⟩
  | @cons x l1 l2 _ ih =>
    intro es h
    cases es with
    | nil => simp at h
    | cons e es =>
      obtain ⟨ss, h1, h2⟩ := ih (es := es) (by simpa using h)
      exact ⟨e :: ss, h1.cons _, fun R h => by cases h with | cons a b => exact .cons a (h2 R b)⟩
  | @swap x y l1 =>
    intro es h
    rcases es with _ | ⟨e, _ | ⟨e2, es⟩⟩
    · simp at h
    · simp at h
    · exact ⟨e2 :: e :: es, List.Perm.swap _ _ _, fun R h => by cases h with | cons a b => cases b with | cons c d => exact .cons c (.cons a d)⟩
  | trans h1 _ ih1 ih2 =>
    intro es h
    obtain ⟨s1, a1, a2⟩ := ih1 h
    obtain ⟨s2, b1, b2⟩ := ih2 (es := s1) (by rw [← a1.length_eq, h, h1.length_eq])
    exact ⟨s2, a1.trans b1, fun R h => b2 R (a2 R h)⟩
theorem GhE.tmIx {l rest : List HP} {es : List (Int × Value)} {ms : List (Int × Msg)} {i : Nat} {k : Int} {m : Msg} (hp : Pk l (fz (fun g => RdMT g es ms)) rest) (h : ms[i]? = some (k, m)) :
    GhE l (fun x : PX => es[i]? = some (k, .agg (msgCs m x).toArray)) (fun x => msF x m :: fz (fun g => RdMT g es ms) :: rest) := by
  have key : ∀ g, RdMT g es ms → ∃ x : PX, es[i]? = some (k, .agg (msgCs m x).toArray) ∧ RdMsg g (msgCs m x) m := by
    clear hp
    intro g hg
    unfold RdMT at hg
    induction hg generalizing i with
    | nil => simp at h
    | @cons e y es' ms' h1 _ ih =>
      cases i with
      | zero =>
        simp only [List.getElem?_cons_zero, Option.some.injEq] at h ⊢
        subst h
        obtain ⟨a1, cs, a2, a3⟩ := h1
        have a3' := a3
        obtain ⟨sv, vv, h3, h4, h5⟩ := a3
        obtain ⟨a, c, rfl⟩ := h4.shape
        obtain ⟨a', c', rfl⟩ := h5.shape
        refine ⟨((a, c), (a', c')), ?_, by rw [h3] at a3'; exact a3'⟩
        obtain ⟨e1, e2⟩ := e
        simp only at a1 a2
        rw [a1, a2, h3]
      | succ i =>
        simp only [List.getElem?_cons_succ] at h ⊢
        exact ih h
  have h1 := GhE.part (l := fz (fun g => RdMT g es ms) :: fz (fun g => RdMT g es ms) :: rest) (φ := fun x : PX => es[i]? = some (k, .agg (msgCs m x).toArray)) (Ψ := fun x g => RdMsg g (msgCs m x) m) Pk.here key
  refine GhE.mk fun F w hl => ?_
  exact h1.use ((Gh.fzAlso (Ψ := fun g => RdMT g es ms) hp fun g h => h).use hl)
theorem tm_nil (k : Int) : Trip Tryz.prog 84 [.pointer none, vi k] [] (fun r l => r = .tuple #[zmsg, vb false] ∧ l = []) := by
  refine Trip.of_body Tryz.func84 rfl Tryz.ntmps84 Tryz.results84 rfl ?_
  refine Wsr ?_
  (refine WpL.step (Stp.alloc rfl ?_); intro nb2)
  refine Ls (Rdo.assign rfl) (Lnt (Wp.seq (Wsr (Ls (Rdo.move rfl) (Ls (Rdo.eqnil rfl rfl) (Lnt ?_))))))
  refine Wp.condT rfl ?_
  refine Wsr ?_
  refine Ls (Rdo.load rfl Ld) ?_
  refine WpL.step (St rfl rfl (VC.ag _) ?_)
  refine Ls (Rdo.assign rfl) (Lnt (Wp.ret ?_))
  refine Thn.r ?_
  refine Rt (ResV.cell rfl (by repeat (first | exact Lds.one rfl | (apply Lds.all; (first | rfl | assumption | (simp <;> fail))) | exact Lds.ione0 | exact Lds.ione rfl | (apply Lds.iall; (first | rfl | assumption | (simp <;> fail))) | apply Lds.next)) (ResV.tmp rfl ResV.nil)) ⟨rfl, rfl⟩
def lockOk (k : LockS) : Prop := k.value.length ≤ 100000 ∧ k.votes.length ≤ 1000
theorem lockOk_free : lockOk free := by simp [lockOk, free]
theorem lockOk_proved (keys : List Hash) (slot below : Int) (k : LockS) (h : lockOk k) : lockOk (provedL keys slot below k) := by
  unfold provedL
  split
  · exact h
  · exact lockOk_free
theorem lockOk_higher (keys : List Hash) (slot below : Int) (a b : LockS) (ha : lockOk a) (hb : lockOk b) : lockOk (higherL keys slot below a b) := by
  unfold higherL
  split
  · exact lockOk_proved _ _ _ _ hb
  · exact lockOk_proved _ _ _ _ ha
abbrev chF (x : RouS) (k : LockS) (p : Int × Msg) : LockS := higherL x.keys x.slot x.view k ⟨-1, p.2.value, p.2.votes⟩
abbrev chW (b : Nat) (x : RouS) (m : RouM) : List HP := [cel b rT (rouX x m), ringF m.rb x.keys, tsA m.ts x.stats, bsF m.wt x.want]
structure ChOk (x : RouS) : Prop where
  keys : x.keys.length ≤ 10
  want : x.want.length ≤ 100000
  len : ∀ l, alook x.stats x.view = some l → l.length ≤ 12
  msg : ∀ l, alook x.stats x.view = some l → ∀ p ∈ l, p.2.value.length ≤ 100000 ∧ p.2.votes.length ≤ 1000
theorem chosen_no1 (b : Nat) (x : RouS) (m : RouM) (ho : ChOk x) (hv : 0 < x.view) (hno : alook x.stats x.view = none) :
    Trip Tryz.prog 120 [vp b 0] (chW b x m) (fun r l => r = .tuple #[vnil, vnil, vb false] ∧ l = chW b x m) := by
  obtain ⟨hk, h1, h2, h3⟩ := ho
  refine Trip.ghE (GhE.tpN (Pk.next (Pk.next Pk.here)) hno) ?_
  rintro ⟨mb, qs⟩ ⟨hnl, hlen⟩
  simp only at hnl hlen ⊢
  have s1 := Tabsta.get_ok m.ts mb (ptrE x.stats qs) x.view
  rw [show mapVal (ptrE x.stats qs) x.view (.pointer none) = .pointer none by unfold mapVal; rw [hnl]; rfl, show (alook (ptrE x.stats qs) x.view).isSome = false by rw [hnl]; rfl] at s1
  have s2 := tm_nil x.me
  simp only [Tabsta.tabA] at *
  refine Trip.of_body Tryz.func120 rfl Tryz.ntmps120 Tryz.results120 rfl ?_
  refine Wsr ?_
  (refine WpL.step (Stp.boxV rfl (VC.p _) rfl ?_); intro nb2)
  refine Ls (Rdo.assign rfl) (Ls (Rdo.assign rfl) (Ls (Rdo.assign rfl) (Lnt (Wp.seq (Wsr (Ls (Rdo.load rfl (Lds.one rfl)) (Ls (Rdo.nilCheck rfl) (Ls (Rdo.fieldAddr0 rfl) (Ls (Rdo.load rfl (Lds.next (Lds.next (Lds.next (Lds.next (Lds.one rfl)))))) (Ls (Rdo.gti rfl rfl) (Lnt (cK rfl (Wp.seq ?_)))))))))))))
  refine Wp.draw (by kernel_rfl) ?_
  refine WpR.phaseL (m := 0) #[true, true, true, true, true, true, true, true, true, true, true, true, true, true] 14 _ rfl (by kernel_rfl) (Tk.cons Pk.here (Tk.cons (Pk.next (Pk.next (Pk.next Pk.here))) Tk.nil)) ?_
  refine At (i := 0) rfl (Rdo.load rfl (Lds.one rfl)) (At (i := 1) rfl (Rdo.nilCheck rfl) (At (i := 2) rfl (Rdo.fieldAddr0 rfl) (At (i := 3) rfl (Rdo.load rfl (Lds.next (Lds.one rfl))) (At (i := 4) rfl (Rdo.load rfl (Lds.one rfl)) (At (i := 5) rfl (Rdo.nilCheck rfl) (At (i := 6) rfl (Rdo.fieldAddr0 rfl) (At (i := 7) rfl (Rdo.load rfl (Lds.next (Lds.one rfl))) ?_)))))))
  refine WpA.one (i := 8) rfl (by kernel_rfl) (Sc (s1) rfl ?_)
  rintro _ _ ⟨rfl, rfl⟩
  refine WpA.lst (by simp only [List.cons_append, List.nil_append]; exact rfl) ?_
  refine At (i := 9) rfl (Rdo.move rfl) (At (i := 10) rfl (Rdo.extract rfl rfl) (At (i := 11) rfl (Rdo.extract rfl rfl) (At (i := 12) rfl (Rdo.assign rfl) (At (i := 13) rfl (Rdo.assign rfl) ?_))))
  refine WpA.stop (by kernel_rfl) ?_
  refine Ql ?_
  refine WpR.done (by kernel_rfl) ?_
  refine Thn.n (Wp.seq (Wsr (Ls (Rdo.move rfl) (Ls (Rdo.load rfl (Lds.one rfl)) (Ls (Rdo.nilCheck rfl) (Ls (Rdo.fieldAddr0 rfl) (Ls (Rdo.load rfl (Lds.next (Lds.one rfl))) ?_)))))))
  refine WpL.step (Sc (s2) rfl ?_)
  rintro _ _ ⟨rfl, rfl⟩
  refine Ll ?_
  refine Ls (Rdo.move rfl) (Ls (Rdo.extract rfl rfl) (Ls (Rdo.extract rfl rfl) ?_))
  (refine WpL.step (Stp.alloc rfl ?_); intro nb56)
  refine WpL.step (St rfl rfl (VC.ag _) ?_)
  refine Ls (Rdo.assign rfl) (Lnt (Wp.seq ?_))
  refine Wp.draw (by kernel_rfl) ?_
  refine Qt (i := 0) rfl (Rdo.move rfl) (Qt (i := 1) rfl (Rdo.not rfl) (Qt (i := 2) rfl (Rdo.move rfl) (Qp (i := 3) rfl rfl rfl (Qp (i := 4) rfl rfl rfl (Qt (i := 5) rfl (Rdo.pick_t rfl rfl) (Qt (i := 6) rfl (Rdo.move rfl) (Qp (i := 7) rfl rfl rfl (Qp (i := 8) rfl rfl rfl (Qp (i := 9) rfl rfl rfl (Qp (i := 10) rfl rfl rfl (Qp (i := 11) rfl rfl rfl (Qt (i := 12) rfl (Rdo.pick_t rfl rfl) ?_))))))))))))
  refine WpR.done (by kernel_rfl) ?_
  refine Thn.n ?_
  refine Wp.condT rfl ?_
  refine Wsr (Ls (Rdo.assign rfl) (Ls (Rdo.assign rfl) (Ls (Rdo.assign rfl) (Lnt (Wp.ret ?_)))))
  refine Thn.r ?_
  refine Thn.r ?_
  refine Ret.now (l' := chW b x m) (by repeat (first | exact ResV.nil | apply ResV.tmp rfl | apply ResV.cell rfl (by repeat (first | exact Lds.one rfl | (apply Lds.all; (first | rfl | assumption | (simp <;> fail))) | exact Lds.ione0 | exact Lds.ione rfl | (apply Lds.iall; (first | rfl | assumption | (simp <;> fail))) | apply Lds.next)))) ?_ ⟨rfl, rfl⟩
  exact Gh.trans (Gh.tk (l' := [cel m.ts tsT [.map (some mb)], mapA i64 mb (ptrE x.stats qs), starH (ownE tmA x.stats qs), cel b rT (rouX x m), ringF m.rb x.keys, bsF m.wt x.want]) (by repeat (first | exact Tk.nil | apply Tk.cons (by repeat (first | exact Pk.here | apply Pk.next))))) (Gh.trans (tp_shut hlen) Gk)
theorem chosen_no2 (b : Nat) (x : RouS) (m : RouM) (ho : ChOk x) (hv : 0 < x.view) (l : List (Int × Msg)) (hl : alook x.stats x.view = some l) (hno : alook l x.me = none ∨ (l.length : Int) < quorum x.keys.length) :
    Trip Tryz.prog 120 [vp b 0] (chW b x m) (fun r l => r = .tuple #[vnil, vnil, vb false] ∧ l = chW b x m) := by
  obtain ⟨hk, h1, h2, h3⟩ := ho
  refine Trip.ghE (GhE.tpS (Pk.next (Pk.next Pk.here)) hl) ?_
  rintro ⟨mb, qs, q, R⟩ ⟨hyes, hlen, hR, hback⟩
  simp only at hyes hlen hR hback ⊢
  have s1 := Tabsta.get_ok m.ts mb (ptrE x.stats qs) x.view
  rw [show mapVal (ptrE x.stats qs) x.view (.pointer none) = vp q 0 by unfold mapVal; rw [hyes]; rfl, show (alook (ptrE x.stats qs) x.view).isSome = true by rw [hyes]; rfl] at s1
  simp only [Tabsta.tabA] at *
  cases hme : alook l x.me with
  | none =>
    have s2 := tm_no q l x.me hme
    refine Trip.of_body Tryz.func120 rfl Tryz.ntmps120 Tryz.results120 rfl ?_
    refine Wsr ?_
    (refine WpL.step (Stp.boxV rfl (VC.p _) rfl ?_); intro nb2)
    refine Ls (Rdo.assign rfl) (Ls (Rdo.assign rfl) (Ls (Rdo.assign rfl) (Lnt (Wp.seq (Wsr (Ls (Rdo.load rfl (Lds.one rfl)) (Ls (Rdo.nilCheck rfl) (Ls (Rdo.fieldAddr0 rfl) (Ls (Rdo.load rfl (Lds.next (Lds.next (Lds.next (Lds.next (Lds.next (Lds.one rfl))))))) (Ls (Rdo.gti rfl rfl) (Lnt (cK rfl (Wp.seq ?_)))))))))))))
    refine Wp.draw (by kernel_rfl) ?_
    refine WpR.phaseL (m := 0) #[true, true, true, true, true, true, true, true, true, true, true, true, true, true] 14 _ rfl (by kernel_rfl) (Tk.cons Pk.here (Tk.cons (Pk.next (Pk.next (Pk.next (Pk.next Pk.here)))) Tk.nil)) ?_
    refine At (i := 0) rfl (Rdo.load rfl (Lds.one rfl)) (At (i := 1) rfl (Rdo.nilCheck rfl) (At (i := 2) rfl (Rdo.fieldAddr0 rfl) (At (i := 3) rfl (Rdo.load rfl (Lds.next (Lds.one rfl))) (At (i := 4) rfl (Rdo.load rfl (Lds.one rfl)) (At (i := 5) rfl (Rdo.nilCheck rfl) (At (i := 6) rfl (Rdo.fieldAddr0 rfl) (At (i := 7) rfl (Rdo.load rfl (Lds.next (Lds.one rfl))) ?_)))))))
    refine WpA.one (i := 8) rfl (by kernel_rfl) (Sc (s1) rfl ?_)
    rintro _ _ ⟨rfl, rfl⟩
    refine WpA.lst (by simp only [List.cons_append, List.nil_append]; exact rfl) ?_
    refine At (i := 9) rfl (Rdo.move rfl) (At (i := 10) rfl (Rdo.extract rfl rfl) (At (i := 11) rfl (Rdo.extract rfl rfl) (At (i := 12) rfl (Rdo.assign rfl) (At (i := 13) rfl (Rdo.assign rfl) ?_))))
    refine WpA.stop (by kernel_rfl) ?_
    refine Ql ?_
    refine WpR.done (by kernel_rfl) ?_
    refine Thn.n (Wp.seq (Wsr (Ls (Rdo.move rfl) (Ls (Rdo.load rfl (Lds.one rfl)) (Ls (Rdo.nilCheck rfl) (Ls (Rdo.fieldAddr0 rfl) (Ls (Rdo.load rfl (Lds.next (Lds.one rfl))) ?_)))))))
    refine WpL.step (Sc (s2) rfl ?_)
    rintro _ _ ⟨rfl, rfl⟩
    refine Ll ?_
    refine Ls (Rdo.move rfl) (Ls (Rdo.extract rfl rfl) (Ls (Rdo.extract rfl rfl) ?_))
    (refine WpL.step (Stp.alloc rfl ?_); intro nb56)
    refine WpL.step (St rfl rfl (VC.ag _) ?_)
    refine Ls (Rdo.assign rfl) (Lnt (Wp.seq ?_))
    refine Wp.draw (by kernel_rfl) ?_
    refine Qt (i := 0) rfl (Rdo.move rfl) (Qt (i := 1) rfl (Rdo.not rfl) (Qt (i := 2) rfl (Rdo.move rfl) (Qw (i := 3) rfl rfl rfl (Rdo.move rfl) (Qw (i := 4) rfl rfl rfl (Rdo.not rfl) (Qt (i := 5) rfl (Rdo.pick_f rfl rfl) (Qt (i := 6) rfl (Rdo.move rfl) (Qp (i := 7) rfl rfl rfl (Qp (i := 8) rfl rfl rfl (Qp (i := 9) rfl rfl rfl (Qp (i := 10) rfl rfl rfl (Qp (i := 11) rfl rfl rfl (Qt (i := 12) rfl (Rdo.pick_t rfl rfl) ?_))))))))))))
    refine WpR.done (by kernel_rfl) ?_
    refine Thn.n ?_
    refine Wp.condT rfl ?_
    refine Wsr (Ls (Rdo.assign rfl) (Ls (Rdo.assign rfl) (Ls (Rdo.assign rfl) (Lnt (Wp.ret ?_)))))
    refine Thn.r ?_
    refine Thn.r ?_
    refine Ret.now (l' := chW b x m) (by repeat (first | exact ResV.nil | apply ResV.tmp rfl | apply ResV.cell rfl (by repeat (first | exact Lds.one rfl | (apply Lds.all; (first | rfl | assumption | (simp <;> fail))) | exact Lds.ione0 | exact Lds.ione rfl | (apply Lds.iall; (first | rfl | assumption | (simp <;> fail))) | apply Lds.next)))) ?_ ⟨rfl, rfl⟩
    exact Gh.trans (Gh.tk (l' := [cel m.ts tsT [.map (some mb)], mapA i64 mb (ptrE x.stats qs), tmA q l, starH R, cel b rT (rouX x m), ringF m.rb x.keys, bsF m.wt x.want]) (by repeat (first | exact Tk.nil | apply Tk.cons (by repeat (first | exact Pk.here | apply Pk.next))))) (Gh.trans (tp_same hlen hR) Gk)
  | some M0 =>
    have hq : (l.length : Int) < quorum x.keys.length := by
      rcases hno with h | h
      · rw [hme] at h; cases h
      · exact h
    have s2 := tm_yes q l x.me M0 hme
    have s3 := tm_len q l
    have s4 := quorumR_ok b m.rb x.keys (rouX x m) hk rfl
    refine Trip.of_body Tryz.func120 rfl Tryz.ntmps120 Tryz.results120 rfl ?_
    refine Wsr ?_
    (refine WpL.step (Stp.boxV rfl (VC.p _) rfl ?_); intro nb2)
    refine Ls (Rdo.assign rfl) (Ls (Rdo.assign rfl) (Ls (Rdo.assign rfl) (Lnt (Wp.seq (Wsr (Ls (Rdo.load rfl (Lds.one rfl)) (Ls (Rdo.nilCheck rfl) (Ls (Rdo.fieldAddr0 rfl) (Ls (Rdo.load rfl (Lds.next (Lds.next (Lds.next (Lds.next (Lds.next (Lds.one rfl))))))) (Ls (Rdo.gti rfl rfl) (Lnt (cK rfl (Wp.seq ?_)))))))))))))
    refine Wp.draw (by kernel_rfl) ?_
    refine WpR.phaseL (m := 0) #[true, true, true, true, true, true, true, true, true, true, true, true, true, true] 14 _ rfl (by kernel_rfl) (Tk.cons Pk.here (Tk.cons (Pk.next (Pk.next (Pk.next (Pk.next Pk.here)))) Tk.nil)) ?_
    refine At (i := 0) rfl (Rdo.load rfl (Lds.one rfl)) (At (i := 1) rfl (Rdo.nilCheck rfl) (At (i := 2) rfl (Rdo.fieldAddr0 rfl) (At (i := 3) rfl (Rdo.load rfl (Lds.next (Lds.one rfl))) (At (i := 4) rfl (Rdo.load rfl (Lds.one rfl)) (At (i := 5) rfl (Rdo.nilCheck rfl) (At (i := 6) rfl (Rdo.fieldAddr0 rfl) (At (i := 7) rfl (Rdo.load rfl (Lds.next (Lds.one rfl))) ?_)))))))
    refine WpA.one (i := 8) rfl (by kernel_rfl) (Sc (s1) rfl ?_)
    rintro _ _ ⟨rfl, rfl⟩
    refine WpA.lst (by simp only [List.cons_append, List.nil_append]; exact rfl) ?_
    refine At (i := 9) rfl (Rdo.move rfl) (At (i := 10) rfl (Rdo.extract rfl rfl) (At (i := 11) rfl (Rdo.extract rfl rfl) (At (i := 12) rfl (Rdo.assign rfl) (At (i := 13) rfl (Rdo.assign rfl) ?_))))
    refine WpA.stop (by kernel_rfl) ?_
    refine Ql ?_
    refine WpR.done (by kernel_rfl) ?_
    refine Thn.n (Wp.seq (Wsr (Ls (Rdo.move rfl) (Ls (Rdo.load rfl (Lds.one rfl)) (Ls (Rdo.nilCheck rfl) (Ls (Rdo.fieldAddr0 rfl) (Ls (Rdo.load rfl (Lds.next (Lds.one rfl))) ?_)))))))
    refine WpL.step (Sc (s2) rfl ?_)
    rintro _ _ ⟨v51_0, ⟨rfl, rfl⟩⟩
    refine Ll ?_
    refine Ls (Rdo.move rfl) (Ls (Rdo.extract rfl rfl) (Ls (Rdo.extract rfl rfl) ?_))
    (refine WpL.step (Stp.alloc rfl ?_); intro nb56)
    refine WpL.step (St rfl rfl (VC.ag _) ?_)
    refine Ls (Rdo.assign rfl) (Lnt (Wp.seq ?_))
    refine Wp.draw (by kernel_rfl) ?_
    refine Qt (i := 0) rfl (Rdo.move rfl) (Qt (i := 1) rfl (Rdo.not rfl) (Qt (i := 2) rfl (Rdo.move rfl) (Qw (i := 3) rfl rfl rfl (Rdo.move rfl) (Qw (i := 4) rfl rfl rfl (Rdo.not rfl) (Qt (i := 5) rfl (Rdo.pick_f rfl rfl) (Qt (i := 6) rfl (Rdo.move rfl) (Qw (i := 7) rfl rfl rfl (Rdo.move rfl) ?_)))))))
    refine WpR.phaseL (m := 0) #[true, true, true, true, true, true, true, true, true, true, true, true, true] 5 _ rfl (by kernel_rfl) (Tk.cons (Pk.next (Pk.next (Pk.next Pk.here))) Tk.nil) ?_
    refine Aw (i := 9) rfl rfl rfl (Rdo.load rfl (Lds.one rfl)) ?_
    refine WpA.oneG (i := 8) rfl rfl rfl rfl (by kernel_rfl) (Sc (s3) rfl ?_)
    rintro _ _ ⟨rfl, rfl⟩
    refine WpA.lst (by simp only [List.cons_append, List.nil_append]; exact rfl) ?_
    refine WpA.oneG (i := 10) rfl rfl rfl rfl (by kernel_rfl) (Sc (s4) rfl ?_)
    rintro _ _ ⟨rfl, rfl⟩
    refine WpA.lst (by simp only [List.cons_append, List.nil_append]; exact rfl) ?_
    refine Aw (i := 11) rfl rfl rfl (Rdo.lti rfl rfl) (At (i := 12) rfl (Rdo.pick_f rfl rfl) ?_)
    refine WpA.stop (by kernel_rfl) ?_
    refine Ql ?_
    refine WpR.done (by kernel_rfl) ?_
    refine Thn.n (cK rfl (Wsr (Ls (Rdo.assign rfl) (Ls (Rdo.assign rfl) (Ls (Rdo.assign rfl) (Lnt (Wp.ret ?_)))))))
    refine Thn.r ?_
    refine Thn.r ?_
    refine Ret.now (l' := chW b x m) (by repeat (first | exact ResV.nil | apply ResV.tmp rfl | apply ResV.cell rfl (by repeat (first | exact Lds.one rfl | (apply Lds.all; (first | rfl | assumption | (simp <;> fail))) | exact Lds.ione0 | exact Lds.ione rfl | (apply Lds.iall; (first | rfl | assumption | (simp <;> fail))) | apply Lds.next)))) ?_ ⟨rfl, rfl⟩
    exact Gh.trans (Gh.tk (l' := [cel m.ts tsT [.map (some mb)], mapA i64 mb (ptrE x.stats qs), tmA q l, starH R, cel b rT (rouX x m), ringF m.rb x.keys, bsF m.wt x.want]) (by repeat (first | exact Tk.nil | apply Tk.cons (by repeat (first | exact Pk.here | apply Pk.next))))) (Gh.trans (tp_same hlen hR) Gk)
theorem chosen_0 (b : Nat) (x : RouS) (m : RouM) (ho : ChOk x) (hv : ¬ 0 < x.view) :
    Trip Tryz.prog 120 [vp b 0] (chW b x m) (fun r l => r = .tuple #[.slice m.wt.1 x.want.length m.wt.2, vnil, vb (decide (0 < (x.want.length : Int)))] ∧ l = chW b x m) := by
  refine Trip.of_body Tryz.func120 rfl Tryz.ntmps120 Tryz.results120 rfl ?_
  refine Wsr ?_
  (refine WpL.step (Stp.boxV rfl (VC.p _) rfl ?_); intro nb2)
  refine Ls (Rdo.assign rfl) (Ls (Rdo.assign rfl) (Ls (Rdo.assign rfl) (Lnt (Wp.seq (Wsr (Ls (Rdo.load rfl (Lds.one rfl)) (Ls (Rdo.nilCheck rfl) (Ls (Rdo.fieldAddr0 rfl) (Ls (Rdo.load rfl (Lds.next (Lds.one rfl))) (Ls (Rdo.gti rfl rfl) (Lnt (cL rfl (Wp.skip ?_)))))))))))))
  refine Thn.n (Wp.seq ?_)
  refine Wp.draw (by kernel_rfl) ?_
  refine WpR.phaseL (m := 0) #[true, true, true, true, true, true, true, true, true, true, true, true, true] 13 _ rfl (by kernel_rfl) (Tk.cons Pk.here (Tk.cons Pk.here Tk.nil)) ?_
  refine At (i := 0) rfl (Rdo.load rfl (Lds.one rfl)) (At (i := 1) rfl (Rdo.nilCheck rfl) (At (i := 2) rfl (Rdo.fieldAddr0 rfl) (At (i := 3) rfl (Rdo.load rfl (Lds.next (Lds.one rfl))) (At (i := 4) rfl (Rdo.load rfl (Lds.one rfl)) (At (i := 5) rfl (Rdo.nilCheck rfl) (At (i := 6) rfl (Rdo.fieldAddr0 rfl) (At (i := 7) rfl (Rdo.load rfl (Lds.next (Lds.one rfl))) (At (i := 8) rfl (Rdo.lenSlice rfl) (At (i := 9) rfl (Rdo.gti rfl rfl) (At (i := 10) rfl (Rdo.assign rfl) (At (i := 11) rfl (Rdo.assign rfl) (At (i := 12) rfl (Rdo.assign rfl) ?_))))))))))))
  refine WpA.stop (by kernel_rfl) ?_
  refine Ql ?_
  refine WpR.done (by kernel_rfl) ?_
  refine Thn.n (Wp.ret ?_)
  refine Rt (ResV.tmp rfl (ResV.tmp rfl (ResV.tmp rfl ResV.nil))) ⟨rfl, rfl⟩
theorem foldl_ok (x : RouS) (l : List (Int × Msg)) (h : ∀ p ∈ l, p.2.value.length ≤ 100000 ∧ p.2.votes.length ≤ 1000) : ∀ k, lockOk k → lockOk (l.foldl (chF x) k) := by
  induction l with
  | nil => intro k hk; exact hk
  | cons p l ih =>
    intro k hk
    rw [List.foldl_cons]
    exact ih (fun p hp => h p (by simp [hp])) _ (lockOk_higher _ _ _ _ _ hk (h p (by simp)))
abbrev chJ (b : Nat) (x : RouS) (m : RouM) (nbk nb2 q mb2 mb : Nat) (es ss : List (Int × Value)) (l : List (Int × Msg)) (qs : List Nat) (R : List HP) (k : LockS) (y : PX) : List HP :=
  [cel nbk 53 (lockC k y), bsF y.1 k.value, vsF y.2 k.votes, cel nb2 23 [vp b 0], cel b rT (rouX x m), ringF m.rb x.keys, cel q 126 [.map (some mb2)], mapA i64 mb2 es, fz (fun g => RdMT g es l), fz (fun g => RdMT g ss (sortT l)), cel m.ts tsT [.map (some mb)], mapA i64 mb (ptrE x.stats qs), starH R, bsF m.wt x.want]
theorem chosen_loop (b : Nat) (x : RouS) (m : RouM) (ho : ChOk x) (hv : 0 < x.view) (l : List (Int × Msg)) (hl : alook x.stats x.view = some l) (M0 : Msg) (hme : alook l x.me = some M0) (hq : ¬ (l.length : Int) < quorum x.keys.length)
    (k : LockS) (hkk : k = (sortT l).foldl (chF x) free) :
    Trip Tryz.prog 120 [vp b 0] (chW b x m) (fun r h => (0 ≤ k.view ∧ ∃ y : PX, r = .tuple #[.slice y.1.1 k.value.length y.1.2, .slice y.2.1 k.votes.length y.2.2, vb true] ∧ h = chW b x m ++ [bsF y.1 k.value, vsF y.2 k.votes]) ∨
      (¬ 0 ≤ k.view ∧ r = .tuple #[.slice m.wt.1 x.want.length m.wt.2, vnil, vb (decide (0 < (x.want.length : Int)))] ∧ h = chW b x m)) := by
  obtain ⟨hk, h1, h2, h3⟩ := ho
  have h2' := h2 l hl
  have h3' := h3 l hl
  refine Trip.ghE (GhE.tpS (Pk.next (Pk.next Pk.here)) hl) ?_
  rintro ⟨mb, qs, q, R⟩ ⟨hyes, hlen, hR, hback⟩
  simp only at hyes hlen hR hback ⊢
  have s1 := Tabsta.get_ok m.ts mb (ptrE x.stats qs) x.view
  rw [show mapVal (ptrE x.stats qs) x.view (.pointer none) = vp q 0 by unfold mapVal; rw [hyes]; rfl, show (alook (ptrE x.stats qs) x.view).isSome = true by rw [hyes]; rfl] at s1
  have s2 := tm_yes q l x.me M0 hme
  have s3 := tm_len q l
  have s4 := quorumR_ok b m.rb x.keys (rouX x m) hk rfl
  have s5 := Tabmsg.all_ok q
  have s6 := free_ok
  simp only [Tabsta.tabA] at *
  refine Trip.of_body Tryz.func120 rfl Tryz.ntmps120 Tryz.results120 rfl ?_
  refine Wsr ?_
  (refine WpL.step (Stp.boxV rfl (VC.p _) rfl ?_); intro nb2)
  refine Ls (Rdo.assign rfl) (Ls (Rdo.assign rfl) (Ls (Rdo.assign rfl) (Lnt (Wp.seq (Wsr (Ls (Rdo.load rfl (Lds.one rfl)) (Ls (Rdo.nilCheck rfl) (Ls (Rdo.fieldAddr0 rfl) (Ls (Rdo.load rfl (Lds.next (Lds.next (Lds.next (Lds.next (Lds.next (Lds.one rfl))))))) (Ls (Rdo.gti rfl rfl) (Lnt (cK rfl (Wp.seq ?_)))))))))))))
  refine Wp.draw (by kernel_rfl) ?_
  refine WpR.phaseL (m := 0) #[true, true, true, true, true, true, true, true, true, true, true, true, true, true] 14 _ rfl (by kernel_rfl) (Tk.cons Pk.here (Tk.cons (Pk.next (Pk.next (Pk.next (Pk.next Pk.here)))) Tk.nil)) ?_
  refine At (i := 0) rfl (Rdo.load rfl (Lds.one rfl)) (At (i := 1) rfl (Rdo.nilCheck rfl) (At (i := 2) rfl (Rdo.fieldAddr0 rfl) (At (i := 3) rfl (Rdo.load rfl (Lds.next (Lds.one rfl))) (At (i := 4) rfl (Rdo.load rfl (Lds.one rfl)) (At (i := 5) rfl (Rdo.nilCheck rfl) (At (i := 6) rfl (Rdo.fieldAddr0 rfl) (At (i := 7) rfl (Rdo.load rfl (Lds.next (Lds.one rfl))) ?_)))))))
  refine WpA.one (i := 8) rfl (by kernel_rfl) (Sc (s1) rfl ?_)
  rintro _ _ ⟨rfl, rfl⟩
  refine WpA.lst (by simp only [List.cons_append, List.nil_append]; exact rfl) ?_
  refine At (i := 9) rfl (Rdo.move rfl) (At (i := 10) rfl (Rdo.extract rfl rfl) (At (i := 11) rfl (Rdo.extract rfl rfl) (At (i := 12) rfl (Rdo.assign rfl) (At (i := 13) rfl (Rdo.assign rfl) ?_))))
  refine WpA.stop (by kernel_rfl) ?_
  refine Ql ?_
  refine WpR.done (by kernel_rfl) ?_
  refine Thn.n (Wp.seq (Wsr (Ls (Rdo.move rfl) (Ls (Rdo.load rfl (Lds.one rfl)) (Ls (Rdo.nilCheck rfl) (Ls (Rdo.fieldAddr0 rfl) (Ls (Rdo.load rfl (Lds.next (Lds.one rfl))) ?_)))))))
  refine WpL.step (Sc (s2) rfl ?_)
  rintro _ _ ⟨v51_0, ⟨rfl, rfl⟩⟩
  refine Ll ?_
  refine Ls (Rdo.move rfl) (Ls (Rdo.extract rfl rfl) (Ls (Rdo.extract rfl rfl) ?_))
  (refine WpL.step (Stp.alloc rfl ?_); intro nb56)
  refine WpL.step (St rfl rfl (VC.ag _) ?_)
  refine Ls (Rdo.assign rfl) (Lnt (Wp.seq ?_))
  refine Wp.draw (by kernel_rfl) ?_
  refine Qt (i := 0) rfl (Rdo.move rfl) (Qt (i := 1) rfl (Rdo.not rfl) (Qt (i := 2) rfl (Rdo.move rfl) (Qw (i := 3) rfl rfl rfl (Rdo.move rfl) (Qw (i := 4) rfl rfl rfl (Rdo.not rfl) (Qt (i := 5) rfl (Rdo.pick_f rfl rfl) (Qt (i := 6) rfl (Rdo.move rfl) (Qw (i := 7) rfl rfl rfl (Rdo.move rfl) ?_)))))))
  refine WpR.phaseL (m := 0) #[true, true, true, true, true, true, true, true, true, true, true, true, true] 5 _ rfl (by kernel_rfl) (Tk.cons (Pk.next (Pk.next (Pk.next Pk.here))) Tk.nil) ?_
  refine Aw (i := 9) rfl rfl rfl (Rdo.load rfl (Lds.one rfl)) ?_
  refine WpA.oneG (i := 8) rfl rfl rfl rfl (by kernel_rfl) (Sc (s3) rfl ?_)
  rintro _ _ ⟨rfl, rfl⟩
  refine WpA.lst (by simp only [List.cons_append, List.nil_append]; exact rfl) ?_
  refine WpA.oneG (i := 10) rfl rfl rfl rfl (by kernel_rfl) (Sc (s4) rfl ?_)
  rintro _ _ ⟨rfl, rfl⟩
  refine WpA.lst (by simp only [List.cons_append, List.nil_append]; exact rfl) ?_
  refine Aw (i := 11) rfl rfl rfl (Rdo.lti rfl rfl) (At (i := 12) rfl (Rdo.pick_f rfl rfl) ?_)
  refine WpA.stop (by kernel_rfl) ?_
  refine Ql ?_
  refine WpR.done (by kernel_rfl) ?_
  refine Thn.n (cL rfl (Wp.skip (Thn.n (Wsr ?_))))
  refine WpL.step (Sc (s6) rfl ?_)
  rintro _ _ ⟨rfl, rfl⟩
  refine Ll ?_
  (refine WpL.step (Stp.alloc rfl ?_); intro nb93)
  refine WpL.step (St rfl rfl (VC.ag _) ?_)
  refine Lnt (Wp.seq (Wsr (Ls (Rdo.move rfl) ?_)))
  refine WpL.step (Sc (s5) rfl ?_)
  rintro _ _ ⟨v102_0, ⟨v102_1, ⟨rfl, rfl⟩⟩⟩
  refine Ll ?_
  refine Lnt (Wp.block ?_)
  refine Wp.ghE (tm_open (b := q) (ms := l) (by repeat (first | exact Pk.here | apply Pk.next))) ?_
  rintro ⟨mb2, es⟩ -
  simp only
  refine Wp.get (Pk.next (Pk.next Pk.here)) (φ := es.length = l.length) (fun r hr => by unfold fz at hr; exact hr.len) ?_
  intro hel
  obtain ⟨ss, hp1, hp2⟩ := All2.permL (sortT_perm l).symm hel
  refine Wp.heap (fun F w h => Gh.use (Gh.fzAlso (Ψ := fun g => RdMT g ss (sortT l)) (Pk.next (Pk.next Pk.here)) fun g hg => hp2 _ hg) h) ?_
  refine Wp.get Pk.here (φ := akeys ss = akeys (sortT l)) (fun r hr => by unfold fz at hr; exact hr.keys) ?_
  intro hks
  have hs : (akeys ss).Pairwise (· ≤ ·) := by rw [hks]; exact sortT_rise l
  have hsl : ss.length = (sortT l).length := by have := congrArg List.length hks; simpa [akeys] using this
  refine Wp.rangeFunc (ps := [54, 55]) rfl (by kernel_rfl) (Tabmsg.allIter v102_0 v102_1 q mb2 91 68 es ss hp1.symm hs (by omega)) (fun _ => rfl) rfl
    (fun pre h => ∃ y : PX, h = chJ b x m nb93 nb2 q mb2 mb es ss l qs R (((sortT l).take pre.length).foldl (chF x) free) y)
    (fun _ _ _ => False)
    (l0 := chJ b x m nb93 nb2 q mb2 mb es ss l qs R free ((none, 0), (none, 0))) ?_ ⟨((none, 0), (none, 0)), rfl⟩ ?_ ?_ ?_ ?_
  · exact Gh.trans (Gh.trans (Gh.noVotes (a := none) (c := 0)) (Gh.noBytes (a := none) (c := 0))) Gk
  · exact Bor.tk (see := Tabmsg.tabA q mb2 es) (by repeat (first | exact Tk.nil | apply Tk.cons (by repeat (first | exact Pk.here | apply Pk.next)))) Gk
  · rintro lp rec pre ⟨kx, v⟩ rest _ hsp ⟨y, rfl⟩ st pe
    have he : ss[pre.length]? = some (kx, v) := by rw [← hsp]; simp
    have hil : pre.length < (sortT l).length := by rw [← hsl]; exact (List.getElem?_eq_some_iff.1 he).1
    obtain ⟨⟨k', M⟩, hM⟩ : ∃ p, (sortT l)[pre.length]? = some p := ⟨(sortT l)[pre.length], List.getElem?_eq_getElem hil⟩
    have hMm := h3' (k', M) ((sortT_perm l).mem_iff.1 (List.mem_of_getElem? hM))
    simp only at hMm
    have htk : (sortT l).take (pre ++ [((kx, v) : Int × Value)]).length = (sortT l).take pre.length ++ [(k', M)] := by
      rw [List.length_append]
      obtain ⟨h1, h2⟩ := List.getElem?_eq_some_iff.1 hM
      rw [← h2]
      exact List.take_succ_eq_append_getElem h1
    have hlk := foldl_ok x ((sortT l).take pre.length) (fun p hp => h3' p ((sortT_perm l).mem_iff.1 (List.mem_of_mem_take hp))) free lockOk_free
    have hnext : ((sortT l).take (pre ++ [((kx, v) : Int × Value)]).length).foldl (chF x) free = higherL x.keys x.slot x.view (((sortT l).take pre.length).foldl (chF x) free) ⟨-1, M.value, M.votes⟩ := by
      rw [htk, List.foldl_append]; rfl
    generalize ((sortT l).take pre.length).foldl (chF x) free = K at *
    obtain ⟨hK1, hK2⟩ := hlk
    simp only [chJ]
    refine Wp.ghE (GhE.tmIx (by repeat (first | exact Pk.here | apply Pk.next)) hM) ?_
    intro yM hyM
    rw [he] at hyM
    simp only [Option.some.injEq, Prod.mk.injEq] at hyM
    obtain ⟨rfl, rfl⟩ := hyM
    refine Wp.get Pk.here len_msgs ?_
    intro hoM
    refine Wp.heap (fun F w h => Gh.use (ms_partsK (x := yM) (m := M) Pk.here) h) ?_
    have s7 := higher_ok m.rb x.keys hk K ⟨-1, M.value, M.votes⟩ y yM x.slot x.view (by omega) (by omega) (by simp only; omega) (by simp only; omega)
    rw [← hnext] at s7
    clear hnext
    generalize hK2 : ((sortT l).take (pre ++ [((kx, Value.agg (msgCs M yM).toArray) : Int × Value)]).length).foldl (chF x) free = K2 at *
    refine Wp.region ?_
    (refine WpL.step (Stp.alloc rfl ?_); intro nb1)
    refine WpL.step (St rfl rfl (VC.ag _) ?_)
    refine WpL.nil ?_
    refine ⟨rfl, fun st pe => ?_⟩
    refine Wp.block ?_
    refine Wp.draw (by kernel_rfl) ?_
    refine Qt (i := 13) rfl (Rdo.fieldAddr0 rfl) (Qt (i := 15) rfl (Rdo.fieldAddr0 rfl) ?_)
    refine WpR.phaseL (m := 1) #[true, true, true, true, true, true, true, true, true, true, true, true, true, true, true, true, true, true, true, false] 17 _ rfl (by kernel_rfl) (Tk.cons Pk.here (Tk.cons (Pk.next (Pk.next (Pk.next (Pk.next Pk.here)))) (Tk.cons (Pk.next (Pk.next (Pk.next (Pk.next (Pk.next (Pk.next Pk.here)))))) (Tk.cons (Pk.next (Pk.next (Pk.next (Pk.next (Pk.next (Pk.next Pk.here)))))) Tk.nil)))) ?_
    refine At (i := 0) rfl (Rdo.load rfl (Lds.next (Lds.next (Lds.one rfl)))) (At (i := 1) rfl (Rdo.nilCheck rfl) (At (i := 2) rfl (Rdo.fieldAddr0 rfl) (At (i := 3) rfl (Rdo.load rfl (Lds.next (Lds.next (Lds.next (Lds.one rfl))))) (At (i := 4) rfl (Rdo.load rfl (Lds.next (Lds.next (Lds.one rfl)))) (At (i := 5) rfl (Rdo.nilCheck rfl) (At (i := 6) rfl (Rdo.fieldAddr0 rfl) (At (i := 7) rfl (Rdo.load rfl (Lds.next (Lds.next (Lds.next (Lds.one rfl))))) (At (i := 8) rfl (Rdo.load rfl (Lds.next (Lds.next (Lds.one rfl)))) (At (i := 9) rfl (Rdo.nilCheck rfl) (At (i := 10) rfl (Rdo.fieldAddr0 rfl) (At (i := 11) rfl (Rdo.load rfl (Lds.next (Lds.next (Lds.next (Lds.one rfl))))) ?_)))))))))))
    refine At (i := 12) rfl (Rdo.load rfl (Lds.next Ld)) ?_
    refine At (i := 14) rfl (Rdo.load rfl (Lds.one rfl)) (At (i := 16) rfl (Rdo.load rfl (Lds.one rfl)) ?_)
    refine At (i := 17) rfl (Rdo.bld rfl (BldL.cons rfl (VC.i _ _) (by first | rfl | assumption | (simp <;> done)) (by repeat (first | exact LPut.nil _ | (refine LPut.seg ?_; first | assumption | (simp <;> done)) | (refine LPut.segEnd ?_; first | assumption | (simp <;> done)) | (with_reducible apply LPut.here) | apply LPut.hereL | apply LPut.here | (apply LPut.over32; focus (first | assumption | (simp <;> done))) | (with_reducible apply LPut.next) | apply LPut.nextL | apply LPut.next)) (BldL.cons rfl (VC.sl _ _ _) (by first | rfl | assumption | (simp <;> done)) (by repeat (first | exact LPut.nil _ | (refine LPut.seg ?_; first | assumption | (simp <;> done)) | (refine LPut.segEnd ?_; first | assumption | (simp <;> done)) | (with_reducible apply LPut.here) | apply LPut.hereL | apply LPut.here | (apply LPut.over32; focus (first | assumption | (simp <;> done))) | (with_reducible apply LPut.next) | apply LPut.nextL | apply LPut.next)) (BldL.cons rfl (VC.sl _ _ _) (by first | rfl | assumption | (simp <;> done)) (by repeat (first | exact LPut.nil _ | (refine LPut.seg ?_; first | assumption | (simp <;> done)) | (refine LPut.segEnd ?_; first | assumption | (simp <;> done)) | (with_reducible apply LPut.here) | apply LPut.hereL | apply LPut.here | (apply LPut.over32; focus (first | assumption | (simp <;> done))) | (with_reducible apply LPut.next) | apply LPut.nextL | apply LPut.next)) (BldL.nil _))))) ?_
    refine WpA.one (i := 18) rfl (by kernel_rfl) (Sc (s7) rfl ?_)
    rintro _ _ ⟨v22_0, ⟨rfl, rfl⟩⟩
    refine WpA.lst (by simp only [List.cons_append, List.nil_append]; exact rfl) ?_
    refine WpA.stop (by kernel_rfl) ?_
    refine Ql ?_
    refine Qo (i := 19) rfl (St rfl rfl (VC.ag _) ?_)
    refine WpR.done (by kernel_rfl) ?_
    refine Blk.n ?_
    exact ⟨chJ b x m nb93 nb2 q mb2 mb es ss l qs R K2 v22_0, Gk, v22_0, by rw [hK2]⟩
  · rintro xs _ rfl ⟨y, rfl⟩
    rw [hsl, List.take_length, ← hkk]
    have hlk : lockOk k := by rw [hkk]; exact foldl_ok x _ (fun p hp => h3' p ((sortT_perm l).mem_iff.1 hp)) free lockOk_free
    simp only [chJ, List.cons_append, List.nil_append]
    by_cases hkv : 0 ≤ k.view
    · refine Blk.n (Thn.n (Wsr (Ls (Rdo.fieldAddr0 rfl) (Ls (Rdo.load rfl (Lds.one rfl)) (Ls (Rdo.gei rfl rfl) (Lnt (cK rfl (Wp.seq ?_))))))))
      refine Wp.draw (by kernel_rfl) ?_
      refine Qt (i := 0) rfl (Rdo.fieldAddr0 rfl) (Qt (i := 2) rfl (Rdo.fieldAddr0 rfl) ?_)
      refine WpR.load (i := 1) [3] rfl (by kernel_rfl) (by kernel_rfl) (by kernel_rfl) (by kernel_rfl) (by kernel_rfl) rfl Tk.rfl_ (Harm.rd rfl (Rdo.load rfl (Lds.one rfl)) Harm.nil) (Rdo.load rfl (Lds.one rfl)) rfl ?_
      refine Qt (i := 4) rfl (Rdo.assign rfl) ?_
      refine Qo (i := 3) rfl (Stp.rd (Rdo.load rfl (Lds.one rfl)) rfl ?_)
      refine Qt (i := 5) rfl (Rdo.assign rfl) (Qt (i := 6) rfl (Rdo.assign rfl) ?_)
      refine WpR.done (by kernel_rfl) ?_
      refine Thn.n (Wp.ret ?_)
      refine Thn.r ?_
      refine Ret.now (l' := chW b x m ++ [bsF y.1 k.value, vsF y.2 k.votes]) (by repeat (first | exact ResV.nil | apply ResV.tmp rfl | apply ResV.cell rfl (by repeat (first | exact Lds.one rfl | (apply Lds.all; (first | rfl | assumption | (simp <;> fail))) | exact Lds.ione0 | exact Lds.ione rfl | (apply Lds.iall; (first | rfl | assumption | (simp <;> fail))) | apply Lds.next)))) (Gh.trans (Gh.tk (l' := [cel q 126 [.map (some mb2)], mapA i64 mb2 es, fz (fun g => RdMT g es l), cel m.ts tsT [.map (some mb)], mapA i64 mb (ptrE x.stats qs), starH R, cel b rT (rouX x m), ringF m.rb x.keys, bsF m.wt x.want, bsF y.1 k.value, vsF y.2 k.votes]) (by repeat (first | exact Tk.nil | apply Tk.cons (by repeat (first | exact Pk.here | apply Pk.next))))) (Gh.trans tm_shut (Gh.trans (Gh.tk (l' := [cel m.ts tsT [.map (some mb)], mapA i64 mb (ptrE x.stats qs), tmA q l, starH R, cel b rT (rouX x m), ringF m.rb x.keys, bsF m.wt x.want, bsF y.1 k.value, vsF y.2 k.votes]) (by repeat (first | exact Tk.nil | apply Tk.cons (by repeat (first | exact Pk.here | apply Pk.next))))) (Gh.trans (tp_same hlen hR) Gk)))) (.inl ⟨hkv, y, rfl, rfl⟩)
    · refine Blk.n (Thn.n (Wsr (Ls (Rdo.fieldAddr0 rfl) (Ls (Rdo.load rfl (Lds.one rfl)) (Ls (Rdo.gei rfl rfl) (Lnt (cL rfl (Wp.skip (Thn.n (Wp.seq ?_))))))))))
      refine Wp.draw (by kernel_rfl) ?_
      refine WpR.phaseL (m := 0) #[true, true, true, true, true, true, true, true, true, true, true, true, true] 13 _ rfl (by kernel_rfl) (Tk.cons (Pk.next (Pk.next (Pk.next Pk.here))) (Tk.cons (Pk.next (Pk.next (Pk.next Pk.here))) Tk.nil)) ?_
      refine At (i := 0) rfl (Rdo.load rfl (Lds.one rfl)) (At (i := 1) rfl (Rdo.nilCheck rfl) (At (i := 2) rfl (Rdo.fieldAddr0 rfl) (At (i := 3) rfl (Rdo.load rfl (Lds.next (Lds.one rfl))) (At (i := 4) rfl (Rdo.load rfl (Lds.one rfl)) (At (i := 5) rfl (Rdo.nilCheck rfl) (At (i := 6) rfl (Rdo.fieldAddr0 rfl) (At (i := 7) rfl (Rdo.load rfl (Lds.next (Lds.one rfl))) (At (i := 8) rfl (Rdo.lenSlice rfl) (At (i := 9) rfl (Rdo.gti rfl rfl) (At (i := 10) rfl (Rdo.assign rfl) (At (i := 11) rfl (Rdo.assign rfl) (At (i := 12) rfl (Rdo.assign rfl) ?_))))))))))))
      refine WpA.stop (by kernel_rfl) ?_
      refine Ql ?_
      refine WpR.done (by kernel_rfl) ?_
      refine Thn.n (Wp.ret ?_)
      refine Ret.now (l' := chW b x m) (by repeat (first | exact ResV.nil | apply ResV.tmp rfl | apply ResV.cell rfl (by repeat (first | exact Lds.one rfl | (apply Lds.all; (first | rfl | assumption | (simp <;> fail))) | exact Lds.ione0 | exact Lds.ione rfl | (apply Lds.iall; (first | rfl | assumption | (simp <;> fail))) | apply Lds.next)))) (Gh.trans (Gh.tk (l' := [cel q 126 [.map (some mb2)], mapA i64 mb2 es, fz (fun g => RdMT g es l), cel m.ts tsT [.map (some mb)], mapA i64 mb (ptrE x.stats qs), starH R, cel b rT (rouX x m), ringF m.rb x.keys, bsF m.wt x.want, bsF y.1 k.value, vsF y.2 k.votes]) (by repeat (first | exact Tk.nil | apply Tk.cons (by repeat (first | exact Pk.here | apply Pk.next))))) (Gh.trans tm_shut (Gh.trans (Gh.tk (l' := [cel m.ts tsT [.map (some mb)], mapA i64 mb (ptrE x.stats qs), tmA q l, starH R, cel b rT (rouX x m), ringF m.rb x.keys, bsF m.wt x.want, bsF y.1 k.value, vsF y.2 k.votes]) (by repeat (first | exact Tk.nil | apply Tk.cons (by repeat (first | exact Pk.here | apply Pk.next))))) (Gh.trans (tp_same hlen hR) Gk)))) (.inr ⟨hkv, rfl, rfl⟩)
  · intro j pre l' h
    exact h.elim
theorem chosenN (b : Nat) (x : RouS) (m : RouM) (ho : ChOk x) (hno : x.chosen = none) : Trip Tryz.prog 120 [vp b 0] (chW b x m) (fun r l => ∃ v1 v2, r = .tuple #[v1, v2, vb false] ∧ l = chW b x m) := by
  have hwant : ∀ h : x.want = [], (decide (0 < (x.want.length : Int))) = false := fun h => by rw [h]; rfl
  by_cases hv : 0 < x.view
  · cases hl : alook x.stats x.view with
    | none => exact Trip.mono (chosen_no1 b x m ho hv hl) fun r l ⟨h1, h2⟩ => ⟨_, _, h1, h2⟩
    | some l =>
      by_cases hc : alook l x.me = none ∨ (l.length : Int) < quorum x.keys.length
      · exact Trip.mono (chosen_no2 b x m ho hv l hl hc) fun r l ⟨h1, h2⟩ => ⟨_, _, h1, h2⟩
      · obtain ⟨M0, hme⟩ : ∃ M0, alook l x.me = some M0 := by
          cases h : alook l x.me with
          | none => exact absurd (.inl h) hc
          | some M0 => exact ⟨M0, rfl⟩
        have hq : ¬ (l.length : Int) < quorum x.keys.length := fun h => hc (.inr h)
        refine Trip.mono (chosen_loop b x m ho hv l hl M0 hme hq _ rfl) ?_
        unfold RouS.chosen at hno
        simp only [hv, hl, hme, hq, Option.getD_some, Option.isSome_some, Bool.true_eq_false, or_self, and_false, if_false, if_true, true_and] at hno
        rintro r h (⟨hk, y, h1, h2⟩ | ⟨hk, h1, h2⟩)
        · rw [if_pos hk] at hno; cases hno
        · rw [if_neg hk] at hno
          have hw : x.want = [] := by
            by_cases hw : x.want = []
            · exact hw
            · rw [if_neg hw] at hno; cases hno
          rw [hwant hw] at h1
          exact ⟨_, _, h1, h2⟩
  · refine Trip.mono (chosen_0 b x m ho hv) ?_
    unfold RouS.chosen at hno
    simp only [hv, false_and, if_false] at hno
    have hw : x.want = [] := by
      by_cases hw : x.want = []
      · exact hw
      · rw [if_neg hw] at hno; cases hno
    rintro r l ⟨h1, h2⟩
    rw [hwant hw] at h1
    exact ⟨_, _, h1, h2⟩
theorem chosenS (b : Nat) (x : RouS) (m : RouM) (ho : ChOk x) (bs : List UInt8) (why : List Vote) (hyes : x.chosen = some (bs, why)) : Trip Tryz.prog 120 [vp b 0] (chW b x m)
    (fun r l => ∃ y : PX, r = .tuple #[.slice y.1.1 bs.length y.1.2, .slice y.2.1 why.length y.2.2, vb true] ∧ l = chW b x m ++ [bsF y.1 bs, vsF y.2 why]) := by
  have hwant : x.want ≠ [] → (decide (0 < (x.want.length : Int))) = true := fun h => by
    cases hw : x.want with
    | nil => exact absurd hw h
    | cons a l => simp only [List.length_cons, decide_eq_true_eq]; omega
  have hlast : ∀ (r : Value) (l : List HP), x.want ≠ [] → x.want = bs → why = [] → r = .tuple #[.slice m.wt.1 x.want.length m.wt.2, vnil, vb (decide (0 < (x.want.length : Int)))] → l = chW b x m →
      ∃ l'', (∃ y : PX, r = .tuple #[.slice y.1.1 bs.length y.1.2, .slice y.2.1 why.length y.2.2, vb true] ∧ l'' = chW b x m ++ [bsF y.1 bs, vsF y.2 why]) ∧ Gh (l ++ []) l'' := by
    rintro r l hw rfl rfl h1 rfl
    rw [hwant hw] at h1
    refine ⟨_, ⟨(m.wt, (none, 0)), h1, rfl⟩, ?_⟩
    refine Gh.trans (Gh.trans (Gh.fzAlso (Ψ := fun g => RdBytes g (.slice m.wt.1 x.want.length m.wt.2) x.want) (Pk.next (Pk.next (Pk.next Pk.here))) fun g h => h) (Gh.noVotes (a := none) (c := 0))) Gk
  by_cases hv : 0 < x.view
  · cases hl : alook x.stats x.view with
    | none =>
      exfalso
      unfold RouS.chosen at hyes
      simp [hv, hl] at hyes
    | some l =>
      by_cases hc : alook l x.me = none ∨ (l.length : Int) < quorum x.keys.length
      · exfalso
        unfold RouS.chosen at hyes
        rw [if_pos ⟨hv, by
          rcases hc with h | h
          · right; left; rw [hl, Option.getD_some, h]; rfl
          · right; right; rw [hl, Option.getD_some]; exact h⟩] at hyes
        cases hyes
      · obtain ⟨M0, hme⟩ : ∃ M0, alook l x.me = some M0 := by
          cases h : alook l x.me with
          | none => exact absurd (.inl h) hc
          | some M0 => exact ⟨M0, rfl⟩
        have hq : ¬ (l.length : Int) < quorum x.keys.length := fun h => hc (.inr h)
        refine Trip.via (chosen_loop b x m ho hv l hl M0 hme hq _ rfl) (rest := []) Tk.rfl_ ?_
        unfold RouS.chosen at hyes
        simp only [hv, hl, hme, hq, Option.getD_some, Option.isSome_some, Bool.true_eq_false, or_self, and_false, if_false, if_true, true_and] at hyes
        rintro r h (⟨hk, y, h1, h2⟩ | ⟨hk, h1, h2⟩)
        · rw [if_pos hk] at hyes
          cases hyes
          exact ⟨_, ⟨y, h1, h2⟩, by rw [List.append_nil]; exact Gh.rfl_⟩
        · rw [if_neg hk] at hyes
          by_cases hw : x.want = []
          · rw [if_pos hw] at hyes; cases hyes
          · rw [if_neg hw] at hyes
            cases hyes
            exact hlast r h hw rfl rfl h1 h2
  · refine Trip.via (chosen_0 b x m ho hv) (rest := []) Tk.rfl_ ?_
    unfold RouS.chosen at hyes
    simp only [hv, false_and, if_false] at hyes
    rintro r l ⟨h1, h2⟩
    by_cases hw : x.want = []
    · rw [if_pos hw] at hyes; cases hyes
    · rw [if_neg hw] at hyes
      cases hyes
      exact hlast r l hw rfl rfl h1 h2
end Go.Proofs.YtomijhgicennbaaGreat
namespace Go.Proofs.YtomijhgicennbaaGreat
open Go
set_option maxHeartbeats 4000000
set_option linter.unusedSimpArgs false
set_option linter.unusedVariables false
set_option maxRecDepth 20000
abbrev propM (view : Int) (bs : List UInt8) (why : List Vote) : Msg := ⟨2, 0, 0, 0, view, bs, why, hash0⟩
abbrev poW (b : Nat) (x : RouS) (m : RouM) : List HP := knL b x m ++ [ringF m.rb x.keys, tmA m.tp x.props, tsA m.ts x.stats, bsF m.wt x.want]
theorem proposes_no (b : Nat) (x : RouS) (m : RouM) (ho : ChOk x) (hno : x.proposes = none) :
    Trip Tryz.prog 80 [vp b 0] (poW b x m) (fun r l => r = .tuple #[vnil, vb false] ∧ l = poW b x m) := by
  have hk := ho.keys
  have s1 := leads_ok b m.rb x.keys (rouX x m) x.slot x.me x.view hk rfl rfl
  have hle : x.leads x.me x.view = decide (x.me = leader x.slot x.view x.keys.length) := rfl
  unfold RouS.proposes at hno
  rw [hle] at hno
  simp only [poW, knL, List.cons_append, List.nil_append]
  by_cases c1 : x.me = leader x.slot x.view x.keys.length
  · by_cases c2 : x.view ≤ x.proposed
    · refine Trip.of_body Tryz.func80 rfl Tryz.ntmps80 Tryz.results80 rfl ?_
      refine Wsr (Ls (Rdo.assign rfl) (Ls (Rdo.assign rfl) (Lnt (Wp.seq (Wp.seq ?_)))))
      refine Wp.draw (by kernel_rfl) ?_
      refine Qt (i := 0) rfl (Rdo.move rfl) (Qt (i := 1) rfl (Rdo.move rfl) (Qt (i := 2) rfl (Rdo.nilCheck rfl) (Qt (i := 3) rfl (Rdo.fieldAddr0 rfl) (Qt (i := 5) rfl (Rdo.move rfl) (Qt (i := 6) rfl (Rdo.nilCheck rfl) (Qt (i := 7) rfl (Rdo.fieldAddr0 rfl) ?_))))))
      refine WpR.load (i := 4) [8] rfl (by kernel_rfl) (by kernel_rfl) (by kernel_rfl) (by kernel_rfl) (by kernel_rfl) rfl Tk.rfl_ (Harm.rd rfl (Rdo.load rfl (Lds.one rfl)) Harm.nil) (Rdo.load rfl (Lds.one rfl)) rfl ?_
      refine Qo (i := 8) rfl (Stp.rd (Rdo.load rfl (Lds.one rfl)) rfl ?_)
      refine Qo (i := 9) rfl (Sc (s1) rfl ?_)
      rintro _ _ ⟨rfl, rfl⟩
      refine Ql ?_
      refine Qt (i := 10) rfl (Rdo.not rfl) (Qt (i := 11) rfl (Rdo.move rfl) ?_)
      refine WpR.tF 19 rfl (by first | rfl | assumption | (simp only [decide_eq_true_eq, decide_eq_false_iff_not, Bool.not_eq_true', Bool.not_eq_false', List.length_cons, List.length_nil]; first | assumption | omega) | (simp <;> done) | (simp <;> omega)) ?_
      refine Qw (i := 12) rfl rfl rfl (Rdo.move rfl) (Qw (i := 13) rfl rfl rfl (Rdo.nilCheck rfl) (Qw (i := 14) rfl rfl rfl (Rdo.fieldAddr0 rfl) (Qw (i := 16) rfl rfl rfl (Rdo.move rfl) (Qw (i := 17) rfl rfl rfl (Rdo.nilCheck rfl) (Qw (i := 18) rfl rfl rfl (Rdo.fieldAddr0 rfl) ?_)))))
      refine WpR.phaseL (m := 0) #[true, true, true, true, true, true, true, true, true, true, true, true, true, true, true, true, true, true, true, true, true, true] 4 _ rfl (by kernel_rfl) (Tk.cons Pk.here Tk.nil) ?_
      refine Aw (i := 15) rfl rfl rfl (Rdo.load rfl (Lds.one rfl)) (Aw (i := 19) rfl rfl rfl (Rdo.load rfl (Lds.one rfl)) (Aw (i := 20) rfl rfl rfl (Rdo.gei rfl rfl) (At (i := 21) rfl (Rdo.pick_f rfl rfl) ?_)))
      refine WpA.stop (by kernel_rfl) ?_
      refine Ql ?_
      refine WpR.done (by kernel_rfl) ?_
      refine Thn.n (cK rfl (Wsr (Ls (Rdo.assign rfl) (Ls (Rdo.assign rfl) (Lnt (Wp.ret ?_))))))
      refine Thn.r ?_
      refine Rt (ResV.tmp rfl (ResV.tmp rfl ResV.nil)) ⟨rfl, rfl⟩
    · have hch : x.chosen = none := by
        cases h : x.chosen with
        | none => rfl
        | some y => rw [if_neg (by simp [c1, c2]), h] at hno; cases hno
      have s2 := chosenN b x m ho hch
      refine Trip.of_body Tryz.func80 rfl Tryz.ntmps80 Tryz.results80 rfl ?_
      refine Wsr (Ls (Rdo.assign rfl) (Ls (Rdo.assign rfl) (Lnt (Wp.seq (Wp.seq ?_)))))
      refine Wp.draw (by kernel_rfl) ?_
      refine Qt (i := 0) rfl (Rdo.move rfl) (Qt (i := 1) rfl (Rdo.move rfl) (Qt (i := 2) rfl (Rdo.nilCheck rfl) (Qt (i := 3) rfl (Rdo.fieldAddr0 rfl) (Qt (i := 5) rfl (Rdo.move rfl) (Qt (i := 6) rfl (Rdo.nilCheck rfl) (Qt (i := 7) rfl (Rdo.fieldAddr0 rfl) ?_))))))
      refine WpR.load (i := 4) [8] rfl (by kernel_rfl) (by kernel_rfl) (by kernel_rfl) (by kernel_rfl) (by kernel_rfl) rfl Tk.rfl_ (Harm.rd rfl (Rdo.load rfl (Lds.one rfl)) Harm.nil) (Rdo.load rfl (Lds.one rfl)) rfl ?_
      refine Qo (i := 8) rfl (Stp.rd (Rdo.load rfl (Lds.one rfl)) rfl ?_)
      refine Qo (i := 9) rfl (Sc (s1) rfl ?_)
      rintro _ _ ⟨rfl, rfl⟩
      refine Ql ?_
      refine Qt (i := 10) rfl (Rdo.not rfl) (Qt (i := 11) rfl (Rdo.move rfl) ?_)
      refine WpR.tF 19 rfl (by first | rfl | assumption | (simp only [decide_eq_true_eq, decide_eq_false_iff_not, Bool.not_eq_true', Bool.not_eq_false', List.length_cons, List.length_nil]; first | assumption | omega) | (simp <;> done) | (simp <;> omega)) ?_
      refine Qw (i := 12) rfl rfl rfl (Rdo.move rfl) (Qw (i := 13) rfl rfl rfl (Rdo.nilCheck rfl) (Qw (i := 14) rfl rfl rfl (Rdo.fieldAddr0 rfl) (Qw (i := 16) rfl rfl rfl (Rdo.move rfl) (Qw (i := 17) rfl rfl rfl (Rdo.nilCheck rfl) (Qw (i := 18) rfl rfl rfl (Rdo.fieldAddr0 rfl) ?_)))))
      refine WpR.phaseL (m := 0) #[true, true, true, true, true, true, true, true, true, true, true, true, true, true, true, true, true, true, true, true, true, true] 4 _ rfl (by kernel_rfl) (Tk.cons Pk.here Tk.nil) ?_
      refine Aw (i := 15) rfl rfl rfl (Rdo.load rfl (Lds.one rfl)) (Aw (i := 19) rfl rfl rfl (Rdo.load rfl (Lds.one rfl)) (Aw (i := 20) rfl rfl rfl (Rdo.gei rfl rfl) (At (i := 21) rfl (Rdo.pick_f rfl rfl) ?_)))
      refine WpA.stop (by kernel_rfl) ?_
      refine Ql ?_
      refine WpR.done (by kernel_rfl) ?_
      refine Thn.n (cL rfl (Wp.skip (Thn.n (Wsr (Ls (Rdo.move rfl) ?_)))))
      refine WpL.step (Sc (s2) rfl ?_)
      rintro _ _ ⟨v46_0, ⟨v46_1, ⟨rfl, rfl⟩⟩⟩
      refine Ll ?_
      refine Ls (Rdo.move rfl) (Ls (Rdo.extract rfl rfl) (Ls (Rdo.extract rfl rfl) (Ls (Rdo.extract rfl rfl) (Ls (Rdo.assign rfl) (Ls (Rdo.assign rfl) (Ls (Rdo.assign rfl) (Lnt (Wp.seq (Wsr (Ls (Rdo.move rfl) (Ls (Rdo.not rfl) (Lnt ?_))))))))))))
      refine Wp.condT rfl ?_
      refine Wsr (Ls (Rdo.assign rfl) (Ls (Rdo.assign rfl) (Lnt (Wp.ret ?_))))
      refine Thn.r ?_
      refine Rt (ResV.tmp rfl (ResV.tmp rfl ResV.nil)) ⟨rfl, rfl⟩
  · refine Trip.of_body Tryz.func80 rfl Tryz.ntmps80 Tryz.results80 rfl ?_
    refine Wsr (Ls (Rdo.assign rfl) (Ls (Rdo.assign rfl) (Lnt (Wp.seq (Wp.seq ?_)))))
    refine Wp.draw (by kernel_rfl) ?_
    refine Qt (i := 0) rfl (Rdo.move rfl) (Qt (i := 1) rfl (Rdo.move rfl) (Qt (i := 2) rfl (Rdo.nilCheck rfl) (Qt (i := 3) rfl (Rdo.fieldAddr0 rfl) (Qt (i := 5) rfl (Rdo.move rfl) (Qt (i := 6) rfl (Rdo.nilCheck rfl) (Qt (i := 7) rfl (Rdo.fieldAddr0 rfl) ?_))))))
    refine WpR.load (i := 4) [8] rfl (by kernel_rfl) (by kernel_rfl) (by kernel_rfl) (by kernel_rfl) (by kernel_rfl) rfl Tk.rfl_ (Harm.rd rfl (Rdo.load rfl (Lds.one rfl)) Harm.nil) (Rdo.load rfl (Lds.one rfl)) rfl ?_
    refine Qo (i := 8) rfl (Stp.rd (Rdo.load rfl (Lds.one rfl)) rfl ?_)
    refine Qo (i := 9) rfl (Sc (s1) rfl ?_)
    rintro _ _ ⟨rfl, rfl⟩
    refine Ql ?_
    refine Qt (i := 10) rfl (Rdo.not rfl) (Qt (i := 11) rfl (Rdo.move rfl) ?_)
    refine WpR.tT 19 rfl (by first | rfl | assumption | (simp only [decide_eq_true_eq, decide_eq_false_iff_not, Bool.not_eq_true', Bool.not_eq_false', List.length_cons, List.length_nil]; first | assumption | omega) | (simp <;> done) | (simp <;> omega)) ?_
    refine Qp (i := 12) rfl rfl rfl (Qp (i := 13) rfl rfl rfl (Qp (i := 14) rfl rfl rfl (Qp (i := 15) rfl rfl rfl (Qp (i := 16) rfl rfl rfl (Qp (i := 17) rfl rfl rfl (Qp (i := 18) rfl rfl rfl (Qp (i := 19) rfl rfl rfl (Qp (i := 20) rfl rfl rfl (Qt (i := 21) rfl (Rdo.pick_t rfl rfl) ?_)))))))))
    refine WpR.done (by kernel_rfl) ?_
    refine Thn.n ?_
    refine Wp.condT rfl ?_
    refine Wsr (Ls (Rdo.assign rfl) (Ls (Rdo.assign rfl) (Lnt (Wp.ret ?_))))
    refine Thn.r ?_
    refine Rt (ResV.tmp rfl (ResV.tmp rfl ResV.nil)) ⟨rfl, rfl⟩
theorem proposal_same (x : RouS) (M : Msg) : (x.proposal M).keys = x.keys ∧ (x.proposal M).me = x.me ∧ (x.proposal M).slot = x.slot ∧ (x.proposal M).view = x.view ∧ (x.proposal M).lock = x.lock ∧ (x.proposal M).want = x.want ∧
    (x.proposal M).prep = x.prep ∧ (x.proposal M).comm = x.comm ∧ (x.proposal M).stats = x.stats ∧ (x.proposal M).value = x.value ∧ (x.proposal M).why = x.why ∧ (x.proposal M).decided = x.decided ∧ (x.proposal M).prepared = x.prepared ∧ (x.proposal M).committed = x.committed ∧ (x.proposal M).proposed = x.proposed := by
  unfold RouS.proposal RouS.knows
  split
  · exact ⟨rfl, rfl, rfl, rfl, rfl, rfl, rfl, rfl, rfl, rfl, rfl, rfl, rfl, rfl, rfl⟩
  · split <;> exact ⟨rfl, rfl, rfl, rfl, rfl, rfl, rfl, rfl, rfl, rfl, rfl, rfl, rfl, rfl, rfl⟩
theorem proposes_yes (b : Nat) (x : RouS) (m : RouM) (ho : ChOk x) (hn : x.values.length ≤ 1000) (bs : List UInt8) (why : List Vote) (hbs : bs.length ≤ 100000) (hwhy : why.length ≤ 1000) (hl : x.me = leader x.slot x.view x.keys.length) (hp : ¬ x.view ≤ x.proposed) (hch : x.chosen = some (bs, why))
    (z : RouS) (hz : z = RouS.proposal { x with proposed := x.view } (sealedM x.keys x.me x.slot (propM x.view bs why) x.me)) :
    Trip Tryz.prog 80 [vp b 0] (poW b x m) (fun r l => ∃ (vl : Option Addr × Nat) (es : List Value) (q : Option Addr × Nat), r = .tuple #[.slice q.1 (z.all (propM x.view bs why)).length q.2, vb true] ∧
      l = knL b z { m with vl := vl, es := es } ++ [ringF m.rb x.keys, tmA m.tp z.props, tsA m.ts x.stats, bsF m.wt x.want, mrF q (z.all (propM x.view bs why))]) := by
  have hk := ho.keys
  have s1 := leads_ok b m.rb x.keys (rouX x m) x.slot x.me x.view hk rfl rfl
  have s2 := chosenS b x m ho bs why hch
  have ez : ∀ y : PX, msgCs (propM x.view bs why) y = [vi 2, vi 0, vi 0, vi 0, vi x.view, .slice y.1.1 bs.length y.1.2, .slice y.2.1 why.length y.2.2] ++ List.replicate 32 (Value.int .u8 0) := fun y => rfl
  have s3 := fun y : PX => sealed_ok b m.rb x.keys (rouX { x with proposed := x.view } m) x.me x.slot x.me (propM x.view bs why) y hk rfl rfl rfl hbs hwhy
  have hsv : (sealedM x.keys x.me x.slot (propM x.view bs why) x.me).value = bs := rfl
  have s4 := fun y : PX => proposal_ok b { x with proposed := x.view } m y (sealedM x.keys x.me x.slot (propM x.view bs why) x.me) hk hn (by rw [hsv]; omega)
  rw [← hz] at s4
  have hzz := proposal_same { x with proposed := x.view } (sealedM x.keys x.me x.slot (propM x.view bs why) x.me)
  rw [← hz] at hzz
  obtain ⟨z1, z2, z3, -⟩ := hzz
  have s5 := fun (vl : Option Addr × Nat) (es : List Value) (y : PX) => allR_ok b m.rb z.keys (rouX z { m with vl := vl, es := es }) z.me z.slot (propM x.view bs why) y (by rw [z1]; exact hk) rfl rfl rfl hbs hwhy
  have e6 : z.all (propM x.view bs why) = allP z.keys z.me z.slot (propM x.view bs why) z.keys.length := rfl
  rw [← e6, z1] at s5
  simp only [ez, knL, poW, List.cons_append, List.nil_append] at *
  generalize sealedM x.keys x.me x.slot (propM x.view bs why) x.me = M at *
  generalize z.all (propM x.view bs why) = ms at *
  refine Trip.of_body Tryz.func80 rfl Tryz.ntmps80 Tryz.results80 rfl ?_
  refine Wsr (Ls (Rdo.assign rfl) (Ls (Rdo.assign rfl) (Lnt (Wp.seq (Wp.seq ?_)))))
  refine Wp.draw (by kernel_rfl) ?_
  refine Qt (i := 0) rfl (Rdo.move rfl) (Qt (i := 1) rfl (Rdo.move rfl) (Qt (i := 2) rfl (Rdo.nilCheck rfl) (Qt (i := 3) rfl (Rdo.fieldAddr0 rfl) (Qt (i := 5) rfl (Rdo.move rfl) (Qt (i := 6) rfl (Rdo.nilCheck rfl) (Qt (i := 7) rfl (Rdo.fieldAddr0 rfl) ?_))))))
  refine WpR.load (i := 4) [8] rfl (by kernel_rfl) (by kernel_rfl) (by kernel_rfl) (by kernel_rfl) (by kernel_rfl) rfl Tk.rfl_ (Harm.rd rfl (Rdo.load rfl (Lds.one rfl)) Harm.nil) (Rdo.load rfl (Lds.one rfl)) rfl ?_
  refine Qo (i := 8) rfl (Stp.rd (Rdo.load rfl (Lds.one rfl)) rfl ?_)
  refine Qo (i := 9) rfl (Sc (s1) rfl ?_)
  rintro _ _ ⟨rfl, rfl⟩
  refine Ql ?_
  refine Qt (i := 10) rfl (Rdo.not rfl) (Qt (i := 11) rfl (Rdo.move rfl) ?_)
  refine WpR.tF 19 rfl (by first | rfl | assumption | (simp only [decide_eq_true_eq, decide_eq_false_iff_not, Bool.not_eq_true', Bool.not_eq_false', List.length_cons, List.length_nil]; first | assumption | omega) | (simp <;> done) | (simp <;> omega)) ?_
  refine Qw (i := 12) rfl rfl rfl (Rdo.move rfl) (Qw (i := 13) rfl rfl rfl (Rdo.nilCheck rfl) (Qw (i := 14) rfl rfl rfl (Rdo.fieldAddr0 rfl) (Qw (i := 16) rfl rfl rfl (Rdo.move rfl) (Qw (i := 17) rfl rfl rfl (Rdo.nilCheck rfl) (Qw (i := 18) rfl rfl rfl (Rdo.fieldAddr0 rfl) ?_)))))
  refine WpR.phaseL (m := 0) #[true, true, true, true, true, true, true, true, true, true, true, true, true, true, true, true, true, true, true, true, true, true] 4 _ rfl (by kernel_rfl) (Tk.cons Pk.here Tk.nil) ?_
  refine Aw (i := 15) rfl rfl rfl (Rdo.load rfl (Lds.one rfl)) (Aw (i := 19) rfl rfl rfl (Rdo.load rfl (Lds.one rfl)) (Aw (i := 20) rfl rfl rfl (Rdo.gei rfl rfl) (At (i := 21) rfl (Rdo.pick_f rfl rfl) ?_)))
  refine WpA.stop (by kernel_rfl) ?_
  refine Ql ?_
  refine WpR.done (by kernel_rfl) ?_
  refine Thn.n (cL rfl (Wp.skip (Thn.n (Wsr (Ls (Rdo.move rfl) ?_)))))
  refine WpL.step (Sc (s2) rfl ?_)
  rintro _ _ ⟨v46_0, ⟨rfl, rfl⟩⟩
  refine Ll ?_
  refine Ls (Rdo.move rfl) (Ls (Rdo.extract rfl rfl) (Ls (Rdo.extract rfl rfl) (Ls (Rdo.extract rfl rfl) (Ls (Rdo.assign rfl) (Ls (Rdo.assign rfl) (Ls (Rdo.assign rfl) (Lnt (Wp.seq (Wsr (Ls (Rdo.move rfl) (Ls (Rdo.not rfl) (Lnt ?_))))))))))))
  refine Wp.condF rfl ?_
  refine Wp.skip (Thn.n (Wsr (Ls (Rdo.move rfl) (Ls (Rdo.move rfl) (Ls (Rdo.nilCheck rfl) (Ls (Rdo.fieldAddr0 rfl) (Ls (Rdo.load rfl (Lds.one rfl)) (Ls (Rdo.nilCheck rfl) (Ls (Rdo.fieldAddr0 rfl) ?_)))))))))
  refine WpL.step (Stp.storeV rfl rfl (VC.i _ _) rfl (Sp (oneCells1 rfl)) ?_)
  refine Lnt (Wsr (Ls (Rdo.move rfl) (Ls (Rdo.nilCheck rfl) (Ls (Rdo.fieldAddr0 rfl) (Ls (Rdo.load rfl (Lds.one rfl)) (Ls (Rdo.move rfl) (Ls (Rdo.move rfl) ?_)))))))
  refine Ls (Rdo.bld rfl (BldL.cons rfl (VC.i _ _) (by first | rfl | assumption | (simp <;> done)) (by repeat (first | exact LPut.nil _ | (refine LPut.seg ?_; first | assumption | (simp <;> done)) | (refine LPut.segEnd ?_; first | assumption | (simp <;> done)) | (with_reducible apply LPut.here) | apply LPut.hereL | apply LPut.here | (apply LPut.over32; focus (first | assumption | (simp <;> done))) | (with_reducible apply LPut.next) | apply LPut.nextL | apply LPut.next)) (BldL.cons rfl (VC.i _ _) (by first | rfl | assumption | (simp <;> done)) (by repeat (first | exact LPut.nil _ | (refine LPut.seg ?_; first | assumption | (simp <;> done)) | (refine LPut.segEnd ?_; first | assumption | (simp <;> done)) | (with_reducible apply LPut.here) | apply LPut.hereL | apply LPut.here | (apply LPut.over32; focus (first | assumption | (simp <;> done))) | (with_reducible apply LPut.next) | apply LPut.nextL | apply LPut.next)) (BldL.cons rfl (VC.sl _ _ _) (by first | rfl | assumption | (simp <;> done)) (by repeat (first | exact LPut.nil _ | (refine LPut.seg ?_; first | assumption | (simp <;> done)) | (refine LPut.segEnd ?_; first | assumption | (simp <;> done)) | (with_reducible apply LPut.here) | apply LPut.hereL | apply LPut.here | (apply LPut.over32; focus (first | assumption | (simp <;> done))) | (with_reducible apply LPut.next) | apply LPut.nextL | apply LPut.next)) (BldL.cons rfl (VC.sl _ _ _) (by first | rfl | assumption | (simp <;> done)) (by repeat (first | exact LPut.nil _ | (refine LPut.seg ?_; first | assumption | (simp <;> done)) | (refine LPut.segEnd ?_; first | assumption | (simp <;> done)) | (with_reducible apply LPut.here) | apply LPut.hereL | apply LPut.here | (apply LPut.over32; focus (first | assumption | (simp <;> done))) | (with_reducible apply LPut.next) | apply LPut.nextL | apply LPut.next)) (BldL.nil _)))))) ?_
  (refine WpL.step (Stp.alloc rfl ?_); intro nb88)
  refine WpL.step (St rfl rfl (VC.ag _) ?_)
  refine Lnt (Wp.seq ?_)
  refine Wp.draw (by kernel_rfl) ?_
  refine Qt (i := 0) rfl (Rdo.move rfl) (Qt (i := 1) rfl (Rdo.move rfl) (Qt (i := 3) rfl (Rdo.move rfl) (Qt (i := 4) rfl (Rdo.nilCheck rfl) (Qt (i := 5) rfl (Rdo.fieldAddr0 rfl) ?_))))
  refine WpR.load (i := 2) [6] rfl (by kernel_rfl) (by kernel_rfl) (by kernel_rfl) (by kernel_rfl) (by kernel_rfl) rfl Tk.rfl_ (Harm.rd rfl (Rdo.load rfl (Lds.next (Lds.one rfl))) Harm.nil) (Rdo.load rfl Ld) rfl ?_
  refine Qo (i := 6) rfl (Stp.rd (Rdo.load rfl (Lds.next (Lds.one rfl))) rfl ?_)
  refine Qo (i := 7) rfl (Sc (s3 _) rfl ?_)
  rintro _ _ ⟨v102_0, ⟨rfl, rfl⟩⟩
  refine Ql ?_
  refine Qo (i := 8) rfl (Sc (s4 _) rfl ?_)
  rintro _ _ ⟨rfl, ⟨v105_0, ⟨v105_1, rfl⟩⟩⟩
  refine Ql ?_
  refine WpR.done (by kernel_rfl) ?_
  refine Thn.n (Wsr (Ls (Rdo.move rfl) ?_))
  refine Ls (Rdo.load rfl (Lds.next (Lds.next (Lds.next (Lds.next (Lds.next (Lds.next (Lds.next Ld)))))))) ?_
  refine WpL.step (Sc (s5 _ _ _) rfl ?_)
  rintro _ _ ⟨v114_0, ⟨rfl, rfl⟩⟩
  refine Ll ?_
  refine Ls (Rdo.assign rfl) (Ls (Rdo.assign rfl) (Lnt (Wp.ret ?_)))
  refine Rt (ResV.tmp rfl (ResV.tmp rfl ResV.nil)) ⟨_, ⟨_, ⟨_, ⟨rfl, rfl⟩⟩⟩⟩
end Go.Proofs.YtomijhgicennbaaGreat
namespace Go.Proofs.YtomijhgicennbaaGreat
open Go
set_option maxHeartbeats 4000000
set_option linter.unusedSimpArgs false
set_option linter.unusedVariables false
set_option maxRecDepth 20000
theorem few_len {l : List Int} {n : Nat} (hn : l.Nodup) (hb : ∀ x ∈ l, 0 ≤ x ∧ x ≤ n) : l.length ≤ n + 1 := by
  have hm : ((List.range (n + 1)).map fun i : Nat => (i : Int)).Nodup := List.Pairwise.map _ (fun a b h e => h (by omega)) (List.nodup_range)
  obtain ⟨rest, h⟩ := complete_ hn hm (fun y hy => by
    obtain ⟨h1, h2⟩ := hb y hy
    exact List.mem_map.2 ⟨y.toNat, List.mem_range.2 (by omega), by omega⟩)
  have := h.length_eq
  simp at this
  omega
def okB (L : List Vote) : Prop := (∀ v ∈ L, okFrom v) ∧ L.Pairwise fun a b => ¬ (a.sum = b.sum ∧ a.from_ = b.from_)
theorem okB_L {L : List Vote} (h : okB L) : okL L := by
  intro sum
  have h1 : ∀ v ∈ sumV sum L, okFrom v := fun v hv => h.1 v (List.mem_filter.1 hv).1
  have h2 : ((sumV sum L).map (·.from_)).Nodup := by
    have h3 : (sumV sum L).Pairwise fun a b => ¬ (a.sum = b.sum ∧ a.from_ = b.from_) := h.2.sublist List.filter_sublist
    refine List.Pairwise.map _ (R := fun a b : Vote => a.from_ ≠ b.from_) (fun a b h => h) ?_
    refine List.Pairwise.imp_of_mem (fun {a b} ha hb hab e => hab ⟨?_, e⟩) h3
    have e1 := (List.mem_filter.1 ha).2
    have e2 := (List.mem_filter.1 hb).2
    simp only [decide_eq_true_eq] at e1 e2
    rw [e1, e2]
  refine ⟨?_, h1, h2⟩
  have := few_len (n := 9) h2 (fun x hx => by
    obtain ⟨v, hv, rfl⟩ := List.mem_map.1 hx
    exact h1 v hv)
  simp at this
  omega
theorem okB_nil : okB [] := ⟨by simp, List.Pairwise.nil⟩
theorem okB_snoc {L : List Vote} {v : Vote} (h : okB L) (hv : okFrom v) (hno : hasV L v.sum v.from_ = false) : okB (L ++ [v]) := by
  refine ⟨fun u hu => ?_, ?_⟩
  · rcases List.mem_append.1 hu with hu | hu
    · exact h.1 u hu
    · rw [List.mem_singleton.1 hu]; exact hv
  · rw [List.pairwise_append]
    refine ⟨h.2, List.pairwise_singleton _ _, fun a ha b hb hab => ?_⟩
    rw [List.mem_singleton.1 hb] at hab
    unfold hasV at hno
    rw [List.any_eq_false] at hno
    have := hno a ha
    simp [hab.1, hab.2] at this
def okT {β : Type} (n : Nat) (l : List (Int × β)) : Prop := (akeys l).Nodup ∧ ∀ p ∈ l, 0 ≤ p.1 ∧ p.1 ≤ n
theorem okT_len {β : Type} {n : Nat} {l : List (Int × β)} (h : okT n l) : l.length ≤ n + 1 := by
  have := few_len h.1 (fun x hx => by
    obtain ⟨p, hp, rfl⟩ := List.mem_map.1 hx
    exact h.2 p hp)
  simpa [akeys] using this
theorem okT_nil {β : Type} (n : Nat) : okT n ([] : List (Int × β)) := ⟨by simp [akeys], by simp⟩
theorem aset_mem {β : Type} {l : List (Int × β)} {k : Int} {v : β} {p : Int × β} (h : p ∈ aset l k v) : p = (k, v) ∨ p ∈ l := by
  induction l with
  | nil => simp only [aset, List.mem_singleton] at h; exact .inl h
  | cons x l ih =>
    simp only [aset] at h
    split at h
    · rename_i hk
      rcases List.mem_cons.1 h with h | h
      · left; rw [h, ← hk]
      · exact .inr (List.mem_cons_of_mem _ h)
    · rcases List.mem_cons.1 h with h | h
      · exact .inr (by rw [h]; simp)
      · rcases ih h with h | h
        · exact .inl h
        · exact .inr (List.mem_cons_of_mem _ h)
theorem okT_set {β : Type} {n : Nat} {l : List (Int × β)} {k : Int} {v : β} (h : okT n l) (hk : 0 ≤ k ∧ k ≤ n) : okT n (aset l k v) := by
  refine ⟨aset_nodup h.1, fun p hp => ?_⟩
  rcases aset_mem hp with rfl | hp
  · exact hk
  · exact h.2 p hp
def okBal (l : List (Int × List Vote)) (N : Nat) : Prop := okT 8 l ∧ ∀ p ∈ l, p.2.length ≤ N ∧ okB p.2
theorem okBal_nil (N : Nat) : okBal [] N := ⟨okT_nil 8, by simp⟩
theorem balOf_ok {l : List (Int × List Vote)} {N : Nat} (h : okBal l N) (w : Int) : (balOf l w).length ≤ N ∧ okB (balOf l w) := by
  cases hl : alook l w with
  | none => rw [balOf_none hl]; exact ⟨by simp, okB_nil⟩
  | some L => rw [balOf_some hl]; exact h.2 (w, L) (alook_mem hl)
theorem addV_ok {l : List (Int × List Vote)} {N : Nat} {v : Vote} (h : okBal l N) (hf : okFrom v) (hw : 0 ≤ v.view ∧ v.view ≤ 8) : okBal (addV l v) (N + 1) := by
  have hb := balOf_ok h v.view
  unfold addV
  split
  · refine ⟨okT_set h.1 hw, fun p hp => ?_⟩
    rcases aset_mem hp with rfl | hp
    · exact ⟨by simp only; omega, hb.2⟩
    · have := h.2 p hp
      exact ⟨by omega, this.2⟩
  · rename_i hno
    refine ⟨okT_set h.1 hw, fun p hp => ?_⟩
    rcases aset_mem hp with rfl | hp
    · exact ⟨by simp only [List.length_append, List.length_cons, List.length_nil]; omega, okB_snoc hb.2 hf (by simpa using hno)⟩
    · have := h.2 p hp
      exact ⟨by omega, this.2⟩
theorem okBal_le {l : List (Int × List Vote)} {N M : Nat} (h : okBal l N) (hle : N ≤ M) : okBal l M := ⟨h.1, fun p hp => ⟨Nat.le_trans (h.2 p hp).1 hle, (h.2 p hp).2⟩⟩
def okM (m : Msg) : Prop := m.value.length ≤ 100000 ∧ m.votes.length ≤ 1000
structure RouOK (x : RouS) (N : Nat) : Prop where
  keys : x.keys.length ≤ 10
  me : 0 ≤ x.me ∧ x.me ≤ 9
  view : 0 ≤ x.view ∧ x.view ≤ 8
  vals : x.values.length ≤ x.props.length
  val : ∀ v ∈ x.values, v.length ≤ 100000
  props : okT 8 x.props
  prop : ∀ p ∈ x.props, okM p.2
  prep : okBal x.prep N
  comm : okBal x.comm N
  stats : ∀ p ∈ x.stats, okT 9 p.2 ∧ ∀ q ∈ p.2, okM q.2
  lock : lockOk x.lock
  want : x.want.length ≤ 100000
  value : x.value.length ≤ 100000
  why : x.why.length ≤ 1000
variable {x : RouS} {N : Nat}
theorem RouOK.vlen (h : RouOK x N) : x.values.length ≤ 9 := by have := okT_len h.props; have := h.vals; omega
theorem RouOK.co (h : RouOK x N) (hN : N ≤ 100000) : CoOk x :=
  ⟨h.keys, by have := h.vlen; omega, h.val, fun w => by have := (balOf_ok h.prep w).1; omega, fun w => by have := (balOf_ok h.comm w).1; omega, fun w => okB_L (balOf_ok h.prep w).2⟩
theorem RouOK.se (h : RouOK x N) (hN : N ≤ 100000) : SeOk x :=
  ⟨h.keys, by have := h.vlen; omega, h.val, by have := okT_len h.comm.1; omega, fun p hp => ⟨okB_L (h.comm.2 p hp).2, by have := (h.comm.2 p hp).1; omega⟩⟩
theorem RouOK.ch (h : RouOK x N) : ChOk x :=
  ⟨h.keys, h.want, fun l hl => by have := okT_len (h.stats _ (alook_mem hl)).1; simp only at this; omega, fun l hl p hp => (h.stats _ (alook_mem hl)).2 p hp⟩
theorem RouOK.le {M : Nat} (h : RouOK x N) (hle : N ≤ M) : RouOK x M := ⟨h.keys, h.me, h.view, h.vals, h.val, h.props, h.prop, okBal_le h.prep hle, okBal_le h.comm hle, h.stats, h.lock, h.want, h.value, h.why⟩
end Go.Proofs.YtomijhgicennbaaGreat
namespace Go.Proofs.YtomijhgicennbaaGreat
open Go
set_option maxHeartbeats 4000000
set_option linter.unusedSimpArgs false
set_option linter.unusedVariables false
set_option maxRecDepth 20000
theorem may_ms (rb : Nat) (keys : List Hash) (hk : keys.length ≤ 10) (k : LockS) (x y : PX) (M : Msg) (hn : M.votes.length ≤ 1000000) (slot view : Int) (hv : M.value.length ≤ 1000000) :
    Trip Tryz.prog 117 [vp rb 0, .agg (lockC k x).toArray, vi slot, vi view, .slice y.1.1 M.value.length y.1.2, .slice y.2.1 M.votes.length y.2.2] [ringF rb keys, bsF x.1 k.value, msF y M]
      (fun r l => r = vb (mayL keys k slot view M.value M.votes) ∧ l = [ringF rb keys, bsF x.1 k.value, msF y M]) := by
  refine Trip.gh (ms_partsK (x := y) (m := M) (Pk.next (Pk.next Pk.here))) (Trip.via (may_ok rb keys hk k x y.2 y.1 M.votes hn slot view M.value hv) (rest := [msF y M]) (by repeat (first | exact Tk.nil | apply Tk.cons (by repeat (first | exact Pk.here | apply Pk.next)))) ?_)
  rintro r l ⟨rfl, rfl⟩
  exact ⟨_, ⟨rfl, rfl⟩, Gk⟩
theorem votes1_ms (b : Nat) (x : RouS) (m : RouM) (y : PX) (M : Msg) (hk : x.keys.length ≤ 10) (hv : M.value.length ≤ 1000000) (hb : ∀ w, (balOf x.prep w).length ≤ 100000) :
    Trip Tryz.prog 118 [vp b 0, vi 1, .slice y.1.1 M.value.length y.1.2] [cel b rT (rouX x m), ringF m.rb x.keys, tbA m.t1 x.prep, msF y M]
      (fun r l => ∃ q : Option Addr × Nat, r = .slice q.1 (x.votes 1 M.value).1.length q.2 ∧ l = [cel b rT (rouX x m), ringF m.rb x.keys, tbA m.t1 (x.votes 1 M.value).2.prep, mrF q (x.votes 1 M.value).1]) := by
  refine Trip.gh (ms_parts (x := y) (m := M) (Pk.next (Pk.next (Pk.next Pk.here)))) (Trip.via (votes1_ok b x m y.1 M.value hk hv hb) (rest := [vsF y.2 M.votes]) (by repeat (first | exact Tk.nil | apply Tk.cons (by repeat (first | exact Pk.here | apply Pk.next)))) ?_)
  rintro r l ⟨q, rfl, rfl⟩
  exact ⟨_, ⟨q, rfl, rfl⟩, Gk⟩
abbrev prL (b : Nat) (x : RouS) (m : RouM) : List HP := [cel b rT (rouX x m), ringF m.rb x.keys, tmA m.tp x.props, tbA m.t1 x.prep, bsF m.kx.1 x.lock.value]
theorem prepares_no (b : Nat) (x : RouS) (m : RouM) (hk : x.keys.length ≤ 10) (hM : ∀ M, alook x.props x.view = some M → M.value.length ≤ 100000 ∧ M.votes.length ≤ 1000) (hno : x.prepares = none) :
    Trip Tryz.prog 78 [vp b 0] (prL b x m) (fun r l => r = .tuple #[vnil, vb false] ∧ l = prL b x m) := by
  unfold RouS.prepares at hno
  cases hlk : alook x.props x.view with
  | none =>
    have s1 := tm_no m.tp x.props x.view hlk
    refine Trip.of_body Tryz.func78 rfl Tryz.ntmps78 Tryz.results78 rfl ?_
    refine Wsr (Ls (Rdo.assign rfl) (Ls (Rdo.assign rfl) (Lnt (Wp.seq ?_))))
    refine Wp.draw (by kernel_rfl) ?_
    refine Qt (i := 0) rfl (Rdo.move rfl) (Qt (i := 1) rfl (Rdo.nilCheck rfl) (Qt (i := 2) rfl (Rdo.fieldAddr0 rfl) (Qt (i := 4) rfl (Rdo.move rfl) (Qt (i := 5) rfl (Rdo.nilCheck rfl) (Qt (i := 6) rfl (Rdo.fieldAddr0 rfl) ?_)))))
    refine WpR.load (i := 3) [7, 12] rfl (by kernel_rfl) (by kernel_rfl) (by kernel_rfl) (by kernel_rfl) (by kernel_rfl) rfl Tk.rfl_ (Harm.rd rfl (Rdo.load rfl (Lds.one rfl)) (Harm.al rfl inferInstance Harm.nil)) (Rdo.load rfl (Lds.one rfl)) rfl ?_
    refine WpR.load (i := 7) [12] rfl (by kernel_rfl) (by kernel_rfl) (by kernel_rfl) (by kernel_rfl) (by kernel_rfl) rfl Tk.rfl_ (Harm.al rfl inferInstance Harm.nil) (Rdo.load rfl (Lds.one rfl)) rfl ?_
    refine Pend.start (i := 12) rfl ?_
    refine Pend.one (j := 8) rfl rfl (by kernel_rfl) (by kernel_rfl) (by kernel_rfl) rfl (by simp) rfl rfl (Sc (s1) rfl ?_)
    rintro _ _ ⟨rfl, rfl⟩
    refine Pend.lst (by simp only [List.cons_append, List.nil_append]; exact rfl) ?_
    refine Pend.take (j := 9) rfl (by kernel_rfl) (by kernel_rfl) (by kernel_rfl) rfl rfl (Rdo.move rfl) rfl ?_
    refine Pend.take (j := 10) rfl (by kernel_rfl) (by kernel_rfl) (by kernel_rfl) rfl rfl (Rdo.extract rfl rfl) rfl ?_
    refine Pend.take (j := 11) rfl (by kernel_rfl) (by kernel_rfl) (by kernel_rfl) rfl rfl (Rdo.extract rfl rfl) rfl ?_
    refine Pend.made rfl (by kernel_rfl) rfl (fun nb23 => ?_)
    refine Qo (i := 13) rfl (St rfl rfl (VC.ag _) ?_)
    refine Qt (i := 14) rfl (Rdo.assign rfl) ?_
    refine WpR.done (by kernel_rfl) ?_
    refine Thn.n (Wp.seq (Wp.seq ?_))
    refine Wp.draw (by kernel_rfl) ?_
    refine Qt (i := 0) rfl (Rdo.move rfl) (Qt (i := 1) rfl (Rdo.not rfl) (Qt (i := 2) rfl (Rdo.move rfl) (Qp (i := 3) rfl rfl rfl (Qp (i := 4) rfl rfl rfl (Qp (i := 5) rfl rfl rfl (Qp (i := 6) rfl rfl rfl (Qp (i := 7) rfl rfl rfl (Qp (i := 8) rfl rfl rfl (Qp (i := 9) rfl rfl rfl (Qp (i := 10) rfl rfl rfl (Qp (i := 11) rfl rfl rfl (Qt (i := 12) rfl (Rdo.pick_t rfl rfl) (Qt (i := 13) rfl (Rdo.move rfl) ?_)))))))))))))
    refine Qp (i := 14) rfl rfl rfl (Qp (i := 15) rfl rfl rfl (Qp (i := 16) rfl rfl rfl (Qp (i := 17) rfl rfl rfl (Qp (i := 18) rfl rfl rfl (Qp (i := 19) rfl rfl rfl (Qp (i := 20) rfl rfl rfl (Qp (i := 21) rfl rfl rfl (Qp (i := 22) rfl rfl rfl (Qp (i := 23) rfl rfl rfl (Qp (i := 24) rfl rfl rfl (Qp (i := 25) rfl rfl rfl (Qp (i := 26) rfl rfl rfl (Qp (i := 27) rfl rfl rfl ?_)))))))))))))
    refine Qp (i := 28) rfl rfl rfl (Qp (i := 29) rfl rfl rfl (Qp (i := 30) rfl rfl rfl (Qp (i := 31) rfl rfl rfl (Qp (i := 32) rfl rfl rfl (Qp (i := 33) rfl rfl rfl (Qp (i := 34) rfl rfl rfl (Qp (i := 35) rfl rfl rfl (Qt (i := 36) rfl (Rdo.pick_t rfl rfl) ?_))))))))
    refine WpR.done (by kernel_rfl) ?_
    refine Thn.n ?_
    refine Wp.condT rfl ?_
    refine Wsr (Ls (Rdo.assign rfl) (Ls (Rdo.assign rfl) (Lnt (Wp.ret ?_))))
    refine Thn.r ?_
    refine Rt (ResV.tmp rfl (ResV.tmp rfl ResV.nil)) ⟨rfl, rfl⟩
  | some M =>
    obtain ⟨hv, hn⟩ := hM M hlk
    have s1 := tm_yes m.tp x.props x.view M hlk
    rw [hlk] at hno
    simp only at hno
    by_cases b1 : x.view ≤ x.prepared
    · refine Trip.of_body Tryz.func78 rfl Tryz.ntmps78 Tryz.results78 rfl ?_
      refine Wsr (Ls (Rdo.assign rfl) (Ls (Rdo.assign rfl) (Lnt (Wp.seq ?_))))
      refine Wp.draw (by kernel_rfl) ?_
      refine Qt (i := 0) rfl (Rdo.move rfl) (Qt (i := 1) rfl (Rdo.nilCheck rfl) (Qt (i := 2) rfl (Rdo.fieldAddr0 rfl) (Qt (i := 4) rfl (Rdo.move rfl) (Qt (i := 5) rfl (Rdo.nilCheck rfl) (Qt (i := 6) rfl (Rdo.fieldAddr0 rfl) ?_)))))
      refine WpR.load (i := 3) [7, 12] rfl (by kernel_rfl) (by kernel_rfl) (by kernel_rfl) (by kernel_rfl) (by kernel_rfl) rfl Tk.rfl_ (Harm.rd rfl (Rdo.load rfl (Lds.one rfl)) (Harm.al rfl inferInstance Harm.nil)) (Rdo.load rfl (Lds.one rfl)) rfl ?_
      refine WpR.load (i := 7) [12] rfl (by kernel_rfl) (by kernel_rfl) (by kernel_rfl) (by kernel_rfl) (by kernel_rfl) rfl Tk.rfl_ (Harm.al rfl inferInstance Harm.nil) (Rdo.load rfl (Lds.one rfl)) rfl ?_
      refine Pend.start (i := 12) rfl ?_
      refine Pend.one (j := 8) rfl rfl (by kernel_rfl) (by kernel_rfl) (by kernel_rfl) rfl (by simp) rfl rfl (Sc (s1) rfl ?_)
      rintro _ _ ⟨v18_0, ⟨rfl, rfl⟩⟩
      refine Pend.lst (by simp only [List.cons_append, List.nil_append]; exact rfl) ?_
      refine Pend.take (j := 9) rfl (by kernel_rfl) (by kernel_rfl) (by kernel_rfl) rfl rfl (Rdo.move rfl) rfl ?_
      refine Pend.take (j := 10) rfl (by kernel_rfl) (by kernel_rfl) (by kernel_rfl) rfl rfl (Rdo.extract rfl rfl) rfl ?_
      refine Pend.take (j := 11) rfl (by kernel_rfl) (by kernel_rfl) (by kernel_rfl) rfl rfl (Rdo.extract rfl rfl) rfl ?_
      refine Pend.made rfl (by kernel_rfl) rfl (fun nb23 => ?_)
      refine Qo (i := 13) rfl (St rfl rfl (VC.ag _) ?_)
      refine Qt (i := 14) rfl (Rdo.assign rfl) ?_
      refine WpR.done (by kernel_rfl) ?_
      refine Thn.n (Wp.seq (Wp.seq ?_))
      refine Wp.draw (by kernel_rfl) ?_
      refine Qt (i := 0) rfl (Rdo.move rfl) (Qt (i := 1) rfl (Rdo.not rfl) (Qt (i := 2) rfl (Rdo.move rfl) (Qw (i := 3) rfl rfl rfl (Rdo.move rfl) (Qw (i := 4) rfl rfl rfl (Rdo.nilCheck rfl) (Qw (i := 5) rfl rfl rfl (Rdo.fieldAddr0 rfl) (Qw (i := 7) rfl rfl rfl (Rdo.move rfl) (Qw (i := 8) rfl rfl rfl (Rdo.nilCheck rfl) (Qw (i := 9) rfl rfl rfl (Rdo.fieldAddr0 rfl) ?_))))))))
      refine WpR.phaseL (m := 0) #[true, true, true, true, true, true, true, true, true, true, true, true, true, true, true, true, true, true, true, true, true, true, true, true, true, true, true, true, true, true, true, true, true, true, true, true, true] 28 _ rfl (by kernel_rfl) (Tk.cons (Pk.next (Pk.next (Pk.next Pk.here))) Tk.nil) ?_
      refine Aw (i := 6) rfl rfl rfl (Rdo.load rfl (Lds.one rfl)) (Aw (i := 10) rfl rfl rfl (Rdo.load rfl (Lds.one rfl)) (Aw (i := 11) rfl rfl rfl (Rdo.gei rfl rfl) (At (i := 12) rfl (Rdo.pick_f rfl rfl) (At (i := 13) rfl (Rdo.move rfl) ?_))))
      refine WpA.tT 31 rfl (by first | rfl | assumption | (simp only [decide_eq_true_eq, decide_eq_false_iff_not, Bool.not_eq_true', Bool.not_eq_false', List.length_cons, List.length_nil]; first | assumption | omega) | (simp <;> done) | (simp <;> omega)) ?_
      refine WpA.pass (i := 14) rfl rfl rfl rfl rfl (by kernel_rfl) (by kernel_rfl) (by kernel_rfl) rfl ?_
      refine WpA.pass (i := 15) rfl rfl rfl rfl rfl (by kernel_rfl) (by kernel_rfl) (by kernel_rfl) rfl ?_
      refine WpA.pass (i := 16) rfl rfl rfl rfl rfl (by kernel_rfl) (by kernel_rfl) (by kernel_rfl) rfl ?_
      refine WpA.pass (i := 17) rfl rfl rfl rfl rfl (by kernel_rfl) (by kernel_rfl) (by kernel_rfl) rfl ?_
      refine WpA.pass (i := 18) rfl rfl rfl rfl rfl (by kernel_rfl) (by kernel_rfl) (by kernel_rfl) rfl ?_
      refine WpA.pass (i := 19) rfl rfl rfl rfl rfl (by kernel_rfl) (by kernel_rfl) (by kernel_rfl) rfl ?_
      refine WpA.pass (i := 20) rfl rfl rfl rfl rfl (by kernel_rfl) (by kernel_rfl) (by kernel_rfl) rfl ?_
      refine WpA.pass (i := 21) rfl rfl rfl rfl rfl (by kernel_rfl) (by kernel_rfl) (by kernel_rfl) rfl ?_
      refine WpA.pass (i := 22) rfl rfl rfl rfl rfl (by kernel_rfl) (by kernel_rfl) (by kernel_rfl) rfl ?_
      refine WpA.pass (i := 23) rfl rfl rfl rfl rfl (by kernel_rfl) (by kernel_rfl) (by kernel_rfl) rfl ?_
      refine WpA.pass (i := 24) rfl rfl rfl rfl rfl (by kernel_rfl) (by kernel_rfl) (by kernel_rfl) rfl ?_
      refine WpA.pass (i := 25) rfl rfl rfl rfl rfl (by kernel_rfl) (by kernel_rfl) (by kernel_rfl) rfl ?_
      refine WpA.pass (i := 26) rfl rfl rfl rfl rfl (by kernel_rfl) (by kernel_rfl) (by kernel_rfl) rfl ?_
      refine WpA.pass (i := 27) rfl rfl rfl rfl rfl (by kernel_rfl) (by kernel_rfl) (by kernel_rfl) rfl ?_
      refine WpA.pass (i := 28) rfl rfl rfl rfl rfl (by kernel_rfl) (by kernel_rfl) (by kernel_rfl) rfl ?_
      refine WpA.pass (i := 29) rfl rfl rfl rfl rfl (by kernel_rfl) (by kernel_rfl) (by kernel_rfl) rfl ?_
      refine WpA.pass (i := 30) rfl rfl rfl rfl rfl (by kernel_rfl) (by kernel_rfl) (by kernel_rfl) rfl ?_
      refine WpA.pass (i := 31) rfl rfl rfl rfl rfl (by kernel_rfl) (by kernel_rfl) (by kernel_rfl) rfl ?_
      refine WpA.pass (i := 32) rfl rfl rfl rfl rfl (by kernel_rfl) (by kernel_rfl) (by kernel_rfl) rfl ?_
      refine WpA.pass (i := 33) rfl rfl rfl rfl rfl (by kernel_rfl) (by kernel_rfl) (by kernel_rfl) rfl ?_
      refine WpA.pass (i := 34) rfl rfl rfl rfl rfl (by kernel_rfl) (by kernel_rfl) (by kernel_rfl) rfl ?_
      refine WpA.pass (i := 35) rfl rfl rfl rfl rfl (by kernel_rfl) (by kernel_rfl) (by kernel_rfl) rfl ?_
      refine At (i := 36) rfl (Rdo.pick_t rfl rfl) ?_
      refine WpA.stop (by kernel_rfl) ?_
      refine Ql ?_
      refine WpR.done (by kernel_rfl) ?_
      refine Thn.n ?_
      refine Wp.condT rfl ?_
      refine Wsr (Ls (Rdo.assign rfl) (Ls (Rdo.assign rfl) (Lnt (Wp.ret ?_))))
      refine Thn.r ?_
      refine Rt (ResV.tmp rfl (ResV.tmp rfl ResV.nil)) ⟨rfl, rfl⟩
    · have hmay : mayL x.keys x.lock x.slot x.view M.value M.votes = false := by
        cases h : mayL x.keys x.lock x.slot x.view M.value M.votes
        · rfl
        · rw [if_neg (by simp [b1, h])] at hno; cases hno
      have s2 := fun y : PX => may_ms m.rb x.keys hk x.lock m.kx y M (by omega) x.slot x.view (by omega)
      rw [hmay] at s2
      refine Trip.of_body Tryz.func78 rfl Tryz.ntmps78 Tryz.results78 rfl ?_
      refine Wsr (Ls (Rdo.assign rfl) (Ls (Rdo.assign rfl) (Lnt (Wp.seq ?_))))
      refine Wp.draw (by kernel_rfl) ?_
      refine Qt (i := 0) rfl (Rdo.move rfl) (Qt (i := 1) rfl (Rdo.nilCheck rfl) (Qt (i := 2) rfl (Rdo.fieldAddr0 rfl) (Qt (i := 4) rfl (Rdo.move rfl) (Qt (i := 5) rfl (Rdo.nilCheck rfl) (Qt (i := 6) rfl (Rdo.fieldAddr0 rfl) ?_)))))
      refine WpR.load (i := 3) [7, 12] rfl (by kernel_rfl) (by kernel_rfl) (by kernel_rfl) (by kernel_rfl) (by kernel_rfl) rfl Tk.rfl_ (Harm.rd rfl (Rdo.load rfl (Lds.one rfl)) (Harm.al rfl inferInstance Harm.nil)) (Rdo.load rfl (Lds.one rfl)) rfl ?_
      refine WpR.load (i := 7) [12] rfl (by kernel_rfl) (by kernel_rfl) (by kernel_rfl) (by kernel_rfl) (by kernel_rfl) rfl Tk.rfl_ (Harm.al rfl inferInstance Harm.nil) (Rdo.load rfl (Lds.one rfl)) rfl ?_
      refine Pend.start (i := 12) rfl ?_
      refine Pend.one (j := 8) rfl rfl (by kernel_rfl) (by kernel_rfl) (by kernel_rfl) rfl (by simp) rfl rfl (Sc (s1) rfl ?_)
      rintro _ _ ⟨v18_0, ⟨rfl, rfl⟩⟩
      refine Pend.lst (by simp only [List.cons_append, List.nil_append]; exact rfl) ?_
      refine Pend.take (j := 9) rfl (by kernel_rfl) (by kernel_rfl) (by kernel_rfl) rfl rfl (Rdo.move rfl) rfl ?_
      refine Pend.take (j := 10) rfl (by kernel_rfl) (by kernel_rfl) (by kernel_rfl) rfl rfl (Rdo.extract rfl rfl) rfl ?_
      refine Pend.take (j := 11) rfl (by kernel_rfl) (by kernel_rfl) (by kernel_rfl) rfl rfl (Rdo.extract rfl rfl) rfl ?_
      refine Pend.made rfl (by kernel_rfl) rfl (fun nb23 => ?_)
      refine Qo (i := 13) rfl (St rfl rfl (VC.ag _) ?_)
      refine Qt (i := 14) rfl (Rdo.assign rfl) ?_
      refine WpR.done (by kernel_rfl) ?_
      refine Thn.n (Wp.seq (Wp.seq ?_))
      refine Wp.draw (by kernel_rfl) ?_
      refine Qt (i := 0) rfl (Rdo.move rfl) (Qt (i := 1) rfl (Rdo.not rfl) (Qt (i := 2) rfl (Rdo.move rfl) (Qw (i := 3) rfl rfl rfl (Rdo.move rfl) (Qw (i := 4) rfl rfl rfl (Rdo.nilCheck rfl) (Qw (i := 5) rfl rfl rfl (Rdo.fieldAddr0 rfl) (Qw (i := 7) rfl rfl rfl (Rdo.move rfl) (Qw (i := 8) rfl rfl rfl (Rdo.nilCheck rfl) (Qw (i := 9) rfl rfl rfl (Rdo.fieldAddr0 rfl) ?_))))))))
      refine WpR.phaseL (m := 0) #[true, true, true, true, true, true, true, true, true, true, true, true, true, true, true, true, true, true, true, true, true, true, true, true, true, true, true, true, true, true, true, true, true, true, true, true, true] 28 _ rfl (by kernel_rfl) (Tk.cons Pk.here (Tk.cons (Pk.next (Pk.next Pk.here)) Tk.nil)) ?_
      refine Aw (i := 6) rfl rfl rfl (Rdo.load rfl (Lds.next (Lds.one rfl))) (Aw (i := 10) rfl rfl rfl (Rdo.load rfl (Lds.next (Lds.one rfl))) (Aw (i := 11) rfl rfl rfl (Rdo.gei rfl rfl) (At (i := 12) rfl (Rdo.pick_f rfl rfl) (At (i := 13) rfl (Rdo.move rfl) ?_))))
      refine WpA.tF 31 rfl (by first | rfl | assumption | (simp only [decide_eq_true_eq, decide_eq_false_iff_not, Bool.not_eq_true', Bool.not_eq_false', List.length_cons, List.length_nil]; first | assumption | omega) | (simp <;> done) | (simp <;> omega)) ?_
      refine Aw (i := 14) rfl rfl rfl (Rdo.move rfl) (Aw (i := 15) rfl rfl rfl (Rdo.nilCheck rfl) (Aw (i := 16) rfl rfl rfl (Rdo.fieldAddr0 rfl) (Aw (i := 17) rfl rfl rfl (Rdo.load rfl (Lds.next (Lds.one rfl))) (Aw (i := 18) rfl rfl rfl (Rdo.move rfl) (Aw (i := 19) rfl rfl rfl (Rdo.nilCheck rfl) (Aw (i := 20) rfl rfl rfl (Rdo.fieldAddr0 rfl) ?_))))))
      refine Aw (i := 21) rfl rfl rfl (Rdo.load rfl (Lds.next (Lds.cut rfl (by first | rfl | assumption | (simp <;> done))))) ?_
      refine Aw (i := 22) rfl rfl rfl (Rdo.move rfl) (Aw (i := 23) rfl rfl rfl (Rdo.nilCheck rfl) (Aw (i := 24) rfl rfl rfl (Rdo.fieldAddr0 rfl) (Aw (i := 25) rfl rfl rfl (Rdo.load rfl (Lds.next (Lds.one rfl))) (Aw (i := 26) rfl rfl rfl (Rdo.move rfl) (Aw (i := 27) rfl rfl rfl (Rdo.nilCheck rfl) (Aw (i := 28) rfl rfl rfl (Rdo.fieldAddr0 rfl) (Aw (i := 29) rfl rfl rfl (Rdo.load rfl (Lds.next (Lds.one rfl))) (Aw (i := 30) rfl rfl rfl (Rdo.fieldAddr0 rfl) (Aw (i := 31) rfl rfl rfl (Rdo.load rfl (Lds.one rfl)) (Aw (i := 32) rfl rfl rfl (Rdo.fieldAddr0 rfl) (Aw (i := 33) rfl rfl rfl (Rdo.load rfl (Lds.one rfl)) ?_)))))))))))
      refine WpA.oneG (i := 34) rfl rfl rfl rfl (by kernel_rfl) (Sc (s2 _) rfl ?_)
      rintro _ _ ⟨rfl, rfl⟩
      refine WpA.lst (by simp only [List.cons_append, List.nil_append]; exact rfl) ?_
      refine Aw (i := 35) rfl rfl rfl (Rdo.not rfl) (At (i := 36) rfl (Rdo.pick_f rfl rfl) ?_)
      refine WpA.stop (by kernel_rfl) ?_
      refine Ql ?_
      refine WpR.done (by kernel_rfl) ?_
      refine Thn.n ?_
      refine Wp.condT rfl ?_
      refine Wsr (Ls (Rdo.assign rfl) (Ls (Rdo.assign rfl) (Lnt (Wp.ret ?_))))
      refine Thn.r ?_
      refine Rt (ResV.tmp rfl (ResV.tmp rfl ResV.nil)) ⟨rfl, rfl⟩
theorem prepares_yes (b : Nat) (x : RouS) (m : RouM) (hk : x.keys.length ≤ 10) (hM : ∀ M, alook x.props x.view = some M → M.value.length ≤ 100000 ∧ M.votes.length ≤ 1000) (hb : ∀ w, (balOf x.prep w).length ≤ 100000) (l : List Msg) (x' : RouS) (hyes : x.prepares = some (l, x')) :
    Trip Tryz.prog 78 [vp b 0] (prL b x m) (fun r h => ∃ q : Option Addr × Nat, r = .tuple #[.slice q.1 l.length q.2, vb true] ∧ h = prL b x' m ++ [mrF q l]) := by
  unfold RouS.prepares at hyes
  cases hlk : alook x.props x.view with
  | none => rw [hlk] at hyes; cases hyes
  | some M =>
    obtain ⟨hv, hn⟩ := hM M hlk
    have s1 := tm_yes m.tp x.props x.view M hlk
    rw [hlk] at hyes
    simp only at hyes
    by_cases hc : x.view ≤ x.prepared ∨ mayL x.keys x.lock x.slot x.view M.value M.votes = false
    · rw [if_pos hc] at hyes; cases hyes
    · rw [if_neg hc] at hyes
      have b1 : ¬ x.view ≤ x.prepared := fun h => hc (.inl h)
      have hmay : mayL x.keys x.lock x.slot x.view M.value M.votes = true := by
        cases h : mayL x.keys x.lock x.slot x.view M.value M.votes
        · exact absurd (.inr h) hc
        · rfl
      have s2 := fun y : PX => may_ms m.rb x.keys hk x.lock m.kx y M (by omega) x.slot x.view (by omega)
      rw [hmay] at s2
      have s3 := fun y => votes1_ms b { x with prepared := x.view } m y M hk (by omega) hb
      have hE : ({ x with prepared := x.view }.votes 1 M.value) = (l, x') := Option.some.inj hyes
      have hE2 : x' = { x with prepared := x.view, prep := x'.prep } := by
        have := congrArg Prod.snd hE
        simp only at this
        rw [← this]
        rfl
      rw [hE] at s3
      simp only at s3
      rw [hE2]
      generalize x'.prep = pp at *
      clear hE hE2 hyes
      refine Trip.of_body Tryz.func78 rfl Tryz.ntmps78 Tryz.results78 rfl ?_
      refine Wsr (Ls (Rdo.assign rfl) (Ls (Rdo.assign rfl) (Lnt (Wp.seq ?_))))
      refine Wp.draw (by kernel_rfl) ?_
      refine Qt (i := 0) rfl (Rdo.move rfl) (Qt (i := 1) rfl (Rdo.nilCheck rfl) (Qt (i := 2) rfl (Rdo.fieldAddr0 rfl) (Qt (i := 4) rfl (Rdo.move rfl) (Qt (i := 5) rfl (Rdo.nilCheck rfl) (Qt (i := 6) rfl (Rdo.fieldAddr0 rfl) ?_)))))
      refine WpR.load (i := 3) [7, 12] rfl (by kernel_rfl) (by kernel_rfl) (by kernel_rfl) (by kernel_rfl) (by kernel_rfl) rfl Tk.rfl_ (Harm.rd rfl (Rdo.load rfl (Lds.one rfl)) (Harm.al rfl inferInstance Harm.nil)) (Rdo.load rfl (Lds.one rfl)) rfl ?_
      refine WpR.load (i := 7) [12] rfl (by kernel_rfl) (by kernel_rfl) (by kernel_rfl) (by kernel_rfl) (by kernel_rfl) rfl Tk.rfl_ (Harm.al rfl inferInstance Harm.nil) (Rdo.load rfl (Lds.one rfl)) rfl ?_
      refine Pend.start (i := 12) rfl ?_
      refine Pend.one (j := 8) rfl rfl (by kernel_rfl) (by kernel_rfl) (by kernel_rfl) rfl (by simp) rfl rfl (Sc (s1) rfl ?_)
      rintro _ _ ⟨v18_0, ⟨rfl, rfl⟩⟩
      refine Pend.lst (by simp only [List.cons_append, List.nil_append]; exact rfl) ?_
      refine Pend.take (j := 9) rfl (by kernel_rfl) (by kernel_rfl) (by kernel_rfl) rfl rfl (Rdo.move rfl) rfl ?_
      refine Pend.take (j := 10) rfl (by kernel_rfl) (by kernel_rfl) (by kernel_rfl) rfl rfl (Rdo.extract rfl rfl) rfl ?_
      refine Pend.take (j := 11) rfl (by kernel_rfl) (by kernel_rfl) (by kernel_rfl) rfl rfl (Rdo.extract rfl rfl) rfl ?_
      refine Pend.made rfl (by kernel_rfl) rfl (fun nb23 => ?_)
      refine Qo (i := 13) rfl (St rfl rfl (VC.ag _) ?_)
      refine Qt (i := 14) rfl (Rdo.assign rfl) ?_
      refine WpR.done (by kernel_rfl) ?_
      refine Thn.n (Wp.seq (Wp.seq ?_))
      refine Wp.draw (by kernel_rfl) ?_
      refine Qt (i := 0) rfl (Rdo.move rfl) (Qt (i := 1) rfl (Rdo.not rfl) (Qt (i := 2) rfl (Rdo.move rfl) (Qw (i := 3) rfl rfl rfl (Rdo.move rfl) (Qw (i := 4) rfl rfl rfl (Rdo.nilCheck rfl) (Qw (i := 5) rfl rfl rfl (Rdo.fieldAddr0 rfl) (Qw (i := 7) rfl rfl rfl (Rdo.move rfl) (Qw (i := 8) rfl rfl rfl (Rdo.nilCheck rfl) (Qw (i := 9) rfl rfl rfl (Rdo.fieldAddr0 rfl) ?_))))))))
      refine WpR.phaseL (m := 0) #[true, true, true, true, true, true, true, true, true, true, true, true, true, true, true, true, true, true, true, true, true, true, true, true, true, true, true, true, true, true, true, true, true, true, true, true, true] 28 _ rfl (by kernel_rfl) (Tk.cons Pk.here (Tk.cons (Pk.next (Pk.next Pk.here)) Tk.nil)) ?_
      refine Aw (i := 6) rfl rfl rfl (Rdo.load rfl (Lds.next (Lds.one rfl))) (Aw (i := 10) rfl rfl rfl (Rdo.load rfl (Lds.next (Lds.one rfl))) (Aw (i := 11) rfl rfl rfl (Rdo.gei rfl rfl) (At (i := 12) rfl (Rdo.pick_f rfl rfl) (At (i := 13) rfl (Rdo.move rfl) ?_))))
      refine WpA.tF 31 rfl (by first | rfl | assumption | (simp only [decide_eq_true_eq, decide_eq_false_iff_not, Bool.not_eq_true', Bool.not_eq_false', List.length_cons, List.length_nil]; first | assumption | omega) | (simp <;> done) | (simp <;> omega)) ?_
      refine Aw (i := 14) rfl rfl rfl (Rdo.move rfl) (Aw (i := 15) rfl rfl rfl (Rdo.nilCheck rfl) (Aw (i := 16) rfl rfl rfl (Rdo.fieldAddr0 rfl) (Aw (i := 17) rfl rfl rfl (Rdo.load rfl (Lds.next (Lds.one rfl))) (Aw (i := 18) rfl rfl rfl (Rdo.move rfl) (Aw (i := 19) rfl rfl rfl (Rdo.nilCheck rfl) (Aw (i := 20) rfl rfl rfl (Rdo.fieldAddr0 rfl) ?_))))))
      refine Aw (i := 21) rfl rfl rfl (Rdo.load rfl (Lds.next (Lds.cut rfl (by first | rfl | assumption | (simp <;> done))))) ?_
      refine Aw (i := 22) rfl rfl rfl (Rdo.move rfl) (Aw (i := 23) rfl rfl rfl (Rdo.nilCheck rfl) (Aw (i := 24) rfl rfl rfl (Rdo.fieldAddr0 rfl) (Aw (i := 25) rfl rfl rfl (Rdo.load rfl (Lds.next (Lds.one rfl))) (Aw (i := 26) rfl rfl rfl (Rdo.move rfl) (Aw (i := 27) rfl rfl rfl (Rdo.nilCheck rfl) (Aw (i := 28) rfl rfl rfl (Rdo.fieldAddr0 rfl) (Aw (i := 29) rfl rfl rfl (Rdo.load rfl (Lds.next (Lds.one rfl))) (Aw (i := 30) rfl rfl rfl (Rdo.fieldAddr0 rfl) (Aw (i := 31) rfl rfl rfl (Rdo.load rfl (Lds.one rfl)) (Aw (i := 32) rfl rfl rfl (Rdo.fieldAddr0 rfl) (Aw (i := 33) rfl rfl rfl (Rdo.load rfl (Lds.one rfl)) ?_)))))))))))
      refine WpA.oneG (i := 34) rfl rfl rfl rfl (by kernel_rfl) (Sc (s2 _) rfl ?_)
      rintro _ _ ⟨rfl, rfl⟩
      refine WpA.lst (by simp only [List.cons_append, List.nil_append]; exact rfl) ?_
      refine Aw (i := 35) rfl rfl rfl (Rdo.not rfl) (At (i := 36) rfl (Rdo.pick_f rfl rfl) ?_)
      refine WpA.stop (by kernel_rfl) ?_
      refine Ql ?_
      refine WpR.done (by kernel_rfl) ?_
      refine Thn.n ?_
      refine Wp.condF rfl ?_
      refine Wp.skip (Thn.n (Wsr (Ls (Rdo.move rfl) (Ls (Rdo.move rfl) (Ls (Rdo.nilCheck rfl) (Ls (Rdo.fieldAddr0 rfl) (Ls (Rdo.load rfl (Lds.next (Lds.one rfl))) (Ls (Rdo.nilCheck rfl) (Ls (Rdo.fieldAddr0 rfl) ?_)))))))))
      refine WpL.step (Stp.storeV rfl rfl (VC.i _ _) rfl (Sts.next (Sp (oneCells1 rfl))) ?_)
      refine Lnt (Wsr (Ls (Rdo.move rfl) (Ls (Rdo.fieldAddr0 rfl) (Ls (Rdo.load rfl (Lds.one rfl)) ?_))))
      refine WpL.step (Sc (s3 _) rfl ?_)
      rintro _ _ ⟨v97_0, ⟨rfl, rfl⟩⟩
      refine Ll ?_
      refine Ls (Rdo.assign rfl) (Ls (Rdo.assign rfl) (Lnt (Wp.ret ?_)))
      refine Rt (ResV.tmp rfl (ResV.tmp rfl ResV.nil)) ⟨_, ⟨rfl, rfl⟩⟩
end Go.Proofs.YtomijhgicennbaaGreat
namespace Go.Proofs.YtomijhgicennbaaGreat
open Go
set_option maxHeartbeats 4000000
set_option linter.unusedSimpArgs false
set_option linter.unusedVariables false
set_option maxRecDepth 20000
theorem Rdo.makeBound {P : Program} {e : Env} {C : List HP} {ty : TypeId} {f : FuncId} {x : Operand} {v : Value} (hx : evl e x = some v) : Rdo P e C (.makeFunc (.func f) #[x] #[]) ty (.func (.func f) #[v] #[]) := by
  unfold Rdo
  intro G w a n dst pos after g hl he
  have := he.eval hx
  simp [execOp, Instr.makeFunc, this]
theorem TripV.of_bound {P : Program} {f : FuncId} {v : Value} {args : List Value} {pre : List HP} {post : Value → List HP → Prop} (hf : callable P f = true) (ht : Trip P f (v :: args) pre post) :
    TripV P (.func (.func f) #[v] #[]) args pre post := by
  unfold TripV UpV
  unfold Trip at ht
  intro F w hl o a K Q0 hK
  have hr : (do let d ← Deferred.ofValue (.func (.func f) #[v] #[]) args.toArray; invoke d.target d.args : Sem Next).run P w = .ok (.enter f (v :: args).toArray) w := by
    simp [Deferred.ofValue, invoke, run_callFunc hf]
  rw [hr]
  refine ⟨by simp [Fence.wide], callsIn_wide.2 ((ht F w hl).mono ?_)⟩
  rintro en w' ⟨v, l', rfl, hpost, hl', hx'⟩
  exact hK _ _ ⟨l', hpost, hl', hx'⟩
end Go.Proofs.YtomijhgicennbaaGreat
namespace Go.Proofs.YtomijhgicennbaaGreat
open Go
set_option maxHeartbeats 4000000
set_option linter.unusedSimpArgs false
set_option linter.unusedVariables false
set_option maxRecDepth 20000
theorem R_settles_no (b : Nat) (x : RouS) (m : RouM) (N : Nat) (ho : RouOK x N) (hN : N ≤ 100000) (hno : x.settles = none) :
    Trip Tryz.prog 77 [vp b 0] (rouL b x m) (fun r l => r = .tuple #[vnil, vb false] ∧ l = rouL b x m) := by
  refine Trip.via (settles_no b x m (ho.se hN) hno) (rest := [tmA m.tp x.props, tbA m.t1 x.prep, tsA m.ts x.stats, bsF m.kx.1 x.lock.value, vsF m.kx.2 x.lock.votes, bsF m.wt x.want, bsF m.dx.1 x.value, vsF m.dx.2 x.why]) (by repeat (first | exact Tk.nil | apply Tk.cons (by repeat (first | exact Pk.here | apply Pk.next)))) ?_
  rintro r l ⟨rfl, rfl⟩
  exact ⟨_, ⟨rfl, rfl⟩, Gk⟩
theorem settles_eq (x : RouS) (ms : List Msg) (x' : RouS) (h : x.settles = some (ms, x')) : ms = [] ∧ x' = x.decides x'.value x'.why := by
  unfold RouS.settles at h
  cases hf : (sortT x.comm).findSome? fun p => x.enough p.2 with
  | none => rw [hf] at h; cases h
  | some r => rw [hf] at h; cases h; exact ⟨rfl, rfl⟩
theorem R_settles_yes (b : Nat) (x : RouS) (m : RouM) (N : Nat) (ho : RouOK x N) (hN : N ≤ 100000) (ms : List Msg) (x' : RouS) (hyes : x.settles = some (ms, x')) :
    Trip Tryz.prog 77 [vp b 0] (rouL b x m) (fun r l => ∃ (m' : RouM) (q : Option Addr × Nat), r = .tuple #[.slice q.1 ms.length q.2, vb true] ∧ l = rouL b x' m' ++ [mrF q ms]) := by
  refine Trip.via (settles_yes b x m (ho.se hN) ms x' hyes) (rest := [tmA m.tp x.props, tbA m.t1 x.prep, tsA m.ts x.stats, bsF m.kx.1 x.lock.value, vsF m.kx.2 x.lock.votes, bsF m.wt x.want, bsF m.dx.1 x.value, vsF m.dx.2 x.why]) (by repeat (first | exact Tk.nil | apply Tk.cons (by repeat (first | exact Pk.here | apply Pk.next)))) ?_
  obtain ⟨rfl, hx⟩ := settles_eq x ms x' hyes
  generalize x'.value = v at *
  generalize x'.why = w at *
  subst hx
  rintro r l ⟨dx, rfl, rfl⟩
  refine ⟨_, ⟨{ m with dx := dx }, (none, 0), rfl, rfl⟩, ?_⟩
  exact Gh.trans (mr_nil (none, 0)) Gk
theorem R_prepares_no (b : Nat) (x : RouS) (m : RouM) (N : Nat) (ho : RouOK x N) (hN : N ≤ 100000) (hno : x.prepares = none) :
    Trip Tryz.prog 78 [vp b 0] (rouL b x m) (fun r l => r = .tuple #[vnil, vb false] ∧ l = rouL b x m) := by
  refine Trip.via (prepares_no b x m ho.keys (fun M hM => ho.prop _ (alook_mem hM)) hno) (rest := [rowA 22 1 (.slice m.vl.1 x.values.length m.vl.2) x.values.length m.es, fz (fun g => RdVals g m.es x.values), tbA m.t2 x.comm, tsA m.ts x.stats, vsF m.kx.2 x.lock.votes, bsF m.wt x.want, bsF m.dx.1 x.value, vsF m.dx.2 x.why]) (by repeat (first | exact Tk.nil | apply Tk.cons (by repeat (first | exact Pk.here | apply Pk.next)))) ?_
  rintro r l ⟨rfl, rfl⟩
  exact ⟨_, ⟨rfl, rfl⟩, Gk⟩
theorem prepares_eq (x : RouS) (ms : List Msg) (x' : RouS) (h : x.prepares = some (ms, x')) : x' = { x with prepared := x.view, prep := x'.prep } := by
  unfold RouS.prepares at h
  split at h
  · cases h
  · split at h
    · cases h
    · cases h; rfl
theorem R_prepares_yes (b : Nat) (x : RouS) (m : RouM) (N : Nat) (ho : RouOK x N) (hN : N ≤ 100000) (ms : List Msg) (x' : RouS) (hyes : x.prepares = some (ms, x')) :
    Trip Tryz.prog 78 [vp b 0] (rouL b x m) (fun r l => ∃ (m' : RouM) (q : Option Addr × Nat), r = .tuple #[.slice q.1 ms.length q.2, vb true] ∧ l = rouL b x' m' ++ [mrF q ms]) := by
  refine Trip.via (prepares_yes b x m ho.keys (fun M hM => ho.prop _ (alook_mem hM)) (ho.co hN).prep ms x' hyes) (rest := [rowA 22 1 (.slice m.vl.1 x.values.length m.vl.2) x.values.length m.es, fz (fun g => RdVals g m.es x.values), tbA m.t2 x.comm, tsA m.ts x.stats, vsF m.kx.2 x.lock.votes, bsF m.wt x.want, bsF m.dx.1 x.value, vsF m.dx.2 x.why]) (by repeat (first | exact Tk.nil | apply Tk.cons (by repeat (first | exact Pk.here | apply Pk.next)))) ?_
  have hx := prepares_eq x ms x' hyes
  generalize x'.prep = v at *
  subst hx
  rintro r l ⟨q, rfl, rfl⟩
  exact ⟨_, ⟨m, q, rfl, rfl⟩, Gk⟩
theorem R_commits_no (b : Nat) (x : RouS) (m : RouM) (N : Nat) (ho : RouOK x N) (hN : N ≤ 100000) (hno : x.commits = none) :
    Trip Tryz.prog 79 [vp b 0] (rouL b x m) (fun r l => r = .tuple #[vnil, vb false] ∧ l = rouL b x m) := by
  refine Trip.via (commits_no b x m (ho.co hN) hno) (rest := [tmA m.tp x.props, tsA m.ts x.stats, bsF m.kx.1 x.lock.value, vsF m.kx.2 x.lock.votes, bsF m.wt x.want, bsF m.dx.1 x.value, vsF m.dx.2 x.why]) (by repeat (first | exact Tk.nil | apply Tk.cons (by repeat (first | exact Pk.here | apply Pk.next)))) ?_
  rintro r l ⟨rfl, rfl⟩
  exact ⟨_, ⟨rfl, rfl⟩, Gk⟩
theorem commits_eq (x : RouS) (ms : List Msg) (x' : RouS) (h : x.commits = some (ms, x')) : x' = { x with committed := x.view, lock := x'.lock, comm := x'.comm } := by
  unfold RouS.commits at h
  split at h
  · cases h
  · split at h
    · cases h
    · cases h; rfl
theorem R_commits_yes (b : Nat) (x : RouS) (m : RouM) (N : Nat) (ho : RouOK x N) (hN : N ≤ 100000) (ms : List Msg) (x' : RouS) (hyes : x.commits = some (ms, x')) :
    Trip Tryz.prog 79 [vp b 0] (rouL b x m) (fun r l => ∃ (m' : RouM) (q : Option Addr × Nat), r = .tuple #[.slice q.1 ms.length q.2, vb true] ∧ l = rouL b x' m' ++ [mrF q ms]) := by
  refine Trip.via (commits_yes b x m (ho.co hN) ms x' hyes) (rest := [tmA m.tp x.props, tsA m.ts x.stats, bsF m.kx.1 x.lock.value, vsF m.kx.2 x.lock.votes, bsF m.wt x.want, bsF m.dx.1 x.value, vsF m.dx.2 x.why]) (by repeat (first | exact Tk.nil | apply Tk.cons (by repeat (first | exact Pk.here | apply Pk.next)))) ?_
  have hx := commits_eq x ms x' hyes
  generalize x'.lock = v at *
  generalize x'.comm = w at *
  subst hx
  rintro r l ⟨kx, q, rfl, rfl⟩
  exact ⟨_, ⟨{ m with kx := kx }, q, rfl, rfl⟩, Gk⟩
theorem R_proposes_no (b : Nat) (x : RouS) (m : RouM) (N : Nat) (ho : RouOK x N) (hN : N ≤ 100000) (hno : x.proposes = none) :
    Trip Tryz.prog 80 [vp b 0] (rouL b x m) (fun r l => r = .tuple #[vnil, vb false] ∧ l = rouL b x m) := by
  refine Trip.via (proposes_no b x m ho.ch hno) (rest := [tbA m.t1 x.prep, tbA m.t2 x.comm, bsF m.kx.1 x.lock.value, vsF m.kx.2 x.lock.votes, bsF m.dx.1 x.value, vsF m.dx.2 x.why]) (by repeat (first | exact Tk.nil | apply Tk.cons (by repeat (first | exact Pk.here | apply Pk.next)))) ?_
  rintro r l ⟨rfl, rfl⟩
  exact ⟨_, ⟨rfl, rfl⟩, Gk⟩
theorem chosen_len (x : RouS) (N : Nat) (ho : RouOK x N) (bs : List UInt8) (why : List Vote) (h : x.chosen = some (bs, why)) : bs.length ≤ 100000 ∧ why.length ≤ 1000 := by
  unfold RouS.chosen at h
  simp only at h
  have hlast : (if x.want = [] then none else some (x.want, ([] : List Vote))) = some (bs, why) → bs.length ≤ 100000 ∧ why.length ≤ 1000 := by
    intro h
    by_cases hw : x.want = []
    · rw [if_pos hw] at h; cases h
    · rw [if_neg hw] at h
      simp only [Option.some.injEq, Prod.mk.injEq] at h
      obtain ⟨rfl, rfl⟩ := h
      exact ⟨ho.want, by simp⟩
  by_cases hv : 0 < x.view
  · simp only [hv, true_and, if_true] at h
    split at h
    · cases h
    · have hk : lockOk ((sortT ((alook x.stats x.view).getD [])).foldl (fun k p => higherL x.keys x.slot x.view k ⟨-1, p.2.value, p.2.votes⟩) free) := by
        cases hl : alook x.stats x.view with
        | none => exact foldl_ok x _ (fun p hp => by have := (sortT_perm _).mem_iff.1 hp; simp at this) free lockOk_free
        | some l =>
          rw [Option.getD_some]
          exact foldl_ok x _ (fun p hp => (ho.stats _ (alook_mem hl)).2 p ((sortT_perm l).mem_iff.1 hp)) free lockOk_free
      generalize (sortT ((alook x.stats x.view).getD [])).foldl (fun k p => higherL x.keys x.slot x.view k ⟨-1, p.2.value, p.2.votes⟩) free = k at *
      by_cases hkv : 0 ≤ k.view
      · rw [if_pos hkv] at h
        simp only [Option.some.injEq, Prod.mk.injEq] at h
        obtain ⟨rfl, rfl⟩ := h
        exact hk
      · rw [if_neg hkv] at h
        exact hlast h
  · simp only [hv, false_and, if_false] at h
    exact hlast h
theorem proposes_eq (x : RouS) (ms : List Msg) (x' : RouS) (h : x.proposes = some (ms, x')) : ∃ bs why, x.chosen = some (bs, why) ∧ x.me = leader x.slot x.view x.keys.length ∧ ¬ x.view ≤ x.proposed ∧
    x' = RouS.proposal { x with proposed := x.view } (sealedM x.keys x.me x.slot (propM x.view bs why) x.me) ∧ ms = x'.all (propM x.view bs why) := by
  unfold RouS.proposes at h
  split at h
  · cases h
  · rename_i hc
    split at h
    · cases h
    · rename_i bs why hch
      cases h
      refine ⟨bs, why, hch, ?_, fun h => hc (.inr h), rfl, rfl⟩
      cases hl : x.leads x.me x.view with
      | false => exact absurd (.inl hl) hc
      | true => simpa [RouS.leads] using hl
theorem R_proposes_yes (b : Nat) (x : RouS) (m : RouM) (N : Nat) (ho : RouOK x N) (hN : N ≤ 100000) (ms : List Msg) (x' : RouS) (hyes : x.proposes = some (ms, x')) :
    Trip Tryz.prog 80 [vp b 0] (rouL b x m) (fun r l => ∃ (m' : RouM) (q : Option Addr × Nat), r = .tuple #[.slice q.1 ms.length q.2, vb true] ∧ l = rouL b x' m' ++ [mrF q ms]) := by
  obtain ⟨bs, why, hch, h1, h2, h3, rfl⟩ := proposes_eq x ms x' hyes
  obtain ⟨k1, k2⟩ := chosen_len x N ho bs why hch
  refine Trip.via (proposes_yes b x m ho.ch (by have := ho.vlen; omega) bs why k1 k2 h1 h2 hch x' h3) (rest := [tbA m.t1 x.prep, tbA m.t2 x.comm, bsF m.kx.1 x.lock.value, vsF m.kx.2 x.lock.votes, bsF m.dx.1 x.value, vsF m.dx.2 x.why]) (by repeat (first | exact Tk.nil | apply Tk.cons (by repeat (first | exact Pk.here | apply Pk.next)))) ?_
  have hs := proposal_same { x with proposed := x.view } (sealedM x.keys x.me x.slot (propM x.view bs why) x.me)
  rw [← h3] at hs
  obtain ⟨e1, e2, e3, e4, e5, e6, e7, e8, e9, e10, e11, e12, e13, e14, e15⟩ := hs
  simp only at e1 e2 e3 e4 e5 e6 e7 e8 e9 e10 e11
  rintro r l ⟨vl, es, q, rfl, rfl⟩
  refine ⟨_, ⟨{ m with vl := vl, es := es }, q, rfl, rfl⟩, ?_⟩
  simp only [rouL, e1, e5, e6, e7, e8, e9, e10, e11]
  exact Gk
end Go.Proofs.YtomijhgicennbaaGreat
namespace Go.Proofs.YtomijhgicennbaaGreat
open Go
set_option maxHeartbeats 4000000
set_option linter.unusedSimpArgs false
set_option linter.unusedVariables false
set_option maxRecDepth 20000
variable {x : RouS} {N : Nat}
theorem decides_OK (h : RouOK x N) {bs : List UInt8} {why : List Vote} (h1 : bs.length ≤ 100000) (h2 : why.length ≤ 1000) : RouOK (x.decides bs why) N :=
  ⟨h.keys, h.me, h.view, h.vals, h.val, h.props, h.prop, h.prep, h.comm, h.stats, h.lock, h.want, h1, h2⟩
theorem knows_OK {M : Msg} (h : RouOK x N) (hno : alook x.props M.view = none) (hm : okM M) (hw : 0 ≤ M.view ∧ M.view ≤ 8) : RouOK (RouS.knows { x with props := aset x.props M.view M } M.value) N := by
  have hp : okT 8 (aset x.props M.view M) := okT_set h.props hw
  have hpl : (aset x.props M.view M).length = x.props.length + 1 := by rw [aset_length, hno]; rfl
  have hpm : ∀ p ∈ aset x.props M.view M, okM p.2 := fun p hp => by
    rcases aset_mem hp with rfl | hp
    · exact hm
    · exact h.prop p hp
  have hv := h.vals
  unfold RouS.knows
  split
  · exact ⟨h.keys, h.me, h.view, by simp only; omega, h.val, hp, hpm, h.prep, h.comm, h.stats, h.lock, h.want, h.value, h.why⟩
  · refine ⟨h.keys, h.me, h.view, by simp only [List.length_append, List.length_cons, List.length_nil]; omega, fun v hv => ?_, hp, hpm, h.prep, h.comm, h.stats, h.lock, h.want, h.value, h.why⟩
    rcases List.mem_append.1 hv with hv | hv
    · exact h.val v hv
    · rw [List.mem_singleton.1 hv]; exact hm.1
theorem proposal_OK {M : Msg} (h : RouOK x N) (hm : okM M) (hw : 0 ≤ M.view ∧ M.view ≤ 8) : RouOK (x.proposal M) N := by
  unfold RouS.proposal
  split
  · exact h
  · rename_i hc
    have hno : alook x.props M.view = none := by
      cases hl : alook x.props M.view with
      | none => rfl
      | some y => exact absurd (.inl (by rw [hl]; rfl)) hc
    exact knows_OK h hno hm hw
theorem counts_OK {v : Vote} (h : RouOK x N) (hf : okFrom v) (hw : 0 ≤ v.view ∧ v.view ≤ 8) : RouOK (x.counts v) (N + 1) := by
  unfold RouS.counts
  split
  · exact ⟨h.keys, h.me, h.view, h.vals, h.val, h.props, h.prop, addV_ok h.prep hf hw, okBal_le h.comm (by omega), h.stats, h.lock, h.want, h.value, h.why⟩
  · exact ⟨h.keys, h.me, h.view, h.vals, h.val, h.props, h.prop, okBal_le h.prep (by omega), addV_ok h.comm hf hw, h.stats, h.lock, h.want, h.value, h.why⟩
theorem vote_OK {M : Msg} (h : RouOK x N) (hv : ∀ v ∈ M.votes, okFrom v ∧ 0 ≤ v.view ∧ v.view ≤ 8) : RouOK (x.vote M) (N + 1) := by
  unfold RouS.vote
  split
  · exact h.le (by omega)
  · rename_i v vs hvs
    split
    · obtain ⟨h1, h2⟩ := hv v (by rw [hvs]; simp)
      exact counts_OK h h1 h2
    · exact h.le (by omega)
theorem status_OK {M : Msg} (h : RouOK x N) (hm : okM M) (hf : 0 ≤ M.from_ ∧ M.from_ ≤ 9) : RouOK (x.status M) N := by
  unfold RouS.status
  split
  · exact h
  · have hin : okT 9 ((alook x.stats M.view).getD []) ∧ ∀ q ∈ (alook x.stats M.view).getD [], okM q.2 := by
      cases hl : alook x.stats M.view with
      | none => exact ⟨okT_nil 9, by simp⟩
      | some l => exact h.stats _ (alook_mem hl)
    refine ⟨h.keys, h.me, h.view, h.vals, h.val, h.props, h.prop, h.prep, h.comm, fun p hp => ?_, h.lock, h.want, h.value, h.why⟩
    rcases aset_mem hp with rfl | hp
    · simp only
      split
      · exact hin
      · refine ⟨okT_set hin.1 hf, fun q hq => ?_⟩
        rcases aset_mem hq with rfl | hq
        · exact hm
        · exact hin.2 q hq
    · exact h.stats p hp
theorem decision_OK {M : Msg} (h : RouOK x N) (hm : okM M) : RouOK (x.decision M) N := by
  unfold RouS.decision
  split
  · exact h
  · split
    · exact decides_OK h hm.1 hm.2
    · exact h
theorem votes_OK {kind : Int} {bs : List UInt8} (h : RouOK x N) : RouOK (x.votes kind bs).2 (N + 1) :=
  counts_OK h (by show 0 ≤ x.me ∧ x.me ≤ 9; exact h.me) h.view
theorem enough_OK (h : RouOK x N) {L : List Vote} (hL : okL L) {bs : List UInt8} {S : List Vote} (he : x.enough L = some (bs, S)) : bs.length ≤ 100000 ∧ S.length ≤ 1000 := by
  rw [enough_eq] at he
  cases hf : x.values.find? (enP x.keys.length L) with
  | none => rw [hf] at he; cases he
  | some b =>
    rw [hf] at he
    simp only [Option.map_some, Option.some.injEq, Prod.mk.injEq] at he
    obtain ⟨rfl, rfl⟩ := he
    refine ⟨h.val _ (List.mem_of_find?_eq_some hf), ?_⟩
    rw [sortV_len]
    have := (hL (dHash b)).1
    omega
def mu (x : RouS) : Nat := (if x.view ≤ x.prepared then 0 else 1) + (if x.view ≤ x.committed then 0 else 1) + (if x.view ≤ x.proposed then 0 else 1)
theorem mu_le (x : RouS) : mu x ≤ 3 := by unfold mu; split <;> split <;> split <;> omega
abbrev StepOK (x : RouS) (N : Nat) (l : List Msg) (y : RouS) : Prop := RouOK y (N + 1) ∧ (y.decided = true ∨ mu y < mu x) ∧ l.length ≤ 10
theorem settles_OK (h : RouOK x N) {l : List Msg} {y : RouS} (hs : x.settles = some (l, y)) : StepOK x N l y := by
  unfold RouS.settles at hs
  cases hf : (sortT x.comm).findSome? fun p => x.enough p.2 with
  | none => rw [hf] at hs; cases hs
  | some r =>
    rw [hf] at hs
    simp only [Option.map_some, Option.some.injEq, Prod.mk.injEq] at hs
    obtain ⟨rfl, rfl⟩ := hs
    obtain ⟨p, hp, he⟩ := List.exists_of_findSome?_eq_some hf
    obtain ⟨b, S⟩ := r
    have hk := enough_OK h (okB_L (h.comm.2 p ((sortT_perm _).mem_iff.1 hp)).2) he
    exact ⟨(decides_OK h hk.1 hk.2).le (by omega), .inl rfl, by simp⟩
theorem all_len (h : RouOK x N) (M : Msg) : (x.all M).length ≤ 10 := by
  have := allP_len x.keys x.me x.slot M x.keys.length
  have := h.keys
  rw [all_eq]
  omega
theorem prepares_OK (h : RouOK x N) {l : List Msg} {y : RouS} (hs : x.prepares = some (l, y)) : StepOK x N l y := by
  unfold RouS.prepares at hs
  split at hs
  · cases hs
  · rename_i m _
    split at hs
    · cases hs
    · rename_i hc
      have hv : ¬ x.view ≤ x.prepared := fun h => hc (.inl h)
      simp only [Option.some.injEq] at hs
      have h1 : RouOK { x with prepared := x.view } N := ⟨h.keys, h.me, h.view, h.vals, h.val, h.props, h.prop, h.prep, h.comm, h.stats, h.lock, h.want, h.value, h.why⟩
      have h2 := votes_OK (kind := 1) (bs := m.value) h1
      have h3 : l.length ≤ 10 := by
        have e : l = (RouS.votes { x with prepared := x.view } 1 m.value).1 := by rw [hs]
        rw [e]
        exact all_len h2 _
      rw [hs] at h2
      refine ⟨h2, .inr ?_, h3⟩
      have e : y = (RouS.votes { x with prepared := x.view } 1 m.value).2 := by rw [hs]
      rw [e]
      unfold mu RouS.votes RouS.counts
      simp only [castV, if_true, Int.le_refl, hv, if_false]
      omega
theorem commits_OK (h : RouOK x N) {l : List Msg} {y : RouS} (hs : x.commits = some (l, y)) : StepOK x N l y := by
  unfold RouS.commits at hs
  split at hs
  · cases hs
  · rename_i hv
    split at hs
    · cases hs
    · rename_i b S he
      have hk := enough_OK h (okB_L (balOf_ok h.prep x.view).2) he
      simp only [Option.some.injEq] at hs
      have h1 : RouOK { x with committed := x.view, lock := ⟨x.view, b, S⟩ } N := ⟨h.keys, h.me, h.view, h.vals, h.val, h.props, h.prop, h.prep, h.comm, h.stats, hk, h.want, h.value, h.why⟩
      have h2 := votes_OK (kind := 2) (bs := b) h1
      have h3 : l.length ≤ 10 := by
        have e : l = (RouS.votes { x with committed := x.view, lock := ⟨x.view, b, S⟩ } 2 b).1 := by rw [hs]
        rw [e]
        exact all_len h2 _
      rw [hs] at h2
      refine ⟨h2, .inr ?_, h3⟩
      have e : y = (RouS.votes { x with committed := x.view, lock := ⟨x.view, b, S⟩ } 2 b).2 := by rw [hs]
      rw [e]
      unfold mu RouS.votes RouS.counts
      simp only [castV, if_false, Int.le_refl, hv, if_true, show ¬ ((2 : Int) = 1) by omega]
      omega
theorem proposes_OK (h : RouOK x N) {l : List Msg} {y : RouS} (hs : x.proposes = some (l, y)) : StepOK x N l y := by
  obtain ⟨bs, why, hch, h1, h2, h3, h4⟩ := proposes_eq x l y hs
  obtain ⟨k1, k2⟩ := chosen_len x N h bs why hch
  have h5 : RouOK { x with proposed := x.view } N := ⟨h.keys, h.me, h.view, h.vals, h.val, h.props, h.prop, h.prep, h.comm, h.stats, h.lock, h.want, h.value, h.why⟩
  have h6 := proposal_OK (M := sealedM x.keys x.me x.slot (propM x.view bs why) x.me) h5 ⟨k1, k2⟩ h.view
  rw [← h3] at h6
  refine ⟨h6.le (by omega), .inr ?_, by rw [h4]; exact all_len h6 _⟩
  have hz := proposal_same { x with proposed := x.view } (sealedM x.keys x.me x.slot (propM x.view bs why) x.me)
  rw [← h3] at hz
  obtain ⟨-, -, -, e4, -, -, -, -, -, -, -, -, e13, e14, e15⟩ := hz
  unfold mu
  rw [e4, e13, e14, e15]
  simp only [Int.le_refl, h2, if_true, if_false]
  omega
theorem step_OK (h : RouOK x N) {l : List Msg} {y : RouS} (hs : x.step = some (l, y)) : StepOK x N l y := by
  unfold RouS.step at hs
  cases h1 : x.settles with
  | some r => rw [h1] at hs; simp only [Option.some_or, Option.some.injEq] at hs; subst hs; exact settles_OK h h1
  | none =>
    rw [h1, Option.none_or] at hs
    cases h2 : x.prepares with
    | some r => rw [h2] at hs; simp only [Option.some_or, Option.some.injEq] at hs; subst hs; exact prepares_OK h h2
    | none =>
      rw [h2, Option.none_or] at hs
      cases h3 : x.commits with
      | some r => rw [h3] at hs; simp only [Option.some_or, Option.some.injEq] at hs; subst hs; exact commits_OK h h3
      | none => rw [h3, Option.none_or] at hs; exact proposes_OK h hs
theorem steps_done (n : Nat) (h : x.decided = true) : x.steps n = ([], x) := by
  cases n with
  | zero => rfl
  | succ n => simp [RouS.steps, h]
theorem steps_none (n : Nat) (hs : x.step = none) : x.steps n = ([], x) := by
  cases n with
  | zero => rfl
  | succ n => simp [RouS.steps, hs]
theorem steps_some {n : Nat} {l : List Msg} {y : RouS} (h : x.decided = false) (hs : x.step = some (l, y)) : x.steps (n + 1) = (l ++ (y.steps n).1, (y.steps n).2) := by
  simp [RouS.steps, h, hs]
theorem steps_OK (n : Nat) : ∀ {x : RouS} {N : Nat}, RouOK x N → RouOK (x.steps n).2 (N + n) ∧ (x.steps n).1.length ≤ 10 * n := by
  induction n with
  | zero => intro x N h; exact ⟨h, by simp [RouS.steps]⟩
  | succ n ih =>
    intro x N h
    cases hd : x.decided with
    | true => rw [steps_done _ hd]; exact ⟨h.le (by omega), by simp⟩
    | false =>
      cases hs : x.step with
      | none => rw [steps_none _ hs]; exact ⟨h.le (by omega), by simp⟩
      | some r =>
        obtain ⟨l, y⟩ := r
        rw [steps_some hd hs]
        obtain ⟨h1, _, h3⟩ := step_OK h hs
        obtain ⟨h4, h5⟩ := ih h1
        exact ⟨h4.le (by omega), by simp only [List.length_append]; omega⟩
end Go.Proofs.YtomijhgicennbaaGreat
namespace Go.Proofs.YtomijhgicennbaaGreat
open Go
set_option maxHeartbeats 4000000
set_option linter.unusedSimpArgs false
set_option linter.unusedVariables false
set_option maxRecDepth 20000
theorem rr_facts {css : List (List Value)} {ms : List Msg} (r : Res) (h : fz (fun g => RdRows g css ms) r) : oneCells css.flatten ∧ css.flatten.length = ms.length * 39 := by
  unfold fz at h
  obtain ⟨h1, h2⟩ := h
  have hl : css.length = ms.length := by
    clear h1
    induction h2 with
    | nil => rfl
    | cons _ _ ih => simp [ih]
  refine ⟨oneCells_flatten fun c hc => ?_, by rw [flatten_length h1, hl]⟩
  clear h1 hl
  induction h2 with
  | nil => cases hc
  | cons h _ ih =>
    rcases List.mem_cons.1 hc with rfl | hc
    · exact h.one
    · exact ih hc
theorem opt_cases {α β : Type} (o : Option (α × β)) : o = none ∨ ∃ a b, o = some (a, b) := by
  rcases o with _ | ⟨a, b⟩
  · exact .inl rfl
  · exact .inr ⟨a, b, rfl⟩
abbrev stE (b : Nat) (v : Value) (again : Bool) : Env := [(0, vp b 0), (3, v), (4, vb again)]
def StI (x : RouS) (N : Nat) (k : Nat) (j M : Nat) (x' : RouS) (again : Bool) (ms : List Msg) : Prop :=
  RouOK x' M ∧ M + j ≤ N + 5 ∧ ms.length + 10 * j ≤ 50 ∧ (again = true → k = j + 1 ∧ ms ++ (x'.steps j).1 = (x.steps 5).1 ∧ (x'.steps j).2 = (x.steps 5).2 ∧ (x'.decided = true ∨ mu x' < j)) ∧ (again = false → ms = (x.steps 5).1 ∧ x' = (x.steps 5).2)
abbrev stF (b : Nat) (f : FuncId) : Value := .func (.func f) #[vp b 0] #[]
abbrev inE (b nb : Nat) (v : Value) (i : Nat) : Env := [(0, vp b 0), (3, v), (4, vb false), (25, .slice (some ⟨nb, 0, none⟩) 4 4), (26, vi 4), (27, vi i)]
theorem steps_ok (b : Nat) (x : RouS) (m : RouM) (N : Nat) (ho : RouOK x N) (hN : N ≤ 90000) :
    Trip Tryz.prog 47 [vp b 0] (rouL b x m) (fun r l => ∃ (m' : RouM) (q : Option Addr × Nat), r = .slice q.1 (x.steps 5).1.length q.2 ∧ l = rouL b (x.steps 5).2 m' ++ [mrF q (x.steps 5).1]) := by
  simp only [rouL]
  refine Trip.of_body Tryz.func47 rfl Tryz.ntmps47 Tryz.results47 rfl ?_
  refine Wsr (Ls (Rdo.assign rfl) (Lnt (Wsr (Ls (Rdo.assign rfl) (Lnt (Wp.seq (Wsr (Ls (Rdo.assign rfl) (Lnt (Wp.block ?_))))))))))
  refine Wp.loopE (fun k e h => ∃ (j M : Nat) (x' : RouS) (m' : RouM) (again : Bool) (v : Value) (css : List (List Value)) (ms : List Msg), StI x N k j M x' again ms ∧ e = stE b v again ∧ h = rouL b x' m' ++ [rowA 34 39 v ms.length css.flatten, fz (fun g => RdRows g css ms)]) 6
    (e0 := stE b vnil true) (l0 := rouL b x m ++ [rowA 34 39 vnil 0 [], fz (fun g => RdRows g [] [])]) (by repeat (first | exact trivial | refine ⟨rfl, ?_⟩)) (by repeat (first | exact trivial | refine ⟨rfl, ?_⟩)) (Gh.trans (Gh.trans rr_nil (Gh.nil 34 39)) Gk)
    ⟨5, N, x, m, true, vnil, [], [], ⟨ho, by omega, by simp, fun _ => ⟨rfl, by simp, rfl, .inr (by have := mu_le x; omega)⟩, fun h => by cases h⟩, rfl, rfl⟩ ?_
  rintro k e h ⟨j, M, x', m', again, v, css, ms, ⟨g1, g2, g3, g4, g5⟩, rfl, rfl⟩
  simp only [rouL, List.cons_append, List.nil_append]
  refine Wp.get (by repeat (first | exact Pk.here | apply Pk.next)) (p := rowA 34 39 v ms.length css.flatten) (fun r => rowA_shape) ?_
  rintro ⟨a0, c0, rfl⟩
  cases again with
  | false =>
    obtain ⟨rfl, rfl⟩ := g5 rfl
    refine Wp.seq (Wsr (Ls (Rdo.move rfl) (Ls (Rdo.move rfl) (Lp rfl rfl (Lp rfl rfl (Lp rfl rfl (Lp rfl rfl (Lp rfl rfl (Ls (Rdo.pick_f rfl rfl) (Lnt ?_))))))))))
    refine Wp.condF rfl ?_
    refine Wp.exit ?_
    refine Thn.x ?_
    refine Thn.x ?_
    refine Blk.here ?_
    refine Thn.n (Wsr (Ls (Rdo.move rfl) (Ls (Rdo.assign rfl) (Lnt (Wp.ret ?_)))))
    exact Ret.now (l' := rouL b (x.steps 5).2 m' ++ [mrF (a0, c0) (x.steps 5).1]) (by repeat (first | exact ResV.nil | apply ResV.tmp rfl | apply ResV.cell rfl (by repeat (first | exact Lds.one rfl | (apply Lds.all; (first | rfl | assumption | (simp <;> fail))) | exact Lds.ione0 | exact Lds.ione rfl | (apply Lds.iall; (first | rfl | assumption | (simp <;> fail))) | apply Lds.next)))) (Gh.trans (mr_shut (p := (a0, c0)) (css := css) rfl (by repeat (first | exact Pk.here | apply Pk.next)) (by repeat (first | exact Pk.here | apply Pk.next))) Gk) ⟨m', (a0, c0), rfl, rfl⟩
  | true =>
    obtain ⟨rfl, e1, e2, e3⟩ := g4 rfl
    cases hd : x'.decided with
    | true =>
      rw [steps_done _ hd] at e1 e2
      simp only [List.append_nil] at e1 e2
      rw [← e1, ← e2]
      refine Wp.seq (Wsr (Ls (Rdo.move rfl) (Ls (Rdo.move rfl) (Lw rfl rfl (Rdo.move rfl) (Lw rfl rfl (Rdo.nilCheck rfl) (Lw rfl rfl (Rdo.fieldAddr0 rfl) (Lw rfl rfl (Rdo.load rfl (Lds.one rfl)) (Lw rfl rfl (Rdo.not rfl) (Ls (Rdo.pick_t rfl rfl) (Lnt (cL rfl ?_)))))))))))
      refine Wp.exit ?_
      refine Thn.x ?_
      refine Thn.x ?_
      refine Blk.here ?_
      refine Thn.n (Wsr (Ls (Rdo.move rfl) (Ls (Rdo.assign rfl) (Lnt (Wp.ret ?_)))))
      exact Ret.now (l' := rouL b x' m' ++ [mrF (a0, c0) ms]) (by repeat (first | exact ResV.nil | apply ResV.tmp rfl | apply ResV.cell rfl (by repeat (first | exact Lds.one rfl | (apply Lds.all; (first | rfl | assumption | (simp <;> fail))) | exact Lds.ione0 | exact Lds.ione rfl | (apply Lds.iall; (first | rfl | assumption | (simp <;> fail))) | apply Lds.next)))) (Gh.trans (mr_shut (p := (a0, c0)) (css := css) rfl (by repeat (first | exact Pk.here | apply Pk.next)) (by repeat (first | exact Pk.here | apply Pk.next))) Gk) ⟨m', (a0, c0), rfl, rfl⟩
    | false =>
      obtain ⟨j', rfl⟩ : ∃ j', j = j' + 1 := by
        rcases e3 with h | h
        · rw [hd] at h; cases h
        · exact ⟨j - 1, by omega⟩
      have hgo : ∀ (l2 : List Msg) (y : RouS), x'.step = some (l2, y) → StI x N (j' + 1) j' (M + 1) y true (ms ++ l2) ∧ l2.length ≤ 10 := by
        intro l2 y hs
        obtain ⟨s1, s2, s3⟩ := step_OK g1 hs
        rw [steps_some hd hs] at e1 e2
        refine ⟨⟨s1, by omega, by rw [List.length_append]; omega, fun _ => ⟨rfl, by rw [← e1]; simp, e2, ?_⟩, fun h => by cases h⟩, s3⟩
        rcases s2 with h | h
        · exact .inl h
        · rcases e3 with h' | h'
          · rw [hd] at h'; cases h'
          · exact .inr (by omega)
      refine Wp.seq (Wsr (Ls (Rdo.move rfl) (Ls (Rdo.move rfl) (Lw rfl rfl (Rdo.move rfl) (Lw rfl rfl (Rdo.nilCheck rfl) (Lw rfl rfl (Rdo.fieldAddr0 rfl) (Lw rfl rfl (Rdo.load rfl (Lds.one rfl)) (Lw rfl rfl (Rdo.not rfl) (Ls (Rdo.pick_t rfl rfl) (Lnt (cK rfl (Wp.skip (Thn.n ?_)))))))))))))
      refine Wp.block (Wsr (Ls (Rdo.assign rfl) (Lnt (Wsr (Ls (Rdo.move rfl) (Ls (Rdo.makeBound rfl) (Ls (Rdo.move rfl) (Ls (Rdo.makeBound rfl) (Ls (Rdo.move rfl) (Ls (Rdo.makeBound rfl) (Ls (Rdo.move rfl) (Ls (Rdo.makeBound rfl) ?_))))))))))))
      (refine WpL.step (Stp.sliceV rfl rfl (VCs.cons (VC.f _ _ _) (by first | rfl | assumption | (simp <;> done)) (VCs.cons (VC.f _ _ _) (by first | rfl | assumption | (simp <;> done)) (VCs.cons (VC.f _ _ _) (by first | rfl | assumption | (simp <;> done)) (VCs.cons (VC.f _ _ _) (by first | rfl | assumption | (simp <;> done)) VCs.nil)))) (by simp only [List.cons_append, List.nil_append, List.append_nil]; exact rfl) rfl rfl ?_); intro nb32)
      refine Ls (Rdo.lenSlice rfl) (Ls (Rdo.move rfl) (Lnt (Wp.block ?_)))
      refine Wp.loopE (fun k e h => ∃ i : Nat, i + k = 4 ∧ (0 < i → x'.settles = none) ∧ (1 < i → x'.prepares = none) ∧ (2 < i → x'.commits = none) ∧ (3 < i → x'.proposes = none) ∧ e = inE b nb32 (.slice a0 ms.length c0) i ∧
          h = cel nb32 143 [stF b 77, stF b 78, stF b 79, stF b 80] :: (rouL b x' m' ++ [rowA 34 39 (.slice a0 ms.length c0) ms.length css.flatten, fz (fun g => RdRows g css ms)])) 4
        (e0 := inE b nb32 (.slice a0 ms.length c0) (0 : Nat)) (l0 := cel nb32 143 [stF b 77, stF b 78, stF b 79, stF b 80] :: (rouL b x' m' ++ [rowA 34 39 (.slice a0 ms.length c0) ms.length css.flatten, fz (fun g => RdRows g css ms)])) (by repeat (first | exact trivial | refine ⟨rfl, ?_⟩)) (by repeat (first | exact trivial | refine ⟨rfl, ?_⟩)) Gk ⟨0, by omega, by omega, by omega, by omega, by omega, rfl, rfl⟩ ?_
      rintro k2 e h ⟨i, hik, n1, n2, n3, n4, rfl, rfl⟩
      simp only [rouL, List.cons_append, List.nil_append]
      have hM : M ≤ 100000 := by omega
      match i, hik, n1, n2, n3, n4 with
      | 0, hik, n1, n2, n3, n4 =>
        rcases opt_cases x'.settles with hs | ⟨l2, y, hs⟩
        · refine Wsr (Ls (Rdo.lti rfl rfl) (Lnt (Wp.seq ?_)))
          refine Wp.condT rfl ?_
          refine Wp.skip (Thn.n (Wp.seq (Wp.block (Wsr ?_))))
          refine Ls (Rdo.indexSliceE (i := 0) rfl rfl rfl (by first | omega | (simp <;> omega))) ?_
          refine Ls (Rdo.load rfl (Lds.one rfl)) (Ls (Rdo.assign rfl) (Lnt (Wsr (Ls (Rdo.move rfl) ?_))))
          refine WpL.step (Stp.callV rfl rfl (TripV.of_bound (by kernel_rfl) (R_settles_no b x' m' M g1 hM hs)) (by repeat (first | exact Tk.nil | apply Tk.cons (by repeat (first | exact Pk.here | apply Pk.next)))) rfl ?_)
          rintro r _ ⟨rfl, rfl⟩
          refine WpL.lst (by simp only [rouL, List.cons_append, List.nil_append]; exact rfl) ?_
          refine Ls (Rdo.move rfl) (Ls (Rdo.extract rfl rfl) (Ls (Rdo.extract rfl rfl) (Ls (Rdo.assign rfl) (Ls (Rdo.assign rfl) (Lnt (Wsr (Ls (Rdo.move rfl) (Lnt ?_))))))))
          refine Wp.condF rfl ?_
          refine Wp.skip (Blk.n (Thn.n (Wp.region ?_)))
          refine Ls (Rdo.succ rfl rfl (by omega)) ?_
          refine Ls (Rdo.move rfl) (Lnt ?_)
          exact ⟨k2 - 1, _, _, by omega, ⟨1, by omega, fun _ => hs, by omega, by omega, by omega, rfl, rfl⟩, (by repeat (first | exact trivial | refine ⟨rfl, ?_⟩)), Gk⟩
        · obtain ⟨hst, hl2⟩ := hgo l2 y (by unfold RouS.step; rw [hs]; rfl)
          refine Wsr (Ls (Rdo.lti rfl rfl) (Lnt (Wp.seq ?_)))
          refine Wp.condT rfl ?_
          refine Wp.skip (Thn.n (Wp.seq (Wp.block (Wsr ?_))))
          refine Ls (Rdo.indexSliceE (i := 0) rfl rfl rfl (by first | omega | (simp <;> omega))) ?_
          refine Ls (Rdo.load rfl (Lds.one rfl)) (Ls (Rdo.assign rfl) (Lnt (Wsr (Ls (Rdo.move rfl) ?_))))
          refine WpL.step (Stp.callV rfl rfl (TripV.of_bound (by kernel_rfl) (R_settles_yes b x' m' M g1 hM l2 y hs)) (by repeat (first | exact Tk.nil | apply Tk.cons (by repeat (first | exact Pk.here | apply Pk.next)))) rfl ?_)
          rintro r _ ⟨m2, q, rfl, rfl⟩
          refine WpL.lst (by simp only [rouL, List.cons_append, List.nil_append]; exact rfl) ?_
          refine WpL.ghE (mr_open (p := q) (ms := l2) (by repeat (first | exact Pk.here | apply Pk.next))) ?_
          rintro css2 -
          refine WpL.get (p := fz (fun g => RdRows g css2 l2)) (by repeat (first | exact Pk.here | apply Pk.next)) rr_facts ?_
          rintro ⟨ho2, hc2⟩
          refine Ls (Rdo.move rfl) (Ls (Rdo.extract rfl rfl) (Ls (Rdo.extract rfl rfl) (Ls (Rdo.assign rfl) (Ls (Rdo.assign rfl) (Lnt (Wsr (Ls (Rdo.move rfl) (Lnt ?_))))))))
          refine Wp.condT rfl ?_
          refine Wsr (Ls (Rdo.move rfl) (Ls (Rdo.move rfl) ?_))
          (refine WpL.step (Stp.appendP rfl rfl (Pk.next (Pk.next (Pk.next (Pk.next (Pk.next (Pk.next (Pk.next (Pk.next (Pk.next (Pk.next (Pk.next (Pk.next (Pk.next (Pk.next (Pk.next (Pk.next Pk.here)))))))))))))))) Src.frozen (by first | rfl | assumption | (simp <;> done) | (simp <;> omega)) (by first | assumption | exact oneCells1 rfl | exact oneCells1 (by assumption) | exact oneCells_bytesC _ | exact oneCells_votesC _ | (simp [oneCells, Value.oneCell'] <;> done)) (by first | omega | (simp <;> omega)) (by first | omega | (simp <;> omega)) rfl (by first | rfl | (simp <;> done)) ?_); intro na17 nc17)
          refine Ls (Rdo.assign rfl) (Lnt (Wsr (Ls (Rdo.assign rfl) (Lnt ?_))))
          refine Wp.exit ?_
          refine Blk.other rfl ?_
          refine Thn.x ?_
          refine Thn.x ?_
          refine Blk.here ?_
          refine Blk.n (Thn.n ?_)
          refine ⟨j' + 1, _, _, by omega, ⟨j', M + 1, y, m2, true, .slice na17 (ms.length + l2.length) nc17, css ++ css2, ms ++ l2, hst, rfl, rfl⟩, (by repeat (first | exact trivial | refine ⟨rfl, ?_⟩)), ?_⟩
          rw [List.flatten_append, List.length_append]
          exact Gh.trans (rr_app (css := css) (ms := ms) (css' := css2) (ms' := l2) (by repeat (first | exact Pk.here | apply Pk.next)) (by repeat (first | exact Pk.here | apply Pk.next))) Gk
      | 1, hik, n1, n2, n3, n4 =>
        rcases opt_cases x'.prepares with hs | ⟨l2, y, hs⟩
        · refine Wsr (Ls (Rdo.lti rfl rfl) (Lnt (Wp.seq ?_)))
          refine Wp.condT rfl ?_
          refine Wp.skip (Thn.n (Wp.seq (Wp.block (Wsr ?_))))
          refine Ls (Rdo.indexSliceE (i := 1) rfl rfl rfl (by first | omega | (simp <;> omega))) ?_
          refine Ls (Rdo.load rfl (Lds.one rfl)) (Ls (Rdo.assign rfl) (Lnt (Wsr (Ls (Rdo.move rfl) ?_))))
          refine WpL.step (Stp.callV rfl rfl (TripV.of_bound (by kernel_rfl) (R_prepares_no b x' m' M g1 hM hs)) (by repeat (first | exact Tk.nil | apply Tk.cons (by repeat (first | exact Pk.here | apply Pk.next)))) rfl ?_)
          rintro r _ ⟨rfl, rfl⟩
          refine WpL.lst (by simp only [rouL, List.cons_append, List.nil_append]; exact rfl) ?_
          refine Ls (Rdo.move rfl) (Ls (Rdo.extract rfl rfl) (Ls (Rdo.extract rfl rfl) (Ls (Rdo.assign rfl) (Ls (Rdo.assign rfl) (Lnt (Wsr (Ls (Rdo.move rfl) (Lnt ?_))))))))
          refine Wp.condF rfl ?_
          refine Wp.skip (Blk.n (Thn.n (Wp.region ?_)))
          refine Ls (Rdo.succ rfl rfl (by omega)) ?_
          refine Ls (Rdo.move rfl) (Lnt ?_)
          exact ⟨k2 - 1, _, _, by omega, ⟨2, by omega, fun _ => n1 (by omega), fun _ => hs, by omega, by omega, rfl, rfl⟩, (by repeat (first | exact trivial | refine ⟨rfl, ?_⟩)), Gk⟩
        · obtain ⟨hst, hl2⟩ := hgo l2 y (by unfold RouS.step; rw [n1 (by omega), Option.none_or]; rw [hs]; rfl)
          refine Wsr (Ls (Rdo.lti rfl rfl) (Lnt (Wp.seq ?_)))
          refine Wp.condT rfl ?_
          refine Wp.skip (Thn.n (Wp.seq (Wp.block (Wsr ?_))))
          refine Ls (Rdo.indexSliceE (i := 1) rfl rfl rfl (by first | omega | (simp <;> omega))) ?_
          refine Ls (Rdo.load rfl (Lds.one rfl)) (Ls (Rdo.assign rfl) (Lnt (Wsr (Ls (Rdo.move rfl) ?_))))
          refine WpL.step (Stp.callV rfl rfl (TripV.of_bound (by kernel_rfl) (R_prepares_yes b x' m' M g1 hM l2 y hs)) (by repeat (first | exact Tk.nil | apply Tk.cons (by repeat (first | exact Pk.here | apply Pk.next)))) rfl ?_)
          rintro r _ ⟨m2, q, rfl, rfl⟩
          refine WpL.lst (by simp only [rouL, List.cons_append, List.nil_append]; exact rfl) ?_
          refine WpL.ghE (mr_open (p := q) (ms := l2) (by repeat (first | exact Pk.here | apply Pk.next))) ?_
          rintro css2 -
          refine WpL.get (p := fz (fun g => RdRows g css2 l2)) (by repeat (first | exact Pk.here | apply Pk.next)) rr_facts ?_
          rintro ⟨ho2, hc2⟩
          refine Ls (Rdo.move rfl) (Ls (Rdo.extract rfl rfl) (Ls (Rdo.extract rfl rfl) (Ls (Rdo.assign rfl) (Ls (Rdo.assign rfl) (Lnt (Wsr (Ls (Rdo.move rfl) (Lnt ?_))))))))
          refine Wp.condT rfl ?_
          refine Wsr (Ls (Rdo.move rfl) (Ls (Rdo.move rfl) ?_))
          (refine WpL.step (Stp.appendP rfl rfl (Pk.next (Pk.next (Pk.next (Pk.next (Pk.next (Pk.next (Pk.next (Pk.next (Pk.next (Pk.next (Pk.next (Pk.next (Pk.next (Pk.next (Pk.next (Pk.next Pk.here)))))))))))))))) Src.frozen (by first | rfl | assumption | (simp <;> done) | (simp <;> omega)) (by first | assumption | exact oneCells1 rfl | exact oneCells1 (by assumption) | exact oneCells_bytesC _ | exact oneCells_votesC _ | (simp [oneCells, Value.oneCell'] <;> done)) (by first | omega | (simp <;> omega)) (by first | omega | (simp <;> omega)) rfl (by first | rfl | (simp <;> done)) ?_); intro na17 nc17)
          refine Ls (Rdo.assign rfl) (Lnt (Wsr (Ls (Rdo.assign rfl) (Lnt ?_))))
          refine Wp.exit ?_
          refine Blk.other rfl ?_
          refine Thn.x ?_
          refine Thn.x ?_
          refine Blk.here ?_
          refine Blk.n (Thn.n ?_)
          refine ⟨j' + 1, _, _, by omega, ⟨j', M + 1, y, m2, true, .slice na17 (ms.length + l2.length) nc17, css ++ css2, ms ++ l2, hst, rfl, rfl⟩, (by repeat (first | exact trivial | refine ⟨rfl, ?_⟩)), ?_⟩
          rw [List.flatten_append, List.length_append]
          exact Gh.trans (rr_app (css := css) (ms := ms) (css' := css2) (ms' := l2) (by repeat (first | exact Pk.here | apply Pk.next)) (by repeat (first | exact Pk.here | apply Pk.next))) Gk
      | 2, hik, n1, n2, n3, n4 =>
        rcases opt_cases x'.commits with hs | ⟨l2, y, hs⟩
        · refine Wsr (Ls (Rdo.lti rfl rfl) (Lnt (Wp.seq ?_)))
          refine Wp.condT rfl ?_
          refine Wp.skip (Thn.n (Wp.seq (Wp.block (Wsr ?_))))
          refine Ls (Rdo.indexSliceE (i := 2) rfl rfl rfl (by first | omega | (simp <;> omega))) ?_
          refine Ls (Rdo.load rfl (Lds.one rfl)) (Ls (Rdo.assign rfl) (Lnt (Wsr (Ls (Rdo.move rfl) ?_))))
          refine WpL.step (Stp.callV rfl rfl (TripV.of_bound (by kernel_rfl) (R_commits_no b x' m' M g1 hM hs)) (by repeat (first | exact Tk.nil | apply Tk.cons (by repeat (first | exact Pk.here | apply Pk.next)))) rfl ?_)
          rintro r _ ⟨rfl, rfl⟩
          refine WpL.lst (by simp only [rouL, List.cons_append, List.nil_append]; exact rfl) ?_
          refine Ls (Rdo.move rfl) (Ls (Rdo.extract rfl rfl) (Ls (Rdo.extract rfl rfl) (Ls (Rdo.assign rfl) (Ls (Rdo.assign rfl) (Lnt (Wsr (Ls (Rdo.move rfl) (Lnt ?_))))))))
          refine Wp.condF rfl ?_
          refine Wp.skip (Blk.n (Thn.n (Wp.region ?_)))
          refine Ls (Rdo.succ rfl rfl (by omega)) ?_
          refine Ls (Rdo.move rfl) (Lnt ?_)
          exact ⟨k2 - 1, _, _, by omega, ⟨3, by omega, fun _ => n1 (by omega), fun _ => n2 (by omega), fun _ => hs, by omega, rfl, rfl⟩, (by repeat (first | exact trivial | refine ⟨rfl, ?_⟩)), Gk⟩
        · obtain ⟨hst, hl2⟩ := hgo l2 y (by unfold RouS.step; rw [n1 (by omega), Option.none_or]; rw [n2 (by omega), Option.none_or]; rw [hs]; rfl)
          refine Wsr (Ls (Rdo.lti rfl rfl) (Lnt (Wp.seq ?_)))
          refine Wp.condT rfl ?_
          refine Wp.skip (Thn.n (Wp.seq (Wp.block (Wsr ?_))))
          refine Ls (Rdo.indexSliceE (i := 2) rfl rfl rfl (by first | omega | (simp <;> omega))) ?_
          refine Ls (Rdo.load rfl (Lds.one rfl)) (Ls (Rdo.assign rfl) (Lnt (Wsr (Ls (Rdo.move rfl) ?_))))
          refine WpL.step (Stp.callV rfl rfl (TripV.of_bound (by kernel_rfl) (R_commits_yes b x' m' M g1 hM l2 y hs)) (by repeat (first | exact Tk.nil | apply Tk.cons (by repeat (first | exact Pk.here | apply Pk.next)))) rfl ?_)
          rintro r _ ⟨m2, q, rfl, rfl⟩
          refine WpL.lst (by simp only [rouL, List.cons_append, List.nil_append]; exact rfl) ?_
          refine WpL.ghE (mr_open (p := q) (ms := l2) (by repeat (first | exact Pk.here | apply Pk.next))) ?_
          rintro css2 -
          refine WpL.get (p := fz (fun g => RdRows g css2 l2)) (by repeat (first | exact Pk.here | apply Pk.next)) rr_facts ?_
          rintro ⟨ho2, hc2⟩
          refine Ls (Rdo.move rfl) (Ls (Rdo.extract rfl rfl) (Ls (Rdo.extract rfl rfl) (Ls (Rdo.assign rfl) (Ls (Rdo.assign rfl) (Lnt (Wsr (Ls (Rdo.move rfl) (Lnt ?_))))))))
          refine Wp.condT rfl ?_
          refine Wsr (Ls (Rdo.move rfl) (Ls (Rdo.move rfl) ?_))
          (refine WpL.step (Stp.appendP rfl rfl (Pk.next (Pk.next (Pk.next (Pk.next (Pk.next (Pk.next (Pk.next (Pk.next (Pk.next (Pk.next (Pk.next (Pk.next (Pk.next (Pk.next (Pk.next (Pk.next Pk.here)))))))))))))))) Src.frozen (by first | rfl | assumption | (simp <;> done) | (simp <;> omega)) (by first | assumption | exact oneCells1 rfl | exact oneCells1 (by assumption) | exact oneCells_bytesC _ | exact oneCells_votesC _ | (simp [oneCells, Value.oneCell'] <;> done)) (by first | omega | (simp <;> omega)) (by first | omega | (simp <;> omega)) rfl (by first | rfl | (simp <;> done)) ?_); intro na17 nc17)
          refine Ls (Rdo.assign rfl) (Lnt (Wsr (Ls (Rdo.assign rfl) (Lnt ?_))))
          refine Wp.exit ?_
          refine Blk.other rfl ?_
          refine Thn.x ?_
          refine Thn.x ?_
          refine Blk.here ?_
          refine Blk.n (Thn.n ?_)
          refine ⟨j' + 1, _, _, by omega, ⟨j', M + 1, y, m2, true, .slice na17 (ms.length + l2.length) nc17, css ++ css2, ms ++ l2, hst, rfl, rfl⟩, (by repeat (first | exact trivial | refine ⟨rfl, ?_⟩)), ?_⟩
          rw [List.flatten_append, List.length_append]
          exact Gh.trans (rr_app (css := css) (ms := ms) (css' := css2) (ms' := l2) (by repeat (first | exact Pk.here | apply Pk.next)) (by repeat (first | exact Pk.here | apply Pk.next))) Gk
      | 3, hik, n1, n2, n3, n4 =>
        rcases opt_cases x'.proposes with hs | ⟨l2, y, hs⟩
        · refine Wsr (Ls (Rdo.lti rfl rfl) (Lnt (Wp.seq ?_)))
          refine Wp.condT rfl ?_
          refine Wp.skip (Thn.n (Wp.seq (Wp.block (Wsr ?_))))
          refine Ls (Rdo.indexSliceE (i := 3) rfl rfl rfl (by first | omega | (simp <;> omega))) ?_
          refine Ls (Rdo.load rfl (Lds.one rfl)) (Ls (Rdo.assign rfl) (Lnt (Wsr (Ls (Rdo.move rfl) ?_))))
          refine WpL.step (Stp.callV rfl rfl (TripV.of_bound (by kernel_rfl) (R_proposes_no b x' m' M g1 hM hs)) (by repeat (first | exact Tk.nil | apply Tk.cons (by repeat (first | exact Pk.here | apply Pk.next)))) rfl ?_)
          rintro r _ ⟨rfl, rfl⟩
          refine WpL.lst (by simp only [rouL, List.cons_append, List.nil_append]; exact rfl) ?_
          refine Ls (Rdo.move rfl) (Ls (Rdo.extract rfl rfl) (Ls (Rdo.extract rfl rfl) (Ls (Rdo.assign rfl) (Ls (Rdo.assign rfl) (Lnt (Wsr (Ls (Rdo.move rfl) (Lnt ?_))))))))
          refine Wp.condF rfl ?_
          refine Wp.skip (Blk.n (Thn.n (Wp.region ?_)))
          refine Ls (Rdo.succ rfl rfl (by omega)) ?_
          refine Ls (Rdo.move rfl) (Lnt ?_)
          exact ⟨k2 - 1, _, _, by omega, ⟨4, by omega, fun _ => n1 (by omega), fun _ => n2 (by omega), fun _ => n3 (by omega), fun _ => hs, rfl, rfl⟩, (by repeat (first | exact trivial | refine ⟨rfl, ?_⟩)), Gk⟩
        · obtain ⟨hst, hl2⟩ := hgo l2 y (by unfold RouS.step; rw [n1 (by omega), Option.none_or]; rw [n2 (by omega), Option.none_or]; rw [n3 (by omega), Option.none_or]; exact hs)
          refine Wsr (Ls (Rdo.lti rfl rfl) (Lnt (Wp.seq ?_)))
          refine Wp.condT rfl ?_
          refine Wp.skip (Thn.n (Wp.seq (Wp.block (Wsr ?_))))
          refine Ls (Rdo.indexSliceE (i := 3) rfl rfl rfl (by first | omega | (simp <;> omega))) ?_
          refine Ls (Rdo.load rfl (Lds.one rfl)) (Ls (Rdo.assign rfl) (Lnt (Wsr (Ls (Rdo.move rfl) ?_))))
          refine WpL.step (Stp.callV rfl rfl (TripV.of_bound (by kernel_rfl) (R_proposes_yes b x' m' M g1 hM l2 y hs)) (by repeat (first | exact Tk.nil | apply Tk.cons (by repeat (first | exact Pk.here | apply Pk.next)))) rfl ?_)
          rintro r _ ⟨m2, q, rfl, rfl⟩
          refine WpL.lst (by simp only [rouL, List.cons_append, List.nil_append]; exact rfl) ?_
          refine WpL.ghE (mr_open (p := q) (ms := l2) (by repeat (first | exact Pk.here | apply Pk.next))) ?_
          rintro css2 -
          refine WpL.get (p := fz (fun g => RdRows g css2 l2)) (by repeat (first | exact Pk.here | apply Pk.next)) rr_facts ?_
          rintro ⟨ho2, hc2⟩
          refine Ls (Rdo.move rfl) (Ls (Rdo.extract rfl rfl) (Ls (Rdo.extract rfl rfl) (Ls (Rdo.assign rfl) (Ls (Rdo.assign rfl) (Lnt (Wsr (Ls (Rdo.move rfl) (Lnt ?_))))))))
          refine Wp.condT rfl ?_
          refine Wsr (Ls (Rdo.move rfl) (Ls (Rdo.move rfl) ?_))
          (refine WpL.step (Stp.appendP rfl rfl (Pk.next (Pk.next (Pk.next (Pk.next (Pk.next (Pk.next (Pk.next (Pk.next (Pk.next (Pk.next (Pk.next (Pk.next (Pk.next (Pk.next (Pk.next (Pk.next Pk.here)))))))))))))))) Src.frozen (by first | rfl | assumption | (simp <;> done) | (simp <;> omega)) (by first | assumption | exact oneCells1 rfl | exact oneCells1 (by assumption) | exact oneCells_bytesC _ | exact oneCells_votesC _ | (simp [oneCells, Value.oneCell'] <;> done)) (by first | omega | (simp <;> omega)) (by first | omega | (simp <;> omega)) rfl (by first | rfl | (simp <;> done)) ?_); intro na17 nc17)
          refine Ls (Rdo.assign rfl) (Lnt (Wsr (Ls (Rdo.assign rfl) (Lnt ?_))))
          refine Wp.exit ?_
          refine Blk.other rfl ?_
          refine Thn.x ?_
          refine Thn.x ?_
          refine Blk.here ?_
          refine Blk.n (Thn.n ?_)
          refine ⟨j' + 1, _, _, by omega, ⟨j', M + 1, y, m2, true, .slice na17 (ms.length + l2.length) nc17, css ++ css2, ms ++ l2, hst, rfl, rfl⟩, (by repeat (first | exact trivial | refine ⟨rfl, ?_⟩)), ?_⟩
          rw [List.flatten_append, List.length_append]
          exact Gh.trans (rr_app (css := css) (ms := ms) (css' := css2) (ms' := l2) (by repeat (first | exact Pk.here | apply Pk.next)) (by repeat (first | exact Pk.here | apply Pk.next))) Gk
      | 4, hik, n1, n2, n3, n4 =>
        have hs : x'.step = none := by unfold RouS.step; rw [n1 (by omega), n2 (by omega), n3 (by omega), n4 (by omega)]; rfl
        rw [steps_none _ hs] at e1 e2
        simp only [List.append_nil] at e1 e2
        refine Wsr (Ls (Rdo.lti rfl rfl) (Lnt (Wp.seq ?_)))
        refine Wp.condF rfl ?_
        refine Wp.exit ?_
        refine Thn.x ?_
        refine Thn.x ?_
        refine Blk.here ?_
        refine Blk.n (Thn.n ?_)
        exact ⟨0, _, _, by omega, ⟨0, M, x', m', false, .slice a0 ms.length c0, css, ms, ⟨g1, by omega, by omega, fun h => absurd h (by decide), fun _ => ⟨e1, e2⟩⟩, rfl, rfl⟩, (by repeat (first | exact trivial | refine ⟨rfl, ?_⟩)), Gk⟩
      | i + 5, hik, n1, n2, n3, n4 => exact absurd hik (by omega)
end Go.Proofs.YtomijhgicennbaaGreat
namespace Go.Proofs.YtomijhgicennbaaGreat
open Go
set_option maxHeartbeats 4000000
set_option linter.unusedSimpArgs false
set_option linter.unusedVariables false
set_option maxRecDepth 20000
def RouS.wanted (x : RouS) (b : List UInt8) : RouS := if 0 < b.length ∧ b.length ≤ 200 then { x with want := b } else x
def RouS.Want (x : RouS) (b : List UInt8) : List Msg × RouS := if x.decided = true then ([], x) else (x.wanted b).steps 5
theorem wanted_OK {x : RouS} {N : Nat} {b : List UInt8} (h : RouOK x N) : RouOK (x.wanted b) N := by
  unfold RouS.wanted
  split
  · rename_i hb
    exact ⟨h.keys, h.me, h.view, h.vals, h.val, h.props, h.prop, h.prep, h.comm, h.stats, h.lock, by simp only; omega, h.value, h.why⟩
  · exact h
theorem Want_ok (b : Nat) (x : RouS) (m : RouM) (N : Nat) (ho : RouOK x N) (hN : N ≤ 90000) (p : Option Addr × Nat) (v : List UInt8) (hv : v.length ≤ 1000000) :
    Trip Tryz.prog 17 [vp b 0, .slice p.1 v.length p.2] (rouL b x m ++ [bsF p v]) (fun r l => ∃ (m' : RouM) (q : Option Addr × Nat), r = .slice q.1 (x.Want v).1.length q.2 ∧ l = rouL b (x.Want v).2 m' ++ [mrF q (x.Want v).1, bsF p v]) := by
  unfold RouS.Want
  cases hd : x.decided with
  | true =>
    simp only [rouL, if_true, List.cons_append, List.nil_append]
    have hd' : x.decided = true := hd
    refine Trip.of_body Tryz.func17 rfl Tryz.ntmps17 Tryz.results17 rfl ?_
    refine Wsr (Ls (Rdo.assign rfl) (Lnt (Wp.seq (Wsr (Ls (Rdo.move rfl) (Ls (Rdo.eqnil rfl rfl) (Ls (Rdo.move rfl) (Lw rfl rfl (Rdo.move rfl) (Lw rfl rfl (Rdo.nilCheck rfl) (Lw rfl rfl (Rdo.fieldAddr0 rfl) (Lw rfl rfl (Rdo.load rfl (Lds.one rfl)) (Ls (Rdo.pick_f rfl rfl) (Lnt ?_)))))))))))))
    refine cK rfl (Wsr (Ls (Rdo.assign rfl) (Lnt (Wp.ret ?_))))
    refine Thn.r ?_
    exact Ret.now (l' := rouL b x m ++ [mrF (none, 0) [], bsF p v]) (by repeat (first | exact ResV.nil | apply ResV.tmp rfl | apply ResV.cell rfl (by repeat (first | exact Lds.one rfl | (apply Lds.all; (first | rfl | assumption | (simp <;> fail))) | exact Lds.ione0 | exact Lds.ione rfl | (apply Lds.iall; (first | rfl | assumption | (simp <;> fail))) | apply Lds.next)))) (Gh.trans (mr_nil (none, 0)) Gk) ⟨m, (none, 0), rfl, rfl⟩
  | false =>
    simp only [Bool.false_eq_true, if_false]
    have hd' : x.decided = false := hd
    unfold RouS.wanted
    by_cases h1 : 0 < v.length
    · by_cases h2 : v.length ≤ 200
      · rw [if_pos ⟨h1, h2⟩]
        have h1' : (0 : Int) < v.length := by omega
        have h2' : (v.length : Int) ≤ 200 := by omega
        have s1 := bclone_ok p.1 p.2 v (by omega)
        have hO := wanted_OK (b := v) ho
        unfold RouS.wanted at hO
        rw [if_pos ⟨h1, h2⟩] at hO
        have s2 := fun wt => steps_ok b { x with want := v } { m with wt := wt } N hO hN
        simp only [rouL, List.cons_append, List.nil_append] at *
        refine Trip.of_body Tryz.func17 rfl Tryz.ntmps17 Tryz.results17 rfl ?_
        refine Wsr (Ls (Rdo.assign rfl) (Lnt (Wp.seq (Wsr (Ls (Rdo.move rfl) (Ls (Rdo.eqnil rfl rfl) (Ls (Rdo.move rfl) (Lw rfl rfl (Rdo.move rfl) (Lw rfl rfl (Rdo.nilCheck rfl) (Lw rfl rfl (Rdo.fieldAddr0 rfl) (Lw rfl rfl (Rdo.load rfl (Lds.one rfl)) (Ls (Rdo.pick_f rfl rfl) (Lnt ?_)))))))))))))
        refine cL rfl (Wp.skip (Thn.n (Wp.seq (Wsr (Ls (Rdo.move rfl) (Ls (Rdo.lenSlice rfl) (Ls (Rdo.gti rfl rfl) (Ls (Rdo.move rfl) (Lg rfl rfl (Lw rfl rfl (Rdo.move rfl) (Lw rfl rfl (Rdo.lenSlice rfl) (Lw rfl rfl (Rdo.lei rfl rfl) (Ls (Rdo.pick_t rfl rfl) ?_)))))))))))))
        refine Lnt (cK rfl (Wp.region (Ls (Rdo.move rfl) (Ls (Rdo.move rfl) ?_))))
        refine WpL.step (Sc (s1) rfl ?_)
        rintro _ _ ⟨v40_0, ⟨v40_1, ⟨rfl, rfl⟩⟩⟩
        refine Ll ?_
        refine Ls (Rdo.nilCheck rfl) (Ls (Rdo.fieldAddr0 rfl) ?_)
        refine WpL.step (Stp.storeV rfl rfl (VC.sl _ _ _) rfl (Sts.next (Sts.next (Sp (oneCells1 rfl)))) ?_)
        refine Lnt (Wsr (Ls (Rdo.move rfl) ?_))
        refine WpL.step (Stp.call (s2 (v40_0, v40_1)) (by kernel_rfl) rfl (Tk.cons (Pk.next (Pk.next Pk.here)) (by repeat (first | exact Tk.nil | apply Tk.cons (by repeat (first | exact Pk.here | apply Pk.next))))) rfl ?_)
        rintro r _ ⟨m2, q, rfl, rfl⟩
        refine Ll ?_
        refine Ls (Rdo.assign rfl) (Lnt (Wp.ret ?_))
        refine Rt (ResV.tmp rfl ResV.nil) ⟨_, ⟨_, ⟨rfl, rfl⟩⟩⟩
      · rw [if_neg (by omega)]
        have h1' : (0 : Int) < v.length := by omega
        have h2' : ¬ (v.length : Int) ≤ 200 := by omega
        have s2 := steps_ok b x m N ho hN
        simp only [rouL, List.cons_append, List.nil_append] at *
        refine Trip.of_body Tryz.func17 rfl Tryz.ntmps17 Tryz.results17 rfl ?_
        refine Wsr (Ls (Rdo.assign rfl) (Lnt (Wp.seq (Wsr (Ls (Rdo.move rfl) (Ls (Rdo.eqnil rfl rfl) (Ls (Rdo.move rfl) (Lw rfl rfl (Rdo.move rfl) (Lw rfl rfl (Rdo.nilCheck rfl) (Lw rfl rfl (Rdo.fieldAddr0 rfl) (Lw rfl rfl (Rdo.load rfl (Lds.one rfl)) (Ls (Rdo.pick_f rfl rfl) (Lnt ?_)))))))))))))
        refine cL rfl (Wp.skip (Thn.n (Wp.seq (Wsr (Ls (Rdo.move rfl) (Ls (Rdo.lenSlice rfl) (Ls (Rdo.gti rfl rfl) (Ls (Rdo.move rfl) (Lg rfl rfl (Lw rfl rfl (Rdo.move rfl) (Lw rfl rfl (Rdo.lenSlice rfl) (Lw rfl rfl (Rdo.lei rfl rfl) (Ls (Rdo.pick_t rfl rfl) ?_)))))))))))))
        refine Lnt (cL rfl (Wp.skip (Thn.n (Wsr (Ls (Rdo.move rfl) ?_)))))
        refine WpL.step (Sc (s2) rfl ?_)
        rintro _ _ ⟨v42_0, ⟨v42_1, ⟨rfl, rfl⟩⟩⟩
        refine Ll ?_
        refine Ls (Rdo.assign rfl) (Lnt (Wp.ret ?_))
        refine Rt (ResV.tmp rfl ResV.nil) ⟨_, ⟨_, ⟨rfl, rfl⟩⟩⟩
    · rw [if_neg (by omega)]
      have h1' : ¬ (0 : Int) < v.length := by omega
      have s2 := steps_ok b x m N ho hN
      simp only [rouL, List.cons_append, List.nil_append] at *
      refine Trip.of_body Tryz.func17 rfl Tryz.ntmps17 Tryz.results17 rfl ?_
      refine Wsr (Ls (Rdo.assign rfl) (Lnt (Wp.seq (Wsr (Ls (Rdo.move rfl) (Ls (Rdo.eqnil rfl rfl) (Ls (Rdo.move rfl) (Lw rfl rfl (Rdo.move rfl) (Lw rfl rfl (Rdo.nilCheck rfl) (Lw rfl rfl (Rdo.fieldAddr0 rfl) (Lw rfl rfl (Rdo.load rfl (Lds.one rfl)) (Ls (Rdo.pick_f rfl rfl) (Lnt ?_)))))))))))))
      refine cL rfl (Wp.skip (Thn.n (Wp.seq (Wsr (Ls (Rdo.move rfl) (Ls (Rdo.lenSlice rfl) (Ls (Rdo.gti rfl rfl) (Ls (Rdo.move rfl) (Lf rfl rfl (Lp rfl rfl (Lp rfl rfl (Lp rfl rfl (Ls (Rdo.pick_f rfl rfl) ?_)))))))))))))
      refine Lnt ?_
      refine Wp.condF rfl ?_
      refine Wp.skip (Thn.n (Wsr (Ls (Rdo.move rfl) ?_)))
      refine WpL.step (Sc (s2) rfl ?_)
      rintro _ _ ⟨v42_0, ⟨v42_1, ⟨rfl, rfl⟩⟩⟩
      refine Ll ?_
      refine Ls (Rdo.assign rfl) (Lnt (Wp.ret ?_))
      refine Rt (ResV.tmp rfl ResV.nil) ⟨_, ⟨_, ⟨rfl, rfl⟩⟩⟩
theorem Decided_ok (b : Nat) (x : RouS) (m : RouM) (hv : x.value.length ≤ 1000000) (hn : x.why.length ≤ 1000000) : Trip Tryz.prog 28 [vp b 0] [cel b rT (rouX x m), bsF m.dx.1 x.value, vsF m.dx.2 x.why]
    (fun r l => ∃ y : PX, r = .tuple #[.slice y.1.1 x.value.length y.1.2, .slice y.2.1 x.why.length y.2.2, vb x.decided] ∧ l = [cel b rT (rouX x m), bsF m.dx.1 x.value, vsF m.dx.2 x.why, bsF y.1 x.value, vsF y.2 x.why]) := by
  have s1 := bclone_ok m.dx.1.1 m.dx.1.2 x.value (by omega)
  have s2 := vclone_ok m.dx.2.1 m.dx.2.2 x.why (by omega)
  refine Trip.of_body Tryz.func28 rfl Tryz.ntmps28 Tryz.results28 rfl ?_
  refine Wsr (Ls (Rdo.assign rfl) (Ls (Rdo.assign rfl) (Ls (Rdo.assign rfl) (Lnt (Wp.seq (Wsr (Ls (Rdo.move rfl) (Ls (Rdo.eqnil rfl rfl) (Lnt ?_)))))))))
  refine Wp.condF rfl ?_
  refine Wp.skip (Thn.n (Wp.seq ?_))
  refine Wp.draw (by kernel_rfl) ?_
  refine Qt (i := 0) rfl (Rdo.move rfl) (Qt (i := 1) rfl (Rdo.nilCheck rfl) (Qt (i := 2) rfl (Rdo.fieldAddr0 rfl) (Qt (i := 5) rfl (Rdo.move rfl) (Qt (i := 6) rfl (Rdo.nilCheck rfl) (Qt (i := 7) rfl (Rdo.fieldAddr0 rfl) (Qt (i := 10) rfl (Rdo.move rfl) (Qt (i := 11) rfl (Rdo.nilCheck rfl) (Qt (i := 12) rfl (Rdo.fieldAddr0 rfl) ?_))))))))
  refine WpR.load (i := 3) [8, 13] rfl (by kernel_rfl) (by kernel_rfl) (by kernel_rfl) (by kernel_rfl) (by kernel_rfl) rfl Tk.rfl_ (Harm.rd rfl (Rdo.load rfl (Lds.one rfl)) (Harm.rd rfl (Rdo.load rfl (Lds.one rfl)) Harm.nil)) (Rdo.load rfl (Lds.one rfl)) rfl ?_
  refine WpR.phaseL (m := 0) #[true, true, true, true, true, true, true, true, true, true, true, true, true, true, true, true, true] 7 _ rfl (by kernel_rfl) (Tk.cons Pk.here Tk.nil) ?_
  refine At (i := 8) rfl (Rdo.load rfl (Lds.one rfl)) (At (i := 13) rfl (Rdo.load rfl (Lds.one rfl)) ?_)
  refine WpA.one (i := 4) rfl (by kernel_rfl) (Sc (s1) rfl ?_)
  rintro _ _ ⟨v33_0, ⟨v33_1, ⟨rfl, rfl⟩⟩⟩
  refine WpA.lst (by simp only [List.cons_append, List.nil_append]; exact rfl) ?_
  refine WpA.one (i := 9) rfl (by kernel_rfl) (Sc (s2) rfl ?_)
  rintro _ _ ⟨v36_0, ⟨v36_1, ⟨rfl, rfl⟩⟩⟩
  refine WpA.lst (by simp only [List.cons_append, List.nil_append]; exact rfl) ?_
  refine At (i := 14) rfl (Rdo.assign rfl) (At (i := 15) rfl (Rdo.assign rfl) (At (i := 16) rfl (Rdo.assign rfl) ?_))
  refine WpA.stop (by kernel_rfl) ?_
  refine Ql ?_
  refine WpR.done (by kernel_rfl) ?_
  refine Thn.n (Wp.ret ?_)
  exact Ret.now (l' := [cel b rT (rouX x m), bsF m.dx.1 x.value, vsF m.dx.2 x.why, bsF (v33_0, v33_1) x.value, vsF (v36_0, v36_1) x.why]) (by repeat (first | exact ResV.nil | apply ResV.tmp rfl | apply ResV.cell rfl (by repeat (first | exact Lds.one rfl | (apply Lds.all; (first | rfl | assumption | (simp <;> fail))) | exact Lds.ione0 | exact Lds.ione rfl | (apply Lds.iall; (first | rfl | assumption | (simp <;> fail))) | apply Lds.next)))) Gk ⟨((v33_0, v33_1), (v36_0, v36_1)), rfl, rfl⟩
theorem New_ok (rb : Nat) (keys : List Hash) (me slot : Int) : Trip Tryz.prog 15 [vp rb 0, vi me, vi slot] [ringF rb keys] (fun r l => ∃ (b : Nat) (m : RouM), r = vp b 0 ∧ l = rouL b (RouS.new keys me slot) m ++ [ringF rb keys]) := by
  have s1 := free_ok
  have s2 := tm_new
  have s3 := Tabbal.new_ok
  have s4 := Tabsta.new_ok
  refine Trip.of_body Tryz.func15 rfl Tryz.ntmps15 Tryz.results15 rfl ?_
  refine Wsr (Ls (Rdo.assign rfl) (Lnt (Wsr (Ls (Rdo.move rfl) (Ls (Rdo.move rfl) (Ls (Rdo.move rfl) ?_))))))
  refine WpL.step (Sc (s1) rfl ?_)
  rintro _ _ ⟨rfl, rfl⟩
  refine Ll ?_
  refine WpL.step (Sc (s2) rfl ?_)
  rintro _ _ ⟨v14_0, ⟨rfl, rfl⟩⟩
  refine Ll ?_
  refine WpL.step (Sc (s4) rfl ?_)
  rintro _ _ ⟨v17_0, ⟨v17_1, ⟨rfl, rfl⟩⟩⟩
  refine Ll ?_
  refine WpL.step (Sc (s3) rfl ?_)
  rintro _ _ ⟨v20_0, ⟨v20_1, ⟨rfl, rfl⟩⟩⟩
  refine Ll ?_
  refine WpL.step (Sc (s3) rfl ?_)
  rintro _ _ ⟨v23_0, ⟨v23_1, ⟨rfl, rfl⟩⟩⟩
  refine Ll ?_
  refine Ls (Rdo.bldArr1 rfl rfl) ?_
  refine Ls (Rdo.bld rfl (BldL.cons rfl (VC.p _) (by first | rfl | assumption | (simp <;> done)) (by repeat (first | exact LPut.nil _ | (refine LPut.seg ?_; first | assumption | (simp <;> done)) | (refine LPut.segEnd ?_; first | assumption | (simp <;> done)) | (with_reducible apply LPut.here) | apply LPut.hereL | apply LPut.here | (apply LPut.over32; focus (first | assumption | (simp <;> done))) | (with_reducible apply LPut.next) | apply LPut.nextL | apply LPut.next)) (BldL.cons rfl (VC.i _ _) (by first | rfl | assumption | (simp <;> done)) (by repeat (first | exact LPut.nil _ | (refine LPut.seg ?_; first | assumption | (simp <;> done)) | (refine LPut.segEnd ?_; first | assumption | (simp <;> done)) | (with_reducible apply LPut.here) | apply LPut.hereL | apply LPut.here | (apply LPut.over32; focus (first | assumption | (simp <;> done))) | (with_reducible apply LPut.next) | apply LPut.nextL | apply LPut.next)) (BldL.cons rfl (VC.i _ _) (by first | rfl | assumption | (simp <;> done)) (by repeat (first | exact LPut.nil _ | (refine LPut.seg ?_; first | assumption | (simp <;> done)) | (refine LPut.segEnd ?_; first | assumption | (simp <;> done)) | (with_reducible apply LPut.here) | apply LPut.hereL | apply LPut.here | (apply LPut.over32; focus (first | assumption | (simp <;> done))) | (with_reducible apply LPut.next) | apply LPut.nextL | apply LPut.next)) (BldL.cons rfl (VC.ag _) (by first | rfl | assumption | (simp <;> done)) (by repeat (first | exact LPut.nil _ | (refine LPut.seg ?_; first | assumption | (simp <;> done)) | (refine LPut.segEnd ?_; first | assumption | (simp <;> done)) | (with_reducible apply LPut.here) | apply LPut.hereL | apply LPut.here | (apply LPut.over32; focus (first | assumption | (simp <;> done))) | (with_reducible apply LPut.next) | apply LPut.nextL | apply LPut.next)) (BldL.cons rfl (VC.p _) (by first | rfl | assumption | (simp <;> done)) (by repeat (first | exact LPut.nil _ | (refine LPut.seg ?_; first | assumption | (simp <;> done)) | (refine LPut.segEnd ?_; first | assumption | (simp <;> done)) | (with_reducible apply LPut.here) | apply LPut.hereL | apply LPut.here | (apply LPut.over32; focus (first | assumption | (simp <;> done))) | (with_reducible apply LPut.next) | apply LPut.nextL | apply LPut.next)) (BldL.cons rfl (VC.p _) (by first | rfl | assumption | (simp <;> done)) (by repeat (first | exact LPut.nil _ | (refine LPut.seg ?_; first | assumption | (simp <;> done)) | (refine LPut.segEnd ?_; first | assumption | (simp <;> done)) | (with_reducible apply LPut.here) | apply LPut.hereL | apply LPut.here | (apply LPut.over32; focus (first | assumption | (simp <;> done))) | (with_reducible apply LPut.next) | apply LPut.nextL | apply LPut.next)) (BldL.cons rfl (VC.ag _) (by first | rfl | assumption | (simp <;> done)) (by repeat (first | exact LPut.nil _ | (refine LPut.seg ?_; first | assumption | (simp <;> done)) | (refine LPut.segEnd ?_; first | assumption | (simp <;> done)) | (with_reducible apply LPut.here) | apply LPut.hereL | apply LPut.here | (apply LPut.over32; focus (first | assumption | (simp <;> done))) | (with_reducible apply LPut.next) | apply LPut.nextL | apply LPut.next)) (BldL.cons rfl (VC.i _ _) (by first | rfl | assumption | (simp <;> done)) (by repeat (first | exact LPut.nil _ | (refine LPut.seg ?_; first | assumption | (simp <;> done)) | (refine LPut.segEnd ?_; first | assumption | (simp <;> done)) | (with_reducible apply LPut.here) | apply LPut.hereL | apply LPut.here | (apply LPut.over32; focus (first | assumption | (simp <;> done))) | (with_reducible apply LPut.next) | apply LPut.nextL | apply LPut.next)) (BldL.cons rfl (VC.i _ _) (by first | rfl | assumption | (simp <;> done)) (by repeat (first | exact LPut.nil _ | (refine LPut.seg ?_; first | assumption | (simp <;> done)) | (refine LPut.segEnd ?_; first | assumption | (simp <;> done)) | (with_reducible apply LPut.here) | apply LPut.hereL | apply LPut.here | (apply LPut.over32; focus (first | assumption | (simp <;> done))) | (with_reducible apply LPut.next) | apply LPut.nextL | apply LPut.next)) (BldL.cons rfl (VC.i _ _) (by first | rfl | assumption | (simp <;> done)) (by repeat (first | exact LPut.nil _ | (refine LPut.seg ?_; first | assumption | (simp <;> done)) | (refine LPut.segEnd ?_; first | assumption | (simp <;> done)) | (with_reducible apply LPut.here) | apply LPut.hereL | apply LPut.here | (apply LPut.over32; focus (first | assumption | (simp <;> done))) | (with_reducible apply LPut.next) | apply LPut.nextL | apply LPut.next)) (BldL.nil _)))))))))))) ?_
  (refine WpL.step (Stp.boxV rfl (VC.ag _) rfl ?_); intro nb27)
  refine Ls (Rdo.assign rfl) (Lnt (Wp.ret ?_))
  refine Ret.now (l' := rouL nb27 (RouS.new keys me slot) ⟨rb, v14_0, v20_0, v23_0, v17_0, ((none, 0), (none, 0)), (none, 0), (none, 0), ((none, 0), (none, 0)), []⟩ ++ [ringF rb keys]) (by repeat (first | exact ResV.nil | apply ResV.tmp rfl | apply ResV.cell rfl (by repeat (first | exact Lds.one rfl | (apply Lds.all; (first | rfl | assumption | (simp <;> fail))) | exact Lds.ione0 | exact Lds.ione rfl | (apply Lds.iall; (first | rfl | assumption | (simp <;> fail))) | apply Lds.next)))) ?_ ⟨nb27, ⟨rb, v14_0, v20_0, v23_0, v17_0, ((none, 0), (none, 0)), (none, 0), (none, 0), ((none, 0), (none, 0)), []⟩, rfl, rfl⟩
  refine Gh.trans (Gh.tk (l' := [cel v23_0 tbT [.map (some v23_1)], mapA i64 v23_1 [], cel v20_0 tbT [.map (some v20_1)], mapA i64 v20_1 [], cel v17_0 tsT [.map (some v17_1)], mapA i64 v17_1 [], cel nb27 rT (rouX (RouS.new keys me slot) ⟨rb, v14_0, v20_0, v23_0, v17_0, ((none, 0), (none, 0)), (none, 0), (none, 0), ((none, 0), (none, 0)), []⟩), tmA v14_0 [], ringF rb keys]) (by repeat (first | exact Tk.nil | apply Tk.cons (by repeat (first | exact Pk.here | apply Pk.next))))) ?_
  refine Gh.trans (tp_nil (A := balA)) ?_
  refine Gh.trans (Gh.tk (l' := [cel v20_0 tbT [.map (some v20_1)], mapA i64 v20_1 [], cel v17_0 tsT [.map (some v17_1)], mapA i64 v17_1 [], cel nb27 rT (rouX (RouS.new keys me slot) ⟨rb, v14_0, v20_0, v23_0, v17_0, ((none, 0), (none, 0)), (none, 0), (none, 0), ((none, 0), (none, 0)), []⟩), tmA v14_0 [], ringF rb keys, tbA v23_0 []]) (by repeat (first | exact Tk.nil | apply Tk.cons (by repeat (first | exact Pk.here | apply Pk.next))))) ?_
  refine Gh.trans (tp_nil (A := balA)) ?_
  refine Gh.trans (Gh.tk (l' := [cel v17_0 tsT [.map (some v17_1)], mapA i64 v17_1 [], cel nb27 rT (rouX (RouS.new keys me slot) ⟨rb, v14_0, v20_0, v23_0, v17_0, ((none, 0), (none, 0)), (none, 0), (none, 0), ((none, 0), (none, 0)), []⟩), tmA v14_0 [], ringF rb keys, tbA v23_0 [], tbA v20_0 []]) (by repeat (first | exact Tk.nil | apply Tk.cons (by repeat (first | exact Pk.here | apply Pk.next))))) ?_
  refine Gh.trans (tp_nil (A := tmA)) ?_
  refine Gh.trans (Gh.fzAlso (Ψ := fun g => RdRing g rb keys) (Pk.next (Pk.next (Pk.next Pk.here))) fun g h => h) ?_
  refine Gh.trans (Gh.trans (Gh.noBytes (a := none) (c := 0)) (Gh.noVotes (a := none) (c := 0))) ?_
  refine Gh.trans (Gh.trans (Gh.noBytes (a := none) (c := 0)) (Gh.noVotes (a := none) (c := 0))) ?_
  refine Gh.trans (Gh.trans (Gh.noBytes (a := none) (c := 0)) (Gh.nil 22 1)) ?_
  exact Gh.trans (Gh.fzTrue (Φ := fun g => RdVals g [] []) fun g => .nil) Gk
end Go.Proofs.YtomijhgicennbaaGreat
