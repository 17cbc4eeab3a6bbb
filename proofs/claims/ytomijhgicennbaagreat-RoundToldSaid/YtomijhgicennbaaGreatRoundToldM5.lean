/- Walks, rules and plain laws on which the claim stands, joined: the program's functions as they compute, one after the other. -/
import Derived.Orders
import Derived.Below
import Derived.Tactics
import Derived.Laws.AppendOwn
import Derived.Laws.CopyRow
import Derived.Laws.ResultCell
import Derived.Laws.Slices
import Derived.Laws.Small
import Derived.Laws.StructEq
import Derived.Laws.Pointers
import Derived.Laws.Unary
import Derived.Laws.Cells
import Derived.OrdersIn
import Derived.RangeFuncRecord
import Derived.RangeFuncIn
import Derived.RangeFuncCalls
import Derived.RangeFuncNested
import Derived.Laws.Cover3
import Derived.Laws.BytesString
import Derived.Laws.Strings
import Derived.Test.YtomijhgicennbaaGreatProg
import Derived.KernelRfl
import Derived.Laws.IdiomStrings
import Derived.OpenShut
import Derived.ChangeSlices
import Derived.DataElems
import Derived.Handed
import Derived.DeepKeys
import Derived.Laws.Shifts
import Derived.Laws.MakeOwn
import Derived.Laws.BitsAllLaws
import Derived.Test.YtomijhgicennbaaGreatRows
import Derived.WalkKit
import Derived.ProofKit
import Derived.ShutString
import Derived.ChangeOld
import Derived.Lay
import Derived.MakeChecks
import Derived.Test.YtomijhgicennbaaGreatRoundToldM4
namespace Go.Proofs.YtomijhgicennbaaGreat
open Go
set_option maxHeartbeats 4000000
set_option linter.unusedSimpArgs false
set_option linter.unusedVariables false
set_option maxRecDepth 20000
theorem status_ok (b : Nat) (x : RouS) (m : RouM) (y : PX) (M : Msg) (hk : x.keys.length ≤ 10) :
    Trip Tryz.prog 50 [vp b 0, .agg (msgCs M y).toArray] [cel b rT (rouX x m), ringF m.rb x.keys, tsA m.ts x.stats, msF y M]
      (fun r l => r = .tuple #[] ∧ l = [cel b rT (rouX x m), ringF m.rb x.keys, tsA m.ts (x.status M).stats]) := by
  have s1 := leads_ok b m.rb x.keys (rouX x m) x.slot x.me M.view hk rfl rfl
  have hle : x.leads x.me M.view = decide (x.me = leader x.slot M.view x.keys.length) := rfl
  by_cases hl : x.me = leader x.slot M.view x.keys.length
  · cases hlk : alook x.stats M.view with
    | none =>
      have hp : (x.status M).stats = aset x.stats M.view [(M.from_, M)] := by
        unfold RouS.status
        rw [if_neg (by rw [hle]; simp [hl])]
        simp [hlk, alook, aset]
      rw [hp]
      refine Trip.ghE (GhE.tpN (Pk.next (Pk.next Pk.here)) hlk) ?_
      rintro ⟨mb, qs⟩ ⟨hno, hlen⟩
      simp only at hno hlen ⊢
      have s2 := Tabsta.get_ok m.ts mb (ptrE x.stats qs) M.view
      rw [show mapVal (ptrE x.stats qs) M.view (.pointer none) = .pointer none by unfold mapVal; rw [hno]; rfl, show (alook (ptrE x.stats qs) M.view).isSome = false by rw [hno]; rfl] at s2
      have s3 := Tabsta.set_ok m.ts mb (ptrE x.stats qs) M.view
      have s4 := fun q => tm_no q [] M.from_ rfl
      have s5 := fun q => tm_set q [] M.from_ M y
      simp only [Tabsta.tabA] at *
      refine Trip.of_body Tryz.func50 rfl Tryz.ntmps50 Tryz.results50 rfl ?_
      refine Wsr ?_
      (refine WpL.step (Stp.boxV rfl (VC.ag _) rfl ?_); intro nb2)
      refine Lnt (Wp.seq (Wp.seq ?_))
      refine Wp.draw (by kernel_rfl) ?_
      refine Qt (i := 0) rfl (Rdo.move rfl) (Qt (i := 1) rfl (Rdo.move rfl) (Qt (i := 2) rfl (Rdo.nilCheck rfl) (Qt (i := 3) rfl (Rdo.fieldAddr0 rfl) (Qt (i := 5) rfl (Rdo.fieldAddr0 rfl) ?_))))
      refine WpR.load (i := 4) [6] rfl (by kernel_rfl) (by kernel_rfl) (by kernel_rfl) (by kernel_rfl) (by kernel_rfl) rfl Tk.rfl_ (Harm.rd rfl (Rdo.load rfl (Lds.one rfl)) Harm.nil) (Rdo.load rfl (Lds.next (Lds.next (Lds.next (Lds.next (Lds.one rfl)))))) rfl ?_
      refine Qo (i := 6) rfl (Stp.rd (Rdo.load rfl (Lds.one rfl)) rfl ?_)
      refine Qo (i := 7) rfl (Sc (s1) rfl ?_)
      rintro _ _ ⟨rfl, rfl⟩
      refine Ql ?_
      refine Qt (i := 8) rfl (Rdo.not rfl) ?_
      refine WpR.done (by kernel_rfl) ?_
      refine Thn.n (cL rfl (Wp.skip (Thn.n (Wp.seq ?_))))
      refine Wp.draw (by kernel_rfl) ?_
      refine Qt (i := 0) rfl (Rdo.move rfl) (Qt (i := 1) rfl (Rdo.nilCheck rfl) (Qt (i := 2) rfl (Rdo.fieldAddr0 rfl) (Qt (i := 4) rfl (Rdo.fieldAddr0 rfl) ?_)))
      refine WpR.load (i := 5) [3] rfl (by kernel_rfl) (by kernel_rfl) (by kernel_rfl) (by kernel_rfl) (by kernel_rfl) rfl Tk.rfl_ (Harm.rd rfl (Rdo.load rfl (Lds.one rfl)) Harm.nil) (Rdo.load rfl (Lds.next (Lds.next (Lds.one rfl)))) rfl ?_
      refine Qo (i := 3) rfl (Stp.rd (Rdo.load rfl (Lds.one rfl)) rfl ?_)
      refine Qo (i := 6) rfl (Sc (s2) rfl ?_)
      rintro _ _ ⟨rfl, rfl⟩
      refine Ql ?_
      refine Qt (i := 7) rfl (Rdo.move rfl) (Qt (i := 8) rfl (Rdo.extract rfl rfl) (Qt (i := 9) rfl (Rdo.extract rfl rfl) (Qt (i := 10) rfl (Rdo.assign rfl) (Qt (i := 11) rfl (Rdo.assign rfl) ?_))))
      refine WpR.done (by kernel_rfl) ?_
      refine Thn.n (Wp.seq (Wsr (Ls (Rdo.move rfl) (Ls (Rdo.not rfl) (Lnt ?_)))))
      refine Wp.condT rfl ?_
      refine Wsr ?_
      refine WpL.step (Sc (tm_new) rfl ?_)
      rintro _ _ ⟨v53_0, ⟨rfl, rfl⟩⟩
      refine Ll ?_
      refine Ls (Rdo.assign rfl) (Lnt ?_)
      refine Wp.draw (by kernel_rfl) ?_
      refine Qt (i := 0) rfl (Rdo.move rfl) (Qt (i := 1) rfl (Rdo.nilCheck rfl) (Qt (i := 2) rfl (Rdo.fieldAddr0 rfl) (Qt (i := 4) rfl (Rdo.fieldAddr0 rfl) (Qt (i := 6) rfl (Rdo.move rfl) ?_))))
      refine WpR.phaseL (m := 1) #[true, true, true, true, true, true, true, false] 2 _ rfl (by kernel_rfl) Tk.rfl_ ?_
      refine At (i := 3) rfl (Rdo.load rfl (Lds.next (Lds.next (Lds.next (Lds.one rfl))))) (At (i := 5) rfl (Rdo.load rfl (Lds.next (Lds.next (Lds.next (Lds.next (Lds.next (Lds.one rfl))))))) ?_)
      refine WpA.stop (by kernel_rfl) ?_
      refine WpR.lst (by simp only [List.cons_append, List.nil_append, List.append_nil]; exact rfl) ?_
      refine Qo (i := 7) rfl (Sc (s3 _) rfl ?_)
      rintro _ _ ⟨rfl, rfl⟩
      refine Ql ?_
      refine WpR.done (by kernel_rfl) ?_
      refine Thn.n (Wsr (Ls (Rdo.move rfl) (Ls (Rdo.fieldAddr0 rfl) (Ls (Rdo.load rfl (Lds.next (Lds.next (Lds.next (Lds.next (Lds.next (Lds.one rfl))))))) ?_))))
      refine WpL.step (Sc (s4 _) rfl ?_)
      rintro _ _ ⟨rfl, rfl⟩
      refine Ll ?_
      refine Ls (Rdo.move rfl) (Ls (Rdo.extract rfl rfl) (Ls (Rdo.extract rfl rfl) ?_))
      (refine WpL.step (Stp.alloc rfl ?_); intro nb85)
      refine WpL.step (St rfl rfl (VC.ag _) ?_)
      refine Ls (Rdo.assign rfl) (Lnt (Wsr (Ls (Rdo.move rfl) (Ls (Rdo.not rfl) (Lnt ?_)))))
      refine Wp.condT rfl ?_
      refine Wp.region (Ls (Rdo.move rfl) (Ls (Rdo.fieldAddr0 rfl) (Ls (Rdo.load rfl (Lds.next (Lds.next (Lds.next (Lds.next (Lds.next (Lds.next (Lds.one rfl)))))))) ?_)))
      refine Ls (Rdo.load rfl (Lds.next (Lds.next (Lds.next (Lds.next (Lds.next (Lds.next Ld))))))) ?_
      refine WpL.step (Sc (s5 _) rfl ?_)
      rintro _ _ ⟨rfl, rfl⟩
      refine Ll ?_
      refine WpL.nil ?_
      refine Ret.end_ (l' := [cel b rT (rouX x m), ringF m.rb x.keys, tsA m.ts (aset x.stats M.view [(M.from_, M)])]) ResV.nil ?_ ⟨rfl, rfl⟩
      refine Gh.trans (Gh.tk (l' := [cel m.ts tsT [.map (some mb)], mapA i64 mb (aset (ptrE x.stats qs) M.view (vp v53_0 0)), tmA v53_0 [(M.from_, M)], starH (ownE tmA x.stats qs), cel b rT (rouX x m), ringF m.rb x.keys]) (by repeat (first | exact Tk.nil | apply Tk.cons (by repeat (first | exact Pk.here | apply Pk.next))))) ?_
      exact Gh.trans (tp_new (A := tmA) hlen hlk) Gk
    | some l =>
      refine Trip.ghE (GhE.tpS (Pk.next (Pk.next Pk.here)) hlk) ?_
      rintro ⟨mb, qs, q, R⟩ ⟨hyes, hlen, hR, hback⟩
      simp only at hyes hlen hR hback ⊢
      have s2 := Tabsta.get_ok m.ts mb (ptrE x.stats qs) M.view
      rw [show mapVal (ptrE x.stats qs) M.view (.pointer none) = vp q 0 by unfold mapVal; rw [hyes]; rfl, show (alook (ptrE x.stats qs) M.view).isSome = true by rw [hyes]; rfl] at s2
      simp only [Tabsta.tabA] at *
      cases hl2 : alook l M.from_ with
      | some M0 =>
        have hp : (x.status M).stats = aset x.stats M.view l := by
          unfold RouS.status
          rw [if_neg (by rw [hle]; simp [hl])]
          simp [hlk, hl2]
        rw [hp]
        have s4 := tm_yes q l M.from_ M0 hl2
        refine Trip.of_body Tryz.func50 rfl Tryz.ntmps50 Tryz.results50 rfl ?_
        refine Wsr ?_
        (refine WpL.step (Stp.boxV rfl (VC.ag _) rfl ?_); intro nb2)
        refine Lnt (Wp.seq (Wp.seq ?_))
        refine Wp.draw (by kernel_rfl) ?_
        refine Qt (i := 0) rfl (Rdo.move rfl) (Qt (i := 1) rfl (Rdo.move rfl) (Qt (i := 2) rfl (Rdo.nilCheck rfl) (Qt (i := 3) rfl (Rdo.fieldAddr0 rfl) (Qt (i := 5) rfl (Rdo.fieldAddr0 rfl) ?_))))
        refine WpR.load (i := 4) [6] rfl (by kernel_rfl) (by kernel_rfl) (by kernel_rfl) (by kernel_rfl) (by kernel_rfl) rfl Tk.rfl_ (Harm.rd rfl (Rdo.load rfl (Lds.one rfl)) Harm.nil) (Rdo.load rfl (Lds.next (Lds.next (Lds.next (Lds.next (Lds.next (Lds.one rfl))))))) rfl ?_
        refine Qo (i := 6) rfl (Stp.rd (Rdo.load rfl (Lds.one rfl)) rfl ?_)
        refine Qo (i := 7) rfl (Sc (s1) rfl ?_)
        rintro _ _ ⟨rfl, rfl⟩
        refine Ql ?_
        refine Qt (i := 8) rfl (Rdo.not rfl) ?_
        refine WpR.done (by kernel_rfl) ?_
        refine Thn.n (cL rfl (Wp.skip (Thn.n (Wp.seq ?_))))
        refine Wp.draw (by kernel_rfl) ?_
        refine Qt (i := 0) rfl (Rdo.move rfl) (Qt (i := 1) rfl (Rdo.nilCheck rfl) (Qt (i := 2) rfl (Rdo.fieldAddr0 rfl) (Qt (i := 4) rfl (Rdo.fieldAddr0 rfl) ?_)))
        refine WpR.load (i := 5) [3] rfl (by kernel_rfl) (by kernel_rfl) (by kernel_rfl) (by kernel_rfl) (by kernel_rfl) rfl Tk.rfl_ (Harm.rd rfl (Rdo.load rfl (Lds.one rfl)) Harm.nil) (Rdo.load rfl (Lds.next (Lds.next (Lds.one rfl)))) rfl ?_
        refine Qo (i := 3) rfl (Stp.rd (Rdo.load rfl (Lds.one rfl)) rfl ?_)
        refine Qo (i := 6) rfl (Sc (s2) rfl ?_)
        rintro _ _ ⟨rfl, rfl⟩
        refine Ql ?_
        refine Qt (i := 7) rfl (Rdo.move rfl) (Qt (i := 8) rfl (Rdo.extract rfl rfl) (Qt (i := 9) rfl (Rdo.extract rfl rfl) (Qt (i := 10) rfl (Rdo.assign rfl) (Qt (i := 11) rfl (Rdo.assign rfl) ?_))))
        refine WpR.done (by kernel_rfl) ?_
        refine Thn.n (Wp.seq (Wsr (Ls (Rdo.move rfl) (Ls (Rdo.not rfl) (Lnt ?_)))))
        refine Wp.condF rfl ?_
        refine Wp.skip (Thn.n (Wsr (Ls (Rdo.move rfl) (Ls (Rdo.fieldAddr0 rfl) (Ls (Rdo.load rfl (Lds.next (Lds.next (Lds.next (Lds.next (Lds.one rfl)))))) ?_)))))
        refine WpL.step (Sc (s4) rfl ?_)
        rintro _ _ ⟨v58_0, ⟨rfl, rfl⟩⟩
        refine Ll ?_
        refine Ls (Rdo.move rfl) (Ls (Rdo.extract rfl rfl) (Ls (Rdo.extract rfl rfl) ?_))
        (refine WpL.step (Stp.alloc rfl ?_); intro nb63)
        refine WpL.step (St rfl rfl (VC.ag _) ?_)
        refine Ls (Rdo.assign rfl) (Lnt (Wsr (Ls (Rdo.move rfl) (Ls (Rdo.not rfl) (Lnt ?_)))))
        refine Wp.condF rfl ?_
        refine Wp.skip ?_
        refine Ret.end_ (l' := [cel b rT (rouX x m), ringF m.rb x.keys, tsA m.ts (aset x.stats M.view l)]) ResV.nil ?_ ⟨rfl, rfl⟩
        rw [← (hback (l)).1]
        refine Gh.trans (Gh.tk (l' := [cel m.ts tsT [.map (some mb)], mapA i64 mb (ptrE (aset x.stats M.view l) qs), tmA q l, starH R, cel b rT (rouX x m), ringF m.rb x.keys]) (by repeat (first | exact Tk.nil | apply Tk.cons (by repeat (first | exact Pk.here | apply Pk.next))))) ?_
        exact Gh.trans (tp_back (ls' := aset x.stats M.view l) (by rw [aset_length, hlk]; exact hlen) (hback l).2) Gk
      | none =>
        have hp : (x.status M).stats = aset x.stats M.view (aset l M.from_ M) := by
          unfold RouS.status
          rw [if_neg (by rw [hle]; simp [hl])]
          simp [hlk, hl2]
        rw [hp]
        have s4 := tm_no q l M.from_ hl2
        have s5 := tm_set q l M.from_ M y
        refine Trip.of_body Tryz.func50 rfl Tryz.ntmps50 Tryz.results50 rfl ?_
        refine Wsr ?_
        (refine WpL.step (Stp.boxV rfl (VC.ag _) rfl ?_); intro nb2)
        refine Lnt (Wp.seq (Wp.seq ?_))
        refine Wp.draw (by kernel_rfl) ?_
        refine Qt (i := 0) rfl (Rdo.move rfl) (Qt (i := 1) rfl (Rdo.move rfl) (Qt (i := 2) rfl (Rdo.nilCheck rfl) (Qt (i := 3) rfl (Rdo.fieldAddr0 rfl) (Qt (i := 5) rfl (Rdo.fieldAddr0 rfl) ?_))))
        refine WpR.load (i := 4) [6] rfl (by kernel_rfl) (by kernel_rfl) (by kernel_rfl) (by kernel_rfl) (by kernel_rfl) rfl Tk.rfl_ (Harm.rd rfl (Rdo.load rfl (Lds.one rfl)) Harm.nil) (Rdo.load rfl (Lds.next (Lds.next (Lds.next (Lds.next (Lds.next (Lds.one rfl))))))) rfl ?_
        refine Qo (i := 6) rfl (Stp.rd (Rdo.load rfl (Lds.one rfl)) rfl ?_)
        refine Qo (i := 7) rfl (Sc (s1) rfl ?_)
        rintro _ _ ⟨rfl, rfl⟩
        refine Ql ?_
        refine Qt (i := 8) rfl (Rdo.not rfl) ?_
        refine WpR.done (by kernel_rfl) ?_
        refine Thn.n (cL rfl (Wp.skip (Thn.n (Wp.seq ?_))))
        refine Wp.draw (by kernel_rfl) ?_
        refine Qt (i := 0) rfl (Rdo.move rfl) (Qt (i := 1) rfl (Rdo.nilCheck rfl) (Qt (i := 2) rfl (Rdo.fieldAddr0 rfl) (Qt (i := 4) rfl (Rdo.fieldAddr0 rfl) ?_)))
        refine WpR.load (i := 5) [3] rfl (by kernel_rfl) (by kernel_rfl) (by kernel_rfl) (by kernel_rfl) (by kernel_rfl) rfl Tk.rfl_ (Harm.rd rfl (Rdo.load rfl (Lds.one rfl)) Harm.nil) (Rdo.load rfl (Lds.next (Lds.next (Lds.one rfl)))) rfl ?_
        refine Qo (i := 3) rfl (Stp.rd (Rdo.load rfl (Lds.one rfl)) rfl ?_)
        refine Qo (i := 6) rfl (Sc (s2) rfl ?_)
        rintro _ _ ⟨rfl, rfl⟩
        refine Ql ?_
        refine Qt (i := 7) rfl (Rdo.move rfl) (Qt (i := 8) rfl (Rdo.extract rfl rfl) (Qt (i := 9) rfl (Rdo.extract rfl rfl) (Qt (i := 10) rfl (Rdo.assign rfl) (Qt (i := 11) rfl (Rdo.assign rfl) ?_))))
        refine WpR.done (by kernel_rfl) ?_
        refine Thn.n (Wp.seq (Wsr (Ls (Rdo.move rfl) (Ls (Rdo.not rfl) (Lnt ?_)))))
        refine Wp.condF rfl ?_
        refine Wp.skip (Thn.n (Wsr (Ls (Rdo.move rfl) (Ls (Rdo.fieldAddr0 rfl) (Ls (Rdo.load rfl (Lds.next (Lds.next (Lds.next (Lds.next (Lds.one rfl)))))) ?_)))))
        refine WpL.step (Sc (s4) rfl ?_)
        rintro _ _ ⟨rfl, rfl⟩
        refine Ll ?_
        refine Ls (Rdo.move rfl) (Ls (Rdo.extract rfl rfl) (Ls (Rdo.extract rfl rfl) ?_))
        (refine WpL.step (Stp.alloc rfl ?_); intro nb63)
        refine WpL.step (St rfl rfl (VC.ag _) ?_)
        refine Ls (Rdo.assign rfl) (Lnt (Wsr (Ls (Rdo.move rfl) (Ls (Rdo.not rfl) (Lnt ?_)))))
        refine Wp.condT rfl ?_
        refine Wp.region (Ls (Rdo.move rfl) (Ls (Rdo.fieldAddr0 rfl) (Ls (Rdo.load rfl (Lds.next (Lds.next (Lds.next (Lds.next (Lds.next (Lds.next (Lds.one rfl)))))))) ?_)))
        refine Ls (Rdo.load rfl (Lds.next (Lds.next (Lds.next (Lds.next (Lds.next (Lds.next Ld))))))) ?_
        refine WpL.step (Sc (s5) rfl ?_)
        rintro _ _ ⟨rfl, rfl⟩
        refine Ll ?_
        refine WpL.nil ?_
        refine Ret.end_ (l' := [cel b rT (rouX x m), ringF m.rb x.keys, tsA m.ts (aset x.stats M.view (aset l M.from_ M))]) ResV.nil ?_ ⟨rfl, rfl⟩
        rw [← (hback ((aset l M.from_ M))).1]
        refine Gh.trans (Gh.tk (l' := [cel m.ts tsT [.map (some mb)], mapA i64 mb (ptrE (aset x.stats M.view (aset l M.from_ M)) qs), tmA q (aset l M.from_ M), starH R, cel b rT (rouX x m), ringF m.rb x.keys]) (by repeat (first | exact Tk.nil | apply Tk.cons (by repeat (first | exact Pk.here | apply Pk.next))))) ?_
        exact Gh.trans (tp_back (ls' := aset x.stats M.view (aset l M.from_ M)) (by rw [aset_length, hlk]; exact hlen) (hback (aset l M.from_ M)).2) Gk
  · have hp : x.status M = x := by unfold RouS.status; rw [if_pos (by rw [hle]; simp [hl])]
    rw [hp]
    refine Trip.of_body Tryz.func50 rfl Tryz.ntmps50 Tryz.results50 rfl ?_
    refine Wsr ?_
    (refine WpL.step (Stp.boxV rfl (VC.ag _) rfl ?_); intro nb2)
    refine Lnt (Wp.seq (Wp.seq ?_))
    refine Wp.draw (by kernel_rfl) ?_
    refine Qt (i := 0) rfl (Rdo.move rfl) (Qt (i := 1) rfl (Rdo.move rfl) (Qt (i := 2) rfl (Rdo.nilCheck rfl) (Qt (i := 3) rfl (Rdo.fieldAddr0 rfl) (Qt (i := 5) rfl (Rdo.fieldAddr0 rfl) ?_))))
    refine WpR.load (i := 4) [6] rfl (by kernel_rfl) (by kernel_rfl) (by kernel_rfl) (by kernel_rfl) (by kernel_rfl) rfl Tk.rfl_ (Harm.rd rfl (Rdo.load rfl (Lds.one rfl)) Harm.nil) (Rdo.load rfl (Lds.next (Lds.one rfl))) rfl ?_
    refine Qo (i := 6) rfl (Stp.rd (Rdo.load rfl (Lds.one rfl)) rfl ?_)
    refine Qo (i := 7) rfl (Sc (s1) rfl ?_)
    rintro _ _ ⟨rfl, rfl⟩
    refine Ql ?_
    refine Qt (i := 8) rfl (Rdo.not rfl) ?_
    refine WpR.done (by kernel_rfl) ?_
    refine Thn.n (cK rfl (Wp.ret ?_))
    refine Thn.r ?_
    refine Rt ResV.nil ⟨rfl, rfl⟩
end Go.Proofs.YtomijhgicennbaaGreat
namespace Go.Proofs.YtomijhgicennbaaGreat
open Go
set_option maxHeartbeats 4000000
set_option linter.unusedSimpArgs false
set_option linter.unusedVariables false
set_option maxRecDepth 20000
abbrev statM (x : RouS) : Msg := ⟨4, 0, 0, 0, x.view, x.lock.value, x.lock.votes, hash0⟩
abbrev RouS.ticked (x : RouS) : RouS := { x with view := x.view + 1 }
def RouS.Tick (x : RouS) : List Msg × RouS := if x.decided = true ∨ 8 ≤ x.view then ([], x) else
  if leader x.slot x.ticked.view x.keys.length = x.me then (x.ticked.status (x.ticked.sealed (statM x.ticked) x.me)).steps 5
  else (x.ticked.sealed (statM x.ticked) (leader x.slot x.ticked.view x.keys.length) :: (x.ticked.steps 5).1, (x.ticked.steps 5).2)
theorem ticked_OK {x : RouS} {N : Nat} (h : RouOK x N) (hv : ¬ 8 ≤ x.view) : RouOK x.ticked N :=
  ⟨h.keys, h.me, by have := h.view; simp only; omega, h.vals, h.val, h.props, h.prop, h.prep, h.comm, h.stats, h.lock, h.want, h.value, h.why⟩
theorem status_same (x : RouS) (M : Msg) : x.status M = { x with stats := (x.status M).stats } := by
  unfold RouS.status
  split <;> rfl
theorem Tick_no (b : Nat) (x : RouS) (m : RouM) (h : x.decided = true ∨ 8 ≤ x.view) : Trip Tryz.prog 19 [vp b 0] (rouL b x m) (fun r l => ∃ (m' : RouM) (q : Option Addr × Nat), r = .slice q.1 (x.Tick).1.length q.2 ∧ l = rouL b (x.Tick).2 m' ++ [mrF q (x.Tick).1]) := by
  unfold RouS.Tick
  rw [if_pos h]
  simp only [rouL, List.cons_append, List.nil_append]
  by_cases hd : x.decided = true
  · refine Trip.of_body Tryz.func19 rfl Tryz.ntmps19 Tryz.results19 rfl ?_
    refine Wsr (Ls (Rdo.assign rfl) (Lnt (Wp.seq (Wsr (Ls (Rdo.move rfl) (Ls (Rdo.eqnil rfl rfl) (Ls (Rdo.move rfl) (Lw rfl rfl (Rdo.move rfl) (Lw rfl rfl (Rdo.nilCheck rfl) (Lw rfl rfl (Rdo.fieldAddr0 rfl) (Lw rfl rfl (Rdo.load rfl (Lds.one rfl)) (Ls (Rdo.pick_f rfl rfl) (Ls (Rdo.move rfl) ?_)))))))))))))
    refine Lg rfl rfl (Lp rfl rfl (Lp rfl rfl (Lp rfl rfl (Lp rfl rfl (Lp rfl rfl (Ls (Rdo.pick_t rfl rfl) (Lnt ?_)))))))
    refine Wp.condT rfl ?_
    refine Wsr (Ls (Rdo.assign rfl) (Lnt (Wp.ret ?_)))
    refine Thn.r ?_
    exact Ret.now (l' := rouL b x m ++ [mrF (none, 0) []]) (by repeat (first | exact ResV.nil | apply ResV.tmp rfl | apply ResV.cell rfl (by repeat (first | exact Lds.one rfl | (apply Lds.all; (first | rfl | assumption | (simp <;> fail))) | exact Lds.ione0 | exact Lds.ione rfl | (apply Lds.iall; (first | rfl | assumption | (simp <;> fail))) | apply Lds.next)))) (Gh.trans (mr_nil (none, 0)) Gk) ⟨m, (none, 0), rfl, rfl⟩
  · have hd' : x.decided = false := by simpa using hd
    have hv : 8 ≤ x.view := h.resolve_left hd
    refine Trip.of_body Tryz.func19 rfl Tryz.ntmps19 Tryz.results19 rfl ?_
    refine Wsr (Ls (Rdo.assign rfl) (Lnt (Wp.seq (Wsr (Ls (Rdo.move rfl) (Ls (Rdo.eqnil rfl rfl) (Ls (Rdo.move rfl) (Lw rfl rfl (Rdo.move rfl) (Lw rfl rfl (Rdo.nilCheck rfl) (Lw rfl rfl (Rdo.fieldAddr0 rfl) (Lw rfl rfl (Rdo.load rfl (Lds.one rfl)) (Ls (Rdo.pick_f rfl rfl) (Ls (Rdo.move rfl) ?_)))))))))))))
    refine Lf rfl rfl (Lw rfl rfl (Rdo.move rfl) (Lw rfl rfl (Rdo.nilCheck rfl) (Lw rfl rfl (Rdo.fieldAddr0 rfl) (Lw rfl rfl (Rdo.load rfl (Lds.one rfl)) (Lw rfl rfl (Rdo.gei rfl rfl) (Ls (Rdo.pick_f rfl rfl) (Lnt (cK rfl (Wsr (Ls (Rdo.assign rfl) (Lnt (Wp.ret ?_))))))))))))
    refine Thn.r ?_
    exact Ret.now (l' := rouL b x m ++ [mrF (none, 0) []]) (by repeat (first | exact ResV.nil | apply ResV.tmp rfl | apply ResV.cell rfl (by repeat (first | exact Lds.one rfl | (apply Lds.all; (first | rfl | assumption | (simp <;> fail))) | exact Lds.ione0 | exact Lds.ione rfl | (apply Lds.iall; (first | rfl | assumption | (simp <;> fail))) | apply Lds.next)))) (Gh.trans (mr_nil (none, 0)) Gk) ⟨m, (none, 0), rfl, rfl⟩
theorem Tick_me (b : Nat) (x : RouS) (m : RouM) (N : Nat) (ho : RouOK x N) (hN : N ≤ 90000) (hd : x.decided = false) (hv : ¬ 8 ≤ x.view) (hl : leader x.slot x.ticked.view x.keys.length = x.me) :
    Trip Tryz.prog 19 [vp b 0] (rouL b x m) (fun r l => ∃ (m' : RouM) (q : Option Addr × Nat), r = .slice q.1 (x.Tick).1.length q.2 ∧ l = rouL b (x.Tick).2 m' ++ [mrF q (x.Tick).1]) := by
  unfold RouS.Tick
  rw [if_neg (by simp [hd, hv]), if_pos hl]
  have hO := ticked_OK ho hv
  have hk := ho.keys
  have hvw := ho.view
  have hM : okM (x.ticked.sealed (statM x.ticked) x.me) := ho.lock
  have hO2 := status_OK (M := x.ticked.sealed (statM x.ticked) x.me) hO hM ho.me
  have s0 := nodes_ok m.rb x.keys
  have s1 := leader_ok x.slot (x.view + 1) x.keys.length (by omega)
  rw [show leader x.slot (x.view + 1) x.keys.length = x.me from hl] at s1
  have ez : ∀ y : PX, msgCs (statM x.ticked) y = [vi 4, vi 0, vi 0, vi 0, vi (x.view + 1), .slice y.1.1 x.lock.value.length y.1.2, .slice y.2.1 x.lock.votes.length y.2.2] ++ List.replicate 32 (Value.int .u8 0) := fun y => rfl
  have s2 := sealed_ok b m.rb x.keys (rouX x.ticked m) x.me x.slot x.me (statM x.ticked) m.kx hk rfl rfl rfl ho.lock.1 ho.lock.2
  have s3 := fun y : PX => status_ok b x.ticked m y (sealedM x.keys x.me x.slot (statM x.ticked) x.me) hk
  obtain ⟨z, hz⟩ : ∃ z, z = x.ticked.status (sealedM x.keys x.me x.slot (statM x.ticked) x.me) := ⟨_, rfl⟩
  have hsame := status_same x.ticked (sealedM x.keys x.me x.slot (statM x.ticked) x.me)
  have hOz : RouOK z N := by rw [hz]; exact hO2
  have hgoal : x.ticked.status (x.ticked.sealed (statM x.ticked) x.me) = z := hz.symm
  rw [hgoal]
  rw [← hz] at s3 hsame
  have s4 := steps_ok b z m N hOz hN
  have s5 := (steps_OK 5 hOz).2
  rw [hsame] at s4 s3 s5 ⊢
  generalize z.stats = st at *
  generalize sealedM x.keys x.me x.slot (statM x.ticked) x.me = M at *
  clear hgoal hz hsame hOz hO2 hM
  simp only [ez, rouL, List.cons_append, List.nil_append] at *
  generalize RouS.steps 5 { x.ticked with stats := st } = S at *
  refine Trip.of_body Tryz.func19 rfl Tryz.ntmps19 Tryz.results19 rfl ?_
  refine Wsr (Ls (Rdo.assign rfl) (Lnt (Wp.seq (Wsr (Ls (Rdo.move rfl) (Ls (Rdo.eqnil rfl rfl) (Ls (Rdo.move rfl) (Lw rfl rfl (Rdo.move rfl) (Lw rfl rfl (Rdo.nilCheck rfl) (Lw rfl rfl (Rdo.fieldAddr0 rfl) (Lw rfl rfl (Rdo.load rfl (Lds.one rfl)) (Ls (Rdo.pick_f rfl rfl) (Ls (Rdo.move rfl) ?_)))))))))))))
  refine Lf rfl rfl (Lw rfl rfl (Rdo.move rfl) (Lw rfl rfl (Rdo.nilCheck rfl) (Lw rfl rfl (Rdo.fieldAddr0 rfl) (Lw rfl rfl (Rdo.load rfl (Lds.one rfl)) (Lw rfl rfl (Rdo.gei rfl rfl) (Ls (Rdo.pick_f rfl rfl) (Lnt (cL rfl (Wp.skip (Thn.n (Wsr (Ls (Rdo.move rfl) (Ls (Rdo.nilCheck rfl) ?_)))))))))))))
  refine Ls (Rdo.fieldAddr0 rfl) (Ls (Rdo.load rfl (Lds.one rfl)) ?_)
  refine Ls (Rdo.add64 rfl rfl (by first | omega | (dsimp only; omega))) ?_
  refine Ls (Rdo.nilCheck rfl) (Ls (Rdo.fieldAddr0 rfl) ?_)
  refine WpL.step (Stp.storeV rfl rfl (VC.i _ _) rfl (Sp (oneCells1 rfl)) ?_)
  refine Lnt (Wp.seq ?_)
  refine Wp.draw (by kernel_rfl) ?_
  refine Qt (i := 0) rfl (Rdo.move rfl) (Qt (i := 1) rfl (Rdo.nilCheck rfl) (Qt (i := 2) rfl (Rdo.fieldAddr0 rfl) (Qt (i := 4) rfl (Rdo.move rfl) (Qt (i := 5) rfl (Rdo.nilCheck rfl) (Qt (i := 6) rfl (Rdo.fieldAddr0 rfl) (Qt (i := 7) rfl (Rdo.fieldAddr rfl) (Qt (i := 9) rfl (Rdo.move rfl) (Qt (i := 10) rfl (Rdo.nilCheck rfl) (Qt (i := 11) rfl (Rdo.fieldAddr0 rfl) (Qt (i := 12) rfl (Rdo.fieldAddr rfl) ?_))))))))))
  refine WpR.load (i := 3) [8, 13, 15] rfl (by kernel_rfl) (by kernel_rfl) (by kernel_rfl) (by kernel_rfl) (by kernel_rfl) rfl Tk.rfl_ (Harm.rd rfl (Rdo.load rfl (Lds.one rfl)) (Harm.rd rfl (Rdo.load rfl (Lds.one rfl)) (Harm.al rfl inferInstance Harm.nil))) (Rdo.load rfl (Lds.one rfl)) rfl ?_
  refine WpR.load (i := 8) [13, 15] rfl (by kernel_rfl) (by kernel_rfl) (by kernel_rfl) (by kernel_rfl) (by kernel_rfl) rfl Tk.rfl_ (Harm.rd rfl (Rdo.load rfl (Lds.one rfl)) (Harm.al rfl inferInstance Harm.nil)) (Rdo.load rfl (Lds.one rfl)) rfl ?_
  refine WpR.load (i := 13) [15] rfl (by kernel_rfl) (by kernel_rfl) (by kernel_rfl) (by kernel_rfl) (by kernel_rfl) rfl Tk.rfl_ (Harm.al rfl inferInstance Harm.nil) (Rdo.load rfl (Lds.one rfl)) rfl ?_
  refine Qt (i := 14) rfl (Rdo.bld rfl (BldL.cons rfl (VC.i _ _) (by first | rfl | assumption | (simp <;> done)) (by repeat (first | exact LPut.nil _ | (refine LPut.seg ?_; first | assumption | (simp <;> done)) | (refine LPut.segEnd ?_; first | assumption | (simp <;> done)) | (with_reducible apply LPut.here) | apply LPut.hereL | apply LPut.here | (apply LPut.over32; focus (first | assumption | (simp <;> done))) | (with_reducible apply LPut.next) | apply LPut.nextL | apply LPut.next)) (BldL.cons rfl (VC.i _ _) (by first | rfl | assumption | (simp <;> done)) (by repeat (first | exact LPut.nil _ | (refine LPut.seg ?_; first | assumption | (simp <;> done)) | (refine LPut.segEnd ?_; first | assumption | (simp <;> done)) | (with_reducible apply LPut.here) | apply LPut.hereL | apply LPut.here | (apply LPut.over32; focus (first | assumption | (simp <;> done))) | (with_reducible apply LPut.next) | apply LPut.nextL | apply LPut.next)) (BldL.cons rfl (VC.sl _ _ _) (by first | rfl | assumption | (simp <;> done)) (by repeat (first | exact LPut.nil _ | (refine LPut.seg ?_; first | assumption | (simp <;> done)) | (refine LPut.segEnd ?_; first | assumption | (simp <;> done)) | (with_reducible apply LPut.here) | apply LPut.hereL | apply LPut.here | (apply LPut.over32; focus (first | assumption | (simp <;> done))) | (with_reducible apply LPut.next) | apply LPut.nextL | apply LPut.next)) (BldL.cons rfl (VC.sl _ _ _) (by first | rfl | assumption | (simp <;> done)) (by repeat (first | exact LPut.nil _ | (refine LPut.seg ?_; first | assumption | (simp <;> done)) | (refine LPut.segEnd ?_; first | assumption | (simp <;> done)) | (with_reducible apply LPut.here) | apply LPut.hereL | apply LPut.here | (apply LPut.over32; focus (first | assumption | (simp <;> done))) | (with_reducible apply LPut.next) | apply LPut.nextL | apply LPut.next)) (BldL.nil _)))))) ?_
  (refine Qo (i := 15) rfl (Stp.alloc rfl ?_); intro nb58)
  refine Qo (i := 16) rfl (St rfl rfl (VC.ag _) ?_)
  refine WpR.done (by kernel_rfl) ?_
  refine Thn.n (Wp.seq ?_)
  refine Wp.draw (by kernel_rfl) ?_
  refine Qt (i := 0) rfl (Rdo.move rfl) (Qt (i := 1) rfl (Rdo.nilCheck rfl) (Qt (i := 2) rfl (Rdo.fieldAddr0 rfl) (Qt (i := 4) rfl (Rdo.move rfl) (Qt (i := 5) rfl (Rdo.nilCheck rfl) (Qt (i := 6) rfl (Rdo.fieldAddr0 rfl) (Qt (i := 8) rfl (Rdo.move rfl) (Qt (i := 9) rfl (Rdo.nilCheck rfl) (Qt (i := 10) rfl (Rdo.fieldAddr0 rfl) ?_))))))))
  refine WpR.load (i := 11) [3, 7] rfl (by kernel_rfl) (by kernel_rfl) (by kernel_rfl) (by kernel_rfl) (by kernel_rfl) rfl Tk.rfl_ (Harm.rd rfl (Rdo.load rfl (Lds.next (Lds.one rfl))) (Harm.rd rfl (Rdo.load rfl (Lds.next (Lds.one rfl))) Harm.nil)) (Rdo.load rfl (Lds.next (Lds.one rfl))) rfl ?_
  refine WpR.phaseL (m := 0) #[true, true, true, true, true, true, true, true, true, true, true, true, true, true, true] 5 _ rfl (by kernel_rfl) (Tk.cons (Pk.next Pk.here) Tk.nil) ?_
  refine At (i := 3) rfl (Rdo.load rfl (Lds.one rfl)) (At (i := 7) rfl (Rdo.load rfl (Lds.one rfl)) ?_)
  refine WpA.one (i := 12) rfl (by kernel_rfl) (Sc (s0) rfl ?_)
  rintro _ _ ⟨rfl, rfl⟩
  refine WpA.lst (by simp only [List.cons_append, List.nil_append]; exact rfl) ?_
  refine WpA.one (i := 13) rfl (by kernel_rfl) (Sc (s1) rfl ?_)
  rintro _ _ ⟨rfl, rfl⟩
  refine WpA.lst (by simp only [List.cons_append, List.nil_append]; exact rfl) ?_
  refine At (i := 14) rfl (Rdo.assign rfl) ?_
  refine WpA.stop (by kernel_rfl) ?_
  refine Ql ?_
  refine WpR.done (by kernel_rfl) ?_
  refine Thn.n (Wsr (Ls (Rdo.assign rfl) (Lnt (Wp.seq (Wsr (Ls (Rdo.move rfl) (Ls (Rdo.move rfl) (Ls (Rdo.nilCheck rfl) (Ls (Rdo.fieldAddr0 rfl) (Ls (Rdo.load rfl (Lds.one rfl)) (Ls (Rdo.eqi rfl rfl) (Lnt (cK rfl ?_)))))))))))))
  refine Wp.region (Ls (Rdo.move rfl) (Ls (Rdo.move rfl) ?_))
  refine Ls (Rdo.load rfl (Lds.next (Lds.next Ld))) ?_
  refine Ls (Rdo.move rfl) ?_
  refine WpL.step (Sc (s2) rfl ?_)
  rintro _ _ ⟨v111_0, ⟨rfl, rfl⟩⟩
  refine Ll ?_
  refine WpL.step (Sc (s3 _) rfl ?_)
  rintro _ _ ⟨rfl, rfl⟩
  refine Ll ?_
  refine Lnt (Wsr (Ls (Rdo.move rfl) (Ls (Rdo.move rfl) ?_)))
  refine WpL.step (Sc (s4) rfl ?_)
  rintro _ _ ⟨v123_0, ⟨v123_1, ⟨rfl, rfl⟩⟩⟩
  refine Ll ?_
  refine WpL.ghE (mr_open (p := v123_1) (ms := S.1) (by repeat (first | exact Pk.here | apply Pk.next))) ?_
  rintro css -
  refine WpL.get (p := fz (fun g => RdRows g css S.1)) (by repeat (first | exact Pk.here | apply Pk.next)) rr_facts ?_
  rintro ⟨ho2, hc2⟩
  (refine WpL.step (Stp.appendN rfl rfl Src.frozen (by first | rfl | assumption | (simp <;> done) | (simp <;> omega)) (by first | assumption | exact oneCells1 rfl | exact oneCells1 (by assumption) | exact oneCells_bytesC _ | exact oneCells_votesC _ | (simp [oneCells, Value.oneCell'] <;> done)) (by first | omega | (simp <;> omega)) (by first | omega | (simp <;> omega)) rfl (by first | rfl | (simp <;> done)) ?_); intro na0 nc0)
  refine Ls (Rdo.assign rfl) (Lnt (Wp.ret ?_))
  exact Ret.now (l' := rouL b S.2 v123_0 ++ [mrF (na0, nc0) S.1]) (by repeat (first | exact ResV.nil | apply ResV.tmp rfl | apply ResV.cell rfl (by repeat (first | exact Lds.one rfl | (apply Lds.all; (first | rfl | assumption | (simp <;> fail))) | exact Lds.ione0 | exact Lds.ione rfl | (apply Lds.iall; (first | rfl | assumption | (simp <;> fail))) | apply Lds.next)))) (Gh.trans (mr_shut (p := (na0, nc0)) (css := css) rfl (by repeat (first | exact Pk.here | apply Pk.next)) (by repeat (first | exact Pk.here | apply Pk.next))) Gk) ⟨v123_0, (na0, nc0), rfl, rfl⟩
theorem Tick_other (b : Nat) (x : RouS) (m : RouM) (N : Nat) (ho : RouOK x N) (hN : N ≤ 90000) (hd : x.decided = false) (hv : ¬ 8 ≤ x.view) (hl : ¬ leader x.slot x.ticked.view x.keys.length = x.me) :
    Trip Tryz.prog 19 [vp b 0] (rouL b x m) (fun r l => ∃ (m' : RouM) (q : Option Addr × Nat), r = .slice q.1 (x.Tick).1.length q.2 ∧ l = rouL b (x.Tick).2 m' ++ [mrF q (x.Tick).1]) := by
  unfold RouS.Tick
  rw [if_neg (by simp [hd, hv]), if_neg hl]
  have hO := ticked_OK ho hv
  have hk := ho.keys
  have hvw := ho.view
  have s0 := nodes_ok m.rb x.keys
  have s1 := leader_ok x.slot (x.view + 1) x.keys.length (by omega)
  obtain ⟨to, hto⟩ : ∃ to, to = leader x.slot (x.view + 1) x.keys.length := ⟨_, rfl⟩
  rw [← hto] at s1
  have hne : ¬ to = x.me := by rw [hto]; exact hl
  have ez : ∀ y : PX, msgCs (statM x.ticked) y = [vi 4, vi 0, vi 0, vi 0, vi (x.view + 1), .slice y.1.1 x.lock.value.length y.1.2, .slice y.2.1 x.lock.votes.length y.2.2] ++ List.replicate 32 (Value.int .u8 0) := fun y => rfl
  have s2 := sealed_ok b m.rb x.keys (rouX x.ticked m) x.me x.slot to (statM x.ticked) m.kx hk rfl rfl rfl ho.lock.1 ho.lock.2
  have s4 := steps_ok b x.ticked m N hO hN
  have s5 := (steps_OK 5 hO).2
  have hgoal : x.ticked.sealed (statM x.ticked) (leader x.slot x.ticked.view x.keys.length) = sealedM x.keys x.me x.slot (statM x.ticked) to := by rw [hto]; rfl
  rw [hgoal]
  generalize sealedM x.keys x.me x.slot (statM x.ticked) to = M at *
  clear hgoal
  simp only [ez, rouL, List.cons_append, List.nil_append] at *
  generalize RouS.steps 5 x.ticked = S at *
  refine Trip.of_body Tryz.func19 rfl Tryz.ntmps19 Tryz.results19 rfl ?_
  refine Wsr (Ls (Rdo.assign rfl) (Lnt (Wp.seq (Wsr (Ls (Rdo.move rfl) (Ls (Rdo.eqnil rfl rfl) (Ls (Rdo.move rfl) (Lw rfl rfl (Rdo.move rfl) (Lw rfl rfl (Rdo.nilCheck rfl) (Lw rfl rfl (Rdo.fieldAddr0 rfl) (Lw rfl rfl (Rdo.load rfl (Lds.one rfl)) (Ls (Rdo.pick_f rfl rfl) (Ls (Rdo.move rfl) ?_)))))))))))))
  refine Lf rfl rfl (Lw rfl rfl (Rdo.move rfl) (Lw rfl rfl (Rdo.nilCheck rfl) (Lw rfl rfl (Rdo.fieldAddr0 rfl) (Lw rfl rfl (Rdo.load rfl (Lds.one rfl)) (Lw rfl rfl (Rdo.gei rfl rfl) (Ls (Rdo.pick_f rfl rfl) (Lnt (cL rfl (Wp.skip (Thn.n (Wsr (Ls (Rdo.move rfl) (Ls (Rdo.nilCheck rfl) ?_)))))))))))))
  refine Ls (Rdo.fieldAddr0 rfl) (Ls (Rdo.load rfl (Lds.one rfl)) ?_)
  refine Ls (Rdo.add64 rfl rfl (by first | omega | (dsimp only; omega))) ?_
  refine Ls (Rdo.nilCheck rfl) (Ls (Rdo.fieldAddr0 rfl) ?_)
  refine WpL.step (Stp.storeV rfl rfl (VC.i _ _) rfl (Sp (oneCells1 rfl)) ?_)
  refine Lnt (Wp.seq ?_)
  refine Wp.draw (by kernel_rfl) ?_
  refine Qt (i := 0) rfl (Rdo.move rfl) (Qt (i := 1) rfl (Rdo.nilCheck rfl) (Qt (i := 2) rfl (Rdo.fieldAddr0 rfl) (Qt (i := 4) rfl (Rdo.move rfl) (Qt (i := 5) rfl (Rdo.nilCheck rfl) (Qt (i := 6) rfl (Rdo.fieldAddr0 rfl) (Qt (i := 7) rfl (Rdo.fieldAddr rfl) (Qt (i := 9) rfl (Rdo.move rfl) (Qt (i := 10) rfl (Rdo.nilCheck rfl) (Qt (i := 11) rfl (Rdo.fieldAddr0 rfl) (Qt (i := 12) rfl (Rdo.fieldAddr rfl) ?_))))))))))
  refine WpR.load (i := 3) [8, 13, 15] rfl (by kernel_rfl) (by kernel_rfl) (by kernel_rfl) (by kernel_rfl) (by kernel_rfl) rfl Tk.rfl_ (Harm.rd rfl (Rdo.load rfl (Lds.one rfl)) (Harm.rd rfl (Rdo.load rfl (Lds.one rfl)) (Harm.al rfl inferInstance Harm.nil))) (Rdo.load rfl (Lds.one rfl)) rfl ?_
  refine WpR.load (i := 8) [13, 15] rfl (by kernel_rfl) (by kernel_rfl) (by kernel_rfl) (by kernel_rfl) (by kernel_rfl) rfl Tk.rfl_ (Harm.rd rfl (Rdo.load rfl (Lds.one rfl)) (Harm.al rfl inferInstance Harm.nil)) (Rdo.load rfl (Lds.one rfl)) rfl ?_
  refine WpR.load (i := 13) [15] rfl (by kernel_rfl) (by kernel_rfl) (by kernel_rfl) (by kernel_rfl) (by kernel_rfl) rfl Tk.rfl_ (Harm.al rfl inferInstance Harm.nil) (Rdo.load rfl (Lds.one rfl)) rfl ?_
  refine Qt (i := 14) rfl (Rdo.bld rfl (BldL.cons rfl (VC.i _ _) (by first | rfl | assumption | (simp <;> done)) (by repeat (first | exact LPut.nil _ | (refine LPut.seg ?_; first | assumption | (simp <;> done)) | (refine LPut.segEnd ?_; first | assumption | (simp <;> done)) | (with_reducible apply LPut.here) | apply LPut.hereL | apply LPut.here | (apply LPut.over32; focus (first | assumption | (simp <;> done))) | (with_reducible apply LPut.next) | apply LPut.nextL | apply LPut.next)) (BldL.cons rfl (VC.i _ _) (by first | rfl | assumption | (simp <;> done)) (by repeat (first | exact LPut.nil _ | (refine LPut.seg ?_; first | assumption | (simp <;> done)) | (refine LPut.segEnd ?_; first | assumption | (simp <;> done)) | (with_reducible apply LPut.here) | apply LPut.hereL | apply LPut.here | (apply LPut.over32; focus (first | assumption | (simp <;> done))) | (with_reducible apply LPut.next) | apply LPut.nextL | apply LPut.next)) (BldL.cons rfl (VC.sl _ _ _) (by first | rfl | assumption | (simp <;> done)) (by repeat (first | exact LPut.nil _ | (refine LPut.seg ?_; first | assumption | (simp <;> done)) | (refine LPut.segEnd ?_; first | assumption | (simp <;> done)) | (with_reducible apply LPut.here) | apply LPut.hereL | apply LPut.here | (apply LPut.over32; focus (first | assumption | (simp <;> done))) | (with_reducible apply LPut.next) | apply LPut.nextL | apply LPut.next)) (BldL.cons rfl (VC.sl _ _ _) (by first | rfl | assumption | (simp <;> done)) (by repeat (first | exact LPut.nil _ | (refine LPut.seg ?_; first | assumption | (simp <;> done)) | (refine LPut.segEnd ?_; first | assumption | (simp <;> done)) | (with_reducible apply LPut.here) | apply LPut.hereL | apply LPut.here | (apply LPut.over32; focus (first | assumption | (simp <;> done))) | (with_reducible apply LPut.next) | apply LPut.nextL | apply LPut.next)) (BldL.nil _)))))) ?_
  (refine Qo (i := 15) rfl (Stp.alloc rfl ?_); intro nb58)
  refine Qo (i := 16) rfl (St rfl rfl (VC.ag _) ?_)
  refine WpR.done (by kernel_rfl) ?_
  refine Thn.n (Wp.seq ?_)
  refine Wp.draw (by kernel_rfl) ?_
  refine Qt (i := 0) rfl (Rdo.move rfl) (Qt (i := 1) rfl (Rdo.nilCheck rfl) (Qt (i := 2) rfl (Rdo.fieldAddr0 rfl) (Qt (i := 4) rfl (Rdo.move rfl) (Qt (i := 5) rfl (Rdo.nilCheck rfl) (Qt (i := 6) rfl (Rdo.fieldAddr0 rfl) (Qt (i := 8) rfl (Rdo.move rfl) (Qt (i := 9) rfl (Rdo.nilCheck rfl) (Qt (i := 10) rfl (Rdo.fieldAddr0 rfl) ?_))))))))
  refine WpR.load (i := 11) [3, 7] rfl (by kernel_rfl) (by kernel_rfl) (by kernel_rfl) (by kernel_rfl) (by kernel_rfl) rfl Tk.rfl_ (Harm.rd rfl (Rdo.load rfl (Lds.next (Lds.one rfl))) (Harm.rd rfl (Rdo.load rfl (Lds.next (Lds.one rfl))) Harm.nil)) (Rdo.load rfl (Lds.next (Lds.one rfl))) rfl ?_
  refine WpR.phaseL (m := 0) #[true, true, true, true, true, true, true, true, true, true, true, true, true, true, true] 5 _ rfl (by kernel_rfl) (Tk.cons (Pk.next Pk.here) Tk.nil) ?_
  refine At (i := 3) rfl (Rdo.load rfl (Lds.one rfl)) (At (i := 7) rfl (Rdo.load rfl (Lds.one rfl)) ?_)
  refine WpA.one (i := 12) rfl (by kernel_rfl) (Sc (s0) rfl ?_)
  rintro _ _ ⟨rfl, rfl⟩
  refine WpA.lst (by simp only [List.cons_append, List.nil_append]; exact rfl) ?_
  refine WpA.one (i := 13) rfl (by kernel_rfl) (Sc (s1) rfl ?_)
  rintro _ _ ⟨rfl, rfl⟩
  refine WpA.lst (by simp only [List.cons_append, List.nil_append]; exact rfl) ?_
  refine At (i := 14) rfl (Rdo.assign rfl) ?_
  refine WpA.stop (by kernel_rfl) ?_
  refine Ql ?_
  refine WpR.done (by kernel_rfl) ?_
  refine Thn.n (Wsr (Ls (Rdo.assign rfl) (Lnt (Wp.seq (Wsr (Ls (Rdo.move rfl) (Ls (Rdo.move rfl) (Ls (Rdo.nilCheck rfl) (Ls (Rdo.fieldAddr0 rfl) (Ls (Rdo.load rfl (Lds.one rfl)) (Ls (Rdo.eqi rfl rfl) (Lnt (cL rfl ?_)))))))))))))
  refine Wp.region (Ls (Rdo.move rfl) (Ls (Rdo.move rfl) ?_))
  refine Ls (Rdo.load rfl (Lds.next (Lds.next Ld))) ?_
  refine Ls (Rdo.move rfl) ?_
  refine WpL.step (Sc (s2) rfl ?_)
  rintro _ _ ⟨v111_0, ⟨rfl, rfl⟩⟩
  refine Ll ?_
  (refine WpL.step (Stp.sliceV rfl rfl (VCs.cons (VC.ag _) (by first | rfl | assumption | (simp <;> done)) VCs.nil) (by simp only [List.cons_append, List.nil_append, List.append_nil]; exact rfl) rfl rfl ?_); intro nb113)
  refine WpL.get (p := msF v111_0 M) (by repeat (first | exact Pk.here | apply Pk.next)) len_msgs ?_
  intro ho
  (refine WpL.step (Stp.appendN rfl rfl (Src.cel (by first | rfl | (simp <;> done) | (simp <;> omega))) (by first | rfl | assumption | (simp <;> done) | (simp <;> omega)) (by first | assumption | exact oneCells1 rfl | exact oneCells1 (by assumption) | exact oneCells_bytesC _ | exact oneCells_votesC _ | (simp [oneCells, Value.oneCell'] <;> done)) (by first | omega | (simp <;> omega)) (by first | omega | (simp <;> omega)) rfl (by first | rfl | (simp <;> done)) ?_); intro na0 nc0)
  refine Ls (Rdo.assign rfl) (Lnt (Wsr (Ls (Rdo.move rfl) (Ls (Rdo.move rfl) ?_))))
  refine WpL.step (Sc (s4) rfl ?_)
  rintro _ _ ⟨v9_0, ⟨v9_1, ⟨rfl, rfl⟩⟩⟩
  refine Ll ?_
  refine WpL.ghE (mr_open (p := v9_1) (ms := S.1) (by repeat (first | exact Pk.here | apply Pk.next))) ?_
  rintro css -
  refine WpL.get (p := fz (fun g => RdRows g css S.1)) (by repeat (first | exact Pk.here | apply Pk.next)) rr_facts ?_
  rintro ⟨ho2, hc2⟩
  (refine WpL.step (Stp.appendP rfl rfl (Pk.next (Pk.next (Pk.next (Pk.next (Pk.next (Pk.next (Pk.next (Pk.next (Pk.next (Pk.next (Pk.next (Pk.next (Pk.next (Pk.next (Pk.next Pk.here))))))))))))))) Src.frozen (by first | rfl | assumption | (simp <;> done) | (simp <;> omega)) (by first | assumption | exact oneCells1 rfl | exact oneCells1 (by assumption) | exact oneCells_bytesC _ | exact oneCells_votesC _ | (simp [oneCells, Value.oneCell'] <;> done)) (by first | omega | (simp <;> omega)) (by first | omega | (simp <;> omega)) rfl (by first | rfl | (simp <;> done)) ?_); intro na0 nc0)
  refine Ls (Rdo.assign rfl) (Lnt (Wp.ret ?_))
  have e1 : 1 + S.1.length = (M :: S.1).length := by rw [List.length_cons]; omega
  rw [e1]
  refine Ret.now (l' := rouL b S.2 v9_0 ++ [mrF (na0, nc0) (M :: S.1)]) (by repeat (first | exact ResV.nil | apply ResV.tmp rfl | apply ResV.cell rfl (by repeat (first | exact Lds.one rfl | (apply Lds.all; (first | rfl | assumption | (simp <;> fail))) | exact Lds.ione0 | exact Lds.ione rfl | (apply Lds.iall; (first | rfl | assumption | (simp <;> fail))) | apply Lds.next)))) ?_ ⟨v9_0, (na0, nc0), rfl, rfl⟩
  refine Gh.trans (rr_one (x := v111_0) (m := M) (by repeat (first | exact Pk.here | apply Pk.next))) (Gh.trans (rr_app (css := [msgCs M v111_0]) (ms := [M]) (css' := css) (ms' := S.1) (by repeat (first | exact Pk.here | apply Pk.next)) (by repeat (first | exact Pk.here | apply Pk.next))) ?_)
  exact Gh.trans (mr_shut (p := (na0, nc0)) (ms := M :: S.1) (css := msgCs M v111_0 :: css) rfl (by repeat (first | exact Pk.here | apply Pk.next)) (by repeat (first | exact Pk.here | apply Pk.next))) Gk
end Go.Proofs.YtomijhgicennbaaGreat
namespace Go.Proofs.YtomijhgicennbaaGreat
open Go
set_option maxHeartbeats 4000000
set_option linter.unusedSimpArgs false
set_option linter.unusedVariables false
set_option maxRecDepth 20000
def RouS.mine (x : RouS) (M : Msg) : Bool := decide (isMsg M) && decide (M.slot = x.slot) && decide (M.from_ ≠ x.me) && sealOk x.keys M.from_ (msgBody M) M.tag
theorem encNo_ms (M : Msg) (y : PX) (hn : M.votes.length ≤ 100000) (h : ¬ isMsg M) : Trip Tryz.prog 88 [.agg (msgCs M y).toArray] [msF y M] (fun r l => ∃ v, r = .tuple #[v, vi 1] ∧ l = [msF y M]) := by
  refine Trip.mono (Trip.keep (A := []) (encMsg_no M y hn h)) ?_
  rintro v l ⟨l', ⟨w, rfl, rfl⟩, rfl⟩
  exact ⟨w, rfl, rfl⟩
theorem encYes_ms (M : Msg) (y : PX) (hn : M.votes.length ≤ 100000) (h : isMsg M) : Trip Tryz.prog 88 [.agg (msgCs M y).toArray] [msF y M] (fun r l => ∃ v, r = .tuple #[v, vi 0] ∧ l = [msF y M]) := by
  refine Trip.via (Trip.keep (A := []) (encMsg_yes M y hn h)) (rest := []) Tk.rfl_ ?_
  rintro v l ⟨l', ⟨a, c, rfl, rfl⟩, rfl⟩
  exact ⟨_, ⟨_, rfl, rfl⟩, Gk⟩
theorem body_ms (M : Msg) (y : PX) (hv : M.value.length ≤ 100000) (hn : M.votes.length ≤ 1000) : Trip Tryz.prog 87 [.agg (msgCs M y).toArray] [msF y M] (fun r l => ∃ a c, r = .slice a (msgBody M).length c ∧ l = [bsF (a, c) (msgBody M), msF y M]) := by
  refine Trip.mono (Trip.keep (A := []) (msgBody_ok M y hv hn)) ?_
  rintro v l ⟨l', ⟨a, c, rfl, rfl⟩, rfl⟩
  exact ⟨a, c, rfl, rfl⟩
theorem isMine_ok (b : Nat) (x : RouS) (m : RouM) (y : PX) (M : Msg) (hk : x.keys.length ≤ 10) (hn : M.votes.length ≤ 100000) :
    Trip Tryz.prog 53 [vp b 0, .agg (msgCs M y).toArray] [cel b rT (rouX x m), ringF m.rb x.keys, msF y M] (fun r l => r = vb (x.mine M) ∧ l = [cel b rT (rouX x m), ringF m.rb x.keys, msF y M]) := by
  refine Trip.get (Pk.next (Pk.next Pk.here)) len_msgs ?_
  intro ho
  unfold RouS.mine
  by_cases c1 : isMsg M
  · have s1 := encYes_ms M y hn c1
    have hv : M.value.length ≤ 200 := c1.2.2.2.2.2.1
    have hn2 : M.votes.length ≤ 10 := c1.2.2.2.2.2.2.1
    have s2 := body_ms M y (by omega) (by omega)
    have s3 := fun v => check_ok m.rb x.keys M.from_ v (msgBody M) M.tag (by have := msgBody_len M (by omega) (by omega); omega) hk
    obtain ⟨⟨y1, y2⟩, ⟨y3, y4⟩⟩ := y
    have hz := hc_length M.tag
    by_cases c2 : M.slot = x.slot
    · by_cases c3 : M.from_ = x.me
      · rw [show decide (M.from_ ≠ x.me) = false by simp [c3], Bool.and_false, Bool.false_and]
        refine Trip.of_body Tryz.func53 rfl Tryz.ntmps53 Tryz.results53 rfl ?_
        refine Wsr ?_
        (refine WpL.step (Stp.boxV rfl (VC.ag _) rfl ?_); intro nb2)
        refine Ls (Rdo.assign rfl) (Lnt (Wsr ?_))
        refine Ls (Rdo.load rfl Ld) ?_
        refine WpL.step (Sc (s1) rfl ?_)
        rintro _ _ ⟨v10_0, ⟨rfl, rfl⟩⟩
        refine Ll ?_
        refine Ls (Rdo.move rfl) (Ls (Rdo.extract rfl rfl) (Ls (Rdo.extract rfl rfl) (Ls (Rdo.assign rfl) (Ls (Rdo.assign rfl) (Lnt (Wp.seq ?_))))))
        refine Wp.draw (by kernel_rfl) ?_
        refine Qt (i := 0) rfl (Rdo.move rfl) (Qt (i := 1) rfl (Rdo.eqi rfl rfl) (Qt (i := 2) rfl (Rdo.move rfl) (Qw (i := 3) rfl rfl rfl (Rdo.fieldAddr0 rfl) (Qw (i := 5) rfl rfl rfl (Rdo.move rfl) (Qw (i := 6) rfl rfl rfl (Rdo.nilCheck rfl) (Qw (i := 7) rfl rfl rfl (Rdo.fieldAddr0 rfl) ?_))))))
        refine WpR.phaseL (m := 0) #[true, true, true, true, true, true, true, true, true, true, true, true, true, true, true, true, true, true, true, true, true, true, true, true, true, true, true, true, true, true, true, true, true, true] 27 _ rfl (by kernel_rfl) (Tk.cons (Pk.next Pk.here) (Tk.cons (Pk.next Pk.here) Tk.nil)) ?_
        refine Aw (i := 4) rfl rfl rfl (Rdo.load rfl (Lds.one rfl)) (Aw (i := 8) rfl rfl rfl (Rdo.load rfl (Lds.next (Lds.one rfl))) (Aw (i := 9) rfl rfl rfl (Rdo.eqi rfl rfl) (At (i := 10) rfl (Rdo.pick_t rfl rfl) (At (i := 11) rfl (Rdo.move rfl) ?_))))
        refine WpA.tT 23 rfl (by first | rfl | assumption | (simp only [decide_eq_true_eq, decide_eq_false_iff_not, Bool.not_eq_true', Bool.not_eq_false', List.length_cons, List.length_nil]; first | assumption | omega) | (simp <;> done) | (simp <;> omega)) ?_
        refine Aw (i := 12) rfl rfl rfl (Rdo.fieldAddr0 rfl) (Aw (i := 13) rfl rfl rfl (Rdo.load rfl (Lds.one rfl)) (Aw (i := 14) rfl rfl rfl (Rdo.move rfl) (Aw (i := 15) rfl rfl rfl (Rdo.nilCheck rfl) (Aw (i := 16) rfl rfl rfl (Rdo.fieldAddr0 rfl) (Aw (i := 17) rfl rfl rfl (Rdo.load rfl (Lds.next (Lds.one rfl))) (Aw (i := 18) rfl rfl rfl (Rdo.nei rfl rfl) (At (i := 19) rfl (Rdo.pick_t rfl rfl) (At (i := 20) rfl (Rdo.move rfl) ?_))))))))
        refine WpA.tF 32 rfl (by first | rfl | assumption | (simp only [decide_eq_true_eq, decide_eq_false_iff_not, Bool.not_eq_true', Bool.not_eq_false', List.length_cons, List.length_nil]; first | assumption | omega) | (simp <;> done) | (simp <;> omega)) ?_
        refine WpA.pass (i := 21) rfl rfl rfl rfl rfl (by kernel_rfl) (by kernel_rfl) (by kernel_rfl) rfl ?_
        refine WpA.pass (i := 22) rfl rfl rfl rfl rfl (by kernel_rfl) (by kernel_rfl) (by kernel_rfl) rfl ?_
        refine WpA.pass (i := 23) rfl rfl rfl rfl rfl (by kernel_rfl) (by kernel_rfl) (by kernel_rfl) rfl ?_
        refine WpA.pass (i := 24) rfl rfl rfl rfl rfl (by kernel_rfl) (by kernel_rfl) (by kernel_rfl) rfl ?_
        refine WpA.pass (i := 25) rfl rfl rfl rfl rfl (by kernel_rfl) (by kernel_rfl) (by kernel_rfl) rfl ?_
        refine WpA.pass (i := 26) rfl rfl rfl rfl rfl (by kernel_rfl) (by kernel_rfl) (by kernel_rfl) rfl ?_
        refine WpA.pass (i := 27) rfl rfl rfl rfl rfl (by kernel_rfl) (by kernel_rfl) (by kernel_rfl) rfl ?_
        refine WpA.pass (i := 28) rfl rfl rfl rfl rfl (by kernel_rfl) (by kernel_rfl) (by kernel_rfl) rfl ?_
        refine WpA.pass (i := 29) rfl rfl rfl rfl rfl (by kernel_rfl) (by kernel_rfl) (by kernel_rfl) rfl ?_
        refine WpA.pass (i := 30) rfl rfl rfl rfl rfl (by kernel_rfl) (by kernel_rfl) (by kernel_rfl) rfl ?_
        refine WpA.pass (i := 31) rfl rfl rfl rfl rfl (by kernel_rfl) (by kernel_rfl) (by kernel_rfl) rfl ?_
        refine At (i := 32) rfl (Rdo.pick_f rfl rfl) (At (i := 33) rfl (Rdo.assign rfl) ?_)
        refine WpA.stop (by kernel_rfl) ?_
        refine Ql ?_
        refine WpR.done (by kernel_rfl) ?_
        refine Thn.n (Wp.ret ?_)
        refine Rt (ResV.tmp rfl ResV.nil) ⟨rfl, rfl⟩
      · rw [decide_eq_true c1, decide_eq_true c2, decide_eq_true c3, Bool.true_and, Bool.true_and, Bool.true_and]
        generalize sealOk x.keys M.from_ (msgBody M) M.tag = g at *
        refine Trip.of_body Tryz.func53 rfl Tryz.ntmps53 Tryz.results53 rfl ?_
        refine Wsr ?_
        (refine WpL.step (Stp.boxV rfl (VC.ag _) rfl ?_); intro nb2)
        refine Ls (Rdo.assign rfl) (Lnt (Wsr ?_))
        refine Ls (Rdo.load rfl Ld) ?_
        refine WpL.step (Sc (s1) rfl ?_)
        rintro _ _ ⟨v10_0, ⟨rfl, rfl⟩⟩
        refine Ll ?_
        refine Ls (Rdo.move rfl) (Ls (Rdo.extract rfl rfl) (Ls (Rdo.extract rfl rfl) (Ls (Rdo.assign rfl) (Ls (Rdo.assign rfl) (Lnt (Wp.seq ?_))))))
        refine Wp.draw (by kernel_rfl) ?_
        refine Qt (i := 0) rfl (Rdo.move rfl) (Qt (i := 1) rfl (Rdo.eqi rfl rfl) (Qt (i := 2) rfl (Rdo.move rfl) (Qw (i := 3) rfl rfl rfl (Rdo.fieldAddr0 rfl) (Qw (i := 5) rfl rfl rfl (Rdo.move rfl) (Qw (i := 6) rfl rfl rfl (Rdo.nilCheck rfl) (Qw (i := 7) rfl rfl rfl (Rdo.fieldAddr0 rfl) ?_))))))
        refine WpR.phaseL (m := 0) #[true, true, true, true, true, true, true, true, true, true, true, true, true, true, true, true, true, true, true, true, true, true, true, true, true, true, true, true, true, true, true, true, true, true] 27 _ rfl (by kernel_rfl) (Tk.cons (Pk.next Pk.here) (Tk.cons (Pk.next Pk.here) Tk.nil)) ?_
        refine Aw (i := 4) rfl rfl rfl (Rdo.load rfl (Lds.one rfl)) (Aw (i := 8) rfl rfl rfl (Rdo.load rfl (Lds.next (Lds.one rfl))) (Aw (i := 9) rfl rfl rfl (Rdo.eqi rfl rfl) (At (i := 10) rfl (Rdo.pick_t rfl rfl) (At (i := 11) rfl (Rdo.move rfl) ?_))))
        refine WpA.tT 23 rfl (by first | rfl | assumption | (simp only [decide_eq_true_eq, decide_eq_false_iff_not, Bool.not_eq_true', Bool.not_eq_false', List.length_cons, List.length_nil]; first | assumption | omega) | (simp <;> done) | (simp <;> omega)) ?_
        refine Aw (i := 12) rfl rfl rfl (Rdo.fieldAddr0 rfl) (Aw (i := 13) rfl rfl rfl (Rdo.load rfl (Lds.one rfl)) (Aw (i := 14) rfl rfl rfl (Rdo.move rfl) (Aw (i := 15) rfl rfl rfl (Rdo.nilCheck rfl) (Aw (i := 16) rfl rfl rfl (Rdo.fieldAddr0 rfl) (Aw (i := 17) rfl rfl rfl (Rdo.load rfl (Lds.next (Lds.one rfl))) (Aw (i := 18) rfl rfl rfl (Rdo.nei rfl rfl) (At (i := 19) rfl (Rdo.pick_t rfl rfl) (At (i := 20) rfl (Rdo.move rfl) ?_))))))))
        refine WpA.tT 32 rfl (by first | rfl | assumption | (simp only [decide_eq_true_eq, decide_eq_false_iff_not, Bool.not_eq_true', Bool.not_eq_false', List.length_cons, List.length_nil]; first | assumption | omega) | (simp <;> done) | (simp <;> omega)) ?_
        refine Aw (i := 21) rfl rfl rfl (Rdo.move rfl) (Aw (i := 22) rfl rfl rfl (Rdo.nilCheck rfl) (Aw (i := 23) rfl rfl rfl (Rdo.fieldAddr0 rfl) (Aw (i := 24) rfl rfl rfl (Rdo.load rfl (Lds.next (Lds.one rfl))) (Aw (i := 25) rfl rfl rfl (Rdo.fieldAddr0 rfl) (Aw (i := 26) rfl rfl rfl (Rdo.load rfl (Lds.one rfl)) ?_)))))
        refine Aw (i := 27) rfl rfl rfl (Rdo.load rfl Ld) ?_
        refine Aw (i := 29) rfl rfl rfl (Rdo.fieldAddr0 rfl) ?_
        refine Aw (i := 30) rfl rfl rfl (Rdo.load rfl (Lds.part (by first | exact msgC_tag | exact voteC_sum | exact voteC_tag | assumption) (by first | rfl | assumption | (simp <;> done)) (by first | rfl | assumption | (simp <;> done)))) ?_
        refine WpA.oneG (i := 28) rfl rfl rfl rfl (by kernel_rfl) (Sc (s2) rfl ?_)
        rintro _ _ ⟨v55_0, ⟨v55_1, ⟨rfl, rfl⟩⟩⟩
        refine WpA.lst (by simp only [List.cons_append, List.nil_append]; exact rfl) ?_
        refine WpA.oneG (i := 31) rfl rfl rfl rfl (by kernel_rfl) (Sc (s3 _) rfl ?_)
        rintro _ _ ⟨rfl, rfl⟩
        refine WpA.lst (by simp only [List.cons_append, List.nil_append]; exact rfl) ?_
        refine At (i := 32) rfl (Rdo.pick_t rfl rfl) (At (i := 33) rfl (Rdo.assign rfl) ?_)
        refine WpA.stop (by kernel_rfl) ?_
        refine Ql ?_
        refine WpR.done (by kernel_rfl) ?_
        refine Thn.n (Wp.ret ?_)
        refine Rt (ResV.tmp rfl ResV.nil) ⟨rfl, rfl⟩
    · rw [decide_eq_false c2, Bool.and_false, Bool.false_and, Bool.false_and]
      refine Trip.of_body Tryz.func53 rfl Tryz.ntmps53 Tryz.results53 rfl ?_
      refine Wsr ?_
      (refine WpL.step (Stp.boxV rfl (VC.ag _) rfl ?_); intro nb2)
      refine Ls (Rdo.assign rfl) (Lnt (Wsr ?_))
      refine Ls (Rdo.load rfl Ld) ?_
      refine WpL.step (Sc (s1) rfl ?_)
      rintro _ _ ⟨v10_0, ⟨rfl, rfl⟩⟩
      refine Ll ?_
      refine Ls (Rdo.move rfl) (Ls (Rdo.extract rfl rfl) (Ls (Rdo.extract rfl rfl) (Ls (Rdo.assign rfl) (Ls (Rdo.assign rfl) (Lnt (Wp.seq ?_))))))
      refine Wp.draw (by kernel_rfl) ?_
      refine Qt (i := 0) rfl (Rdo.move rfl) (Qt (i := 1) rfl (Rdo.eqi rfl rfl) (Qt (i := 2) rfl (Rdo.move rfl) (Qw (i := 3) rfl rfl rfl (Rdo.fieldAddr0 rfl) (Qw (i := 5) rfl rfl rfl (Rdo.move rfl) (Qw (i := 6) rfl rfl rfl (Rdo.nilCheck rfl) (Qw (i := 7) rfl rfl rfl (Rdo.fieldAddr0 rfl) ?_))))))
      refine WpR.phaseL (m := 0) #[true, true, true, true, true, true, true, true, true, true, true, true, true, true, true, true, true, true, true, true, true, true, true, true, true, true, true, true, true, true, true, true, true, true] 27 _ rfl (by kernel_rfl) (Tk.cons (Pk.next Pk.here) (Tk.cons (Pk.next Pk.here) Tk.nil)) ?_
      refine Aw (i := 4) rfl rfl rfl (Rdo.load rfl (Lds.one rfl)) (Aw (i := 8) rfl rfl rfl (Rdo.load rfl (Lds.next (Lds.one rfl))) (Aw (i := 9) rfl rfl rfl (Rdo.eqi rfl rfl) (At (i := 10) rfl (Rdo.pick_t rfl rfl) (At (i := 11) rfl (Rdo.move rfl) ?_))))
      refine WpA.tF 23 rfl (by first | rfl | assumption | (simp only [decide_eq_true_eq, decide_eq_false_iff_not, Bool.not_eq_true', Bool.not_eq_false', List.length_cons, List.length_nil]; first | assumption | omega) | (simp <;> done) | (simp <;> omega)) ?_
      refine WpA.pass (i := 12) rfl rfl rfl rfl rfl (by kernel_rfl) (by kernel_rfl) (by kernel_rfl) rfl ?_
      refine WpA.pass (i := 13) rfl rfl rfl rfl rfl (by kernel_rfl) (by kernel_rfl) (by kernel_rfl) rfl ?_
      refine WpA.pass (i := 14) rfl rfl rfl rfl rfl (by kernel_rfl) (by kernel_rfl) (by kernel_rfl) rfl ?_
      refine WpA.pass (i := 15) rfl rfl rfl rfl rfl (by kernel_rfl) (by kernel_rfl) (by kernel_rfl) rfl ?_
      refine WpA.pass (i := 16) rfl rfl rfl rfl rfl (by kernel_rfl) (by kernel_rfl) (by kernel_rfl) rfl ?_
      refine WpA.pass (i := 17) rfl rfl rfl rfl rfl (by kernel_rfl) (by kernel_rfl) (by kernel_rfl) rfl ?_
      refine WpA.pass (i := 18) rfl rfl rfl rfl rfl (by kernel_rfl) (by kernel_rfl) (by kernel_rfl) rfl ?_
      refine At (i := 19) rfl (Rdo.pick_f rfl rfl) (At (i := 20) rfl (Rdo.move rfl) ?_)
      refine WpA.pass (i := 21) rfl rfl rfl rfl rfl (by kernel_rfl) (by kernel_rfl) (by kernel_rfl) rfl ?_
      refine WpA.pass (i := 22) rfl rfl rfl rfl rfl (by kernel_rfl) (by kernel_rfl) (by kernel_rfl) rfl ?_
      refine WpA.pass (i := 23) rfl rfl rfl rfl rfl (by kernel_rfl) (by kernel_rfl) (by kernel_rfl) rfl ?_
      refine WpA.pass (i := 24) rfl rfl rfl rfl rfl (by kernel_rfl) (by kernel_rfl) (by kernel_rfl) rfl ?_
      refine WpA.pass (i := 25) rfl rfl rfl rfl rfl (by kernel_rfl) (by kernel_rfl) (by kernel_rfl) rfl ?_
      refine WpA.pass (i := 26) rfl rfl rfl rfl rfl (by kernel_rfl) (by kernel_rfl) (by kernel_rfl) rfl ?_
      refine WpA.pass (i := 27) rfl rfl rfl rfl rfl (by kernel_rfl) (by kernel_rfl) (by kernel_rfl) rfl ?_
      refine WpA.pass (i := 28) rfl rfl rfl rfl rfl (by kernel_rfl) (by kernel_rfl) (by kernel_rfl) rfl ?_
      refine WpA.pass (i := 29) rfl rfl rfl rfl rfl (by kernel_rfl) (by kernel_rfl) (by kernel_rfl) rfl ?_
      refine WpA.pass (i := 30) rfl rfl rfl rfl rfl (by kernel_rfl) (by kernel_rfl) (by kernel_rfl) rfl ?_
      refine WpA.pass (i := 31) rfl rfl rfl rfl rfl (by kernel_rfl) (by kernel_rfl) (by kernel_rfl) rfl ?_
      refine At (i := 32) rfl (Rdo.pick_f rfl rfl) (At (i := 33) rfl (Rdo.assign rfl) ?_)
      refine WpA.stop (by kernel_rfl) ?_
      refine Ql ?_
      refine WpR.done (by kernel_rfl) ?_
      refine Thn.n (Wp.ret ?_)
      refine Rt (ResV.tmp rfl ResV.nil) ⟨rfl, rfl⟩
  · rw [decide_eq_false c1, Bool.false_and, Bool.false_and, Bool.false_and]
    have s1 := encNo_ms M y hn c1
    refine Trip.of_body Tryz.func53 rfl Tryz.ntmps53 Tryz.results53 rfl ?_
    refine Wsr ?_
    (refine WpL.step (Stp.boxV rfl (VC.ag _) rfl ?_); intro nb2)
    refine Ls (Rdo.assign rfl) (Lnt (Wsr ?_))
    refine Ls (Rdo.load rfl Ld) ?_
    refine WpL.step (Sc (s1) rfl ?_)
    rintro _ _ ⟨v10_0, ⟨rfl, rfl⟩⟩
    refine Ll ?_
    refine Ls (Rdo.move rfl) (Ls (Rdo.extract rfl rfl) (Ls (Rdo.extract rfl rfl) (Ls (Rdo.assign rfl) (Ls (Rdo.assign rfl) (Lnt (Wp.seq ?_))))))
    refine Wp.draw (by kernel_rfl) ?_
    refine Qt (i := 0) rfl (Rdo.move rfl) (Qt (i := 1) rfl (Rdo.eqi rfl rfl) (Qt (i := 2) rfl (Rdo.move rfl) (Qp (i := 3) rfl rfl rfl (Qp (i := 4) rfl rfl rfl (Qp (i := 5) rfl rfl rfl (Qp (i := 6) rfl rfl rfl (Qp (i := 7) rfl rfl rfl (Qp (i := 8) rfl rfl rfl (Qp (i := 9) rfl rfl rfl (Qt (i := 10) rfl (Rdo.pick_f rfl rfl) (Qt (i := 11) rfl (Rdo.move rfl) (Qp (i := 12) rfl rfl rfl (Qp (i := 13) rfl rfl rfl ?_)))))))))))))
    refine Qp (i := 14) rfl rfl rfl (Qp (i := 15) rfl rfl rfl (Qp (i := 16) rfl rfl rfl (Qp (i := 17) rfl rfl rfl (Qp (i := 18) rfl rfl rfl (Qt (i := 19) rfl (Rdo.pick_f rfl rfl) (Qt (i := 20) rfl (Rdo.move rfl) (Qp (i := 21) rfl rfl rfl (Qp (i := 22) rfl rfl rfl (Qp (i := 23) rfl rfl rfl (Qp (i := 24) rfl rfl rfl (Qp (i := 25) rfl rfl rfl (Qp (i := 26) rfl rfl rfl (Qp (i := 27) rfl rfl rfl ?_)))))))))))))
    refine Qp (i := 28) rfl rfl rfl (Qp (i := 29) rfl rfl rfl (Qp (i := 30) rfl rfl rfl (Qp (i := 31) rfl rfl rfl (Qt (i := 32) rfl (Rdo.pick_f rfl rfl) (Qt (i := 33) rfl (Rdo.assign rfl) ?_)))))
    refine WpR.done (by kernel_rfl) ?_
    refine Thn.n (Wp.ret ?_)
    refine Rt (ResV.tmp rfl ResV.nil) ⟨rfl, rfl⟩
theorem owned_ok (M : Msg) (y : PX) (hv : M.value.length ≤ 100000) (hn : M.votes.length ≤ 1000) : Trip Tryz.prog 54 [.agg (msgCs M y).toArray] [msF y M] (fun r l => ∃ z : PX, r = .agg (msgCs M z).toArray ∧ l = [msF z M]) := by
  refine Trip.get Pk.here len_msgs ?_
  intro ho
  refine Trip.gh (ms_parts (x := y) (m := M) Pk.here) ?_
  have s1 := bclone_ok y.1.1 y.1.2 M.value (by omega)
  have s2 := vclone_ok y.2.1 y.2.2 M.votes (by omega)
  obtain ⟨⟨y1, y2⟩, ⟨y3, y4⟩⟩ := y
  simp only at *
  refine Trip.of_body Tryz.func54 rfl Tryz.ntmps54 Tryz.results54 rfl ?_
  refine Wsr ?_
  (refine WpL.step (Stp.boxV rfl (VC.ag _) rfl ?_); intro nb2)
  (refine WpL.step (Stp.alloc rfl ?_); intro nb3)
  refine Lnt (Wp.seq ?_)
  refine Wp.draw (by kernel_rfl) ?_
  refine Qt (i := 0) rfl (Rdo.fieldAddr0 rfl) (Qt (i := 3) rfl (Rdo.fieldAddr0 rfl) ?_)
  refine WpR.load (i := 1) [4] rfl (by kernel_rfl) (by kernel_rfl) (by kernel_rfl) (by kernel_rfl) (by kernel_rfl) rfl Tk.rfl_ (Harm.rd rfl (Rdo.load rfl (Lds.next (Lds.one rfl))) Harm.nil) (Rdo.load rfl (Lds.next (Lds.one rfl))) rfl ?_
  refine WpR.phaseL (m := 3) #[true, true, true, true, true, true, true, false, false, false] 4 _ rfl (by kernel_rfl) (Tk.cons (Pk.next Pk.here) Tk.nil) ?_
  refine At (i := 4) rfl (Rdo.load rfl (Lds.one rfl)) ?_
  refine WpA.one (i := 2) rfl (by kernel_rfl) (Sc (s1) rfl ?_)
  rintro _ _ ⟨v14_0, ⟨v14_1, ⟨rfl, rfl⟩⟩⟩
  refine WpA.lst (by simp only [List.cons_append, List.nil_append]; exact rfl) ?_
  refine At (i := 6) rfl (Rdo.fieldAddr0 rfl) ?_
  refine WpA.one (i := 5) rfl (by kernel_rfl) (Sc (s2) rfl ?_)
  rintro _ _ ⟨v18_0, ⟨v18_1, ⟨rfl, rfl⟩⟩⟩
  refine WpA.lst (by simp only [List.cons_append, List.nil_append]; exact rfl) ?_
  refine WpA.stop (by kernel_rfl) ?_
  refine Ql ?_
  refine Qo (i := 7) rfl (Stp.storeV rfl rfl (VC.sl _ _ _) rfl (Sp (oneCells1 rfl)) ?_)
  refine Qt (i := 8) rfl (Rdo.fieldAddr0 rfl) ?_
  refine Qo (i := 9) rfl (Stp.storeV rfl rfl (VC.sl _ _ _) rfl (Sp (oneCells1 rfl)) ?_)
  refine WpR.done (by kernel_rfl) ?_
  refine Thn.n (Wsr ?_)
  refine Ls (Rdo.load rfl Ld) ?_
  refine WpL.step (St rfl rfl (VC.ag _) ?_)
  refine Lnt (Wp.ret ?_)
  refine Ret.now (l' := [msF ((v14_0, v14_1), (v18_0, v18_1)) M]) (ResV.cell rfl (by repeat (first | exact Lds.one rfl | (apply Lds.all; (first | rfl | assumption | (simp <;> fail))) | exact Lds.ione0 | exact Lds.ione rfl | (apply Lds.iall; (first | rfl | assumption | (simp <;> fail))) | apply Lds.next)) ResV.nil) ?_ ⟨((v14_0, v14_1), (v18_0, v18_1)), rfl, rfl⟩
  exact Gh.trans (Gh.tk (l' := [bsF (v14_0, v14_1) M.value, vsF (v18_0, v18_1) M.votes]) (by repeat (first | exact Tk.nil | apply Tk.cons (by repeat (first | exact Pk.here | apply Pk.next))))) (ms_make (x := ((v14_0, v14_1), (v18_0, v18_1))) (m := M) Pk.here Pk.here)
end Go.Proofs.YtomijhgicennbaaGreat
namespace Go.Proofs.YtomijhgicennbaaGreat
open Go
set_option maxHeartbeats 4000000
set_option linter.unusedSimpArgs false
set_option linter.unusedVariables false
set_option maxRecDepth 20000
def RouS.heard (x : RouS) (M : Msg) : RouS := if M.kind = 2 then x.proposal M else if M.kind = 3 then x.vote M else if M.kind = 4 then x.status M else if M.kind = 5 then x.decision M else x
def RouS.Take (x : RouS) (M : Msg) : List Msg × RouS := if x.decided = true ∨ x.mine M = false then ([], x) else (x.heard M).steps 5
theorem mine_msg {x : RouS} {M : Msg} (h : x.mine M = true) : isMsg M ∧ M.slot = x.slot ∧ M.from_ ≠ x.me := by
  unfold RouS.mine at h
  simp only [Bool.and_eq_true, decide_eq_true_eq] at h
  exact ⟨h.1.1.1, h.1.1.2, h.1.2⟩
theorem isMsg_okM {M : Msg} (h : isMsg M) : okM M := ⟨by have := h.2.2.2.2.2.1; omega, by have := h.2.2.2.2.2.2.1; omega⟩
theorem heard_OK {x : RouS} {N : Nat} {M : Msg} (h : RouOK x N) (hm : isMsg M) : RouOK (x.heard M) (N + 1) := by
  unfold RouS.heard
  have hM := isMsg_okM hm
  split
  · exact (proposal_OK h hM hm.2.2.2.2.1).le (by omega)
  · split
    · exact vote_OK h fun v hv => by
        have := hm.2.2.2.2.2.2.2 v hv
        exact ⟨this.2.2.2, this.2.2.1⟩
    · split
      · exact (status_OK h hM hm.2.1).le (by omega)
      · split
        · exact (decision_OK h hM).le (by omega)
        · exact h.le (by omega)
theorem decision_ok (b : Nat) (x : RouS) (m : RouM) (y : PX) (M : Msg) (hk : x.keys.length ≤ 10) (hv : M.value.length ≤ 100000) (hn : M.votes.length ≤ 1000) :
    Trip Tryz.prog 57 [vp b 0, .agg (msgCs M y).toArray] [cel b rT (rouX x m), ringF m.rb x.keys, msF y M, bsF m.dx.1 x.value, vsF m.dx.2 x.why]
      (fun r l => r = .tuple #[] ∧ ∃ dx : PX, l = [cel b rT (rouX (x.decision M) { m with dx := dx }), ringF m.rb x.keys, bsF dx.1 (x.decision M).value, vsF dx.2 (x.decision M).why]) := by
  refine Trip.get (Pk.next (Pk.next Pk.here)) len_msgs ?_
  intro ho
  refine Trip.gh (ms_parts (x := y) (m := M) (Pk.next (Pk.next Pk.here))) ?_
  have s1 := vsum_ok y.1.1 y.1.2 M.value (by omega)
  have s2 := decides_ok b x m y.1 y.2 M.value M.votes (by omega) (by omega)
  cases hvs : M.votes with
  | nil =>
    have hp : x.decision M = x := by unfold RouS.decision; rw [hvs]
    rw [hp]
    have hlen : M.votes.length = 0 := by rw [hvs]; rfl
    rw [← hvs]
    obtain ⟨⟨y1, y2⟩, ⟨y3, y4⟩⟩ := y
    refine Trip.of_body Tryz.func57 rfl Tryz.ntmps57 Tryz.results57 rfl ?_
    refine Wsr ?_
    (refine WpL.step (Stp.boxV rfl (VC.ag _) rfl ?_); intro nb2)
    refine Lnt (Wp.seq ?_)
    refine Wp.draw (by kernel_rfl) ?_
    refine Qt (i := 0) rfl (Rdo.fieldAddr0 rfl) ?_
    refine Qo (i := 1) rfl (Stp.rd (Rdo.load rfl (Lds.one rfl)) rfl ?_)
    refine Qt (i := 2) rfl (Rdo.lenSlice rfl) (Qt (i := 3) rfl (Rdo.gti rfl rfl) (Qt (i := 4) rfl (Rdo.move rfl) ?_))
    refine WpR.tF 8 rfl (by first | rfl | assumption | (simp only [decide_eq_true_eq, decide_eq_false_iff_not, Bool.not_eq_true', Bool.not_eq_false', List.length_cons, List.length_nil]; first | assumption | omega) | (simp <;> done) | (simp <;> omega)) ?_
    refine Qp (i := 5) rfl rfl rfl (Qp (i := 6) rfl rfl rfl (Qp (i := 7) rfl rfl rfl (Qp (i := 8) rfl rfl rfl (Qp (i := 9) rfl rfl rfl (Qp (i := 10) rfl rfl rfl (Qp (i := 11) rfl rfl rfl (Qp (i := 12) rfl rfl rfl (Qp (i := 13) rfl rfl rfl (Qp (i := 14) rfl rfl rfl (Qp (i := 15) rfl rfl rfl (Qp (i := 16) rfl rfl rfl (Qp (i := 17) rfl rfl rfl (Qp (i := 18) rfl rfl rfl ?_)))))))))))))
    refine Qp (i := 19) rfl rfl rfl (Qp (i := 20) rfl rfl rfl (Qp (i := 21) rfl rfl rfl (Qp (i := 22) rfl rfl rfl (Qp (i := 23) rfl rfl rfl (Qt (i := 24) rfl (Rdo.pick_f rfl rfl) ?_)))))
    refine WpR.done (by kernel_rfl) ?_
    refine Thn.n ?_
    refine Wp.condF rfl ?_
    refine Wp.skip ?_
    refine Ret.end_ ResV.nil Gk ⟨rfl, ⟨_, rfl⟩⟩
  | cons v vs =>
    have hp : x.decision M = if meetsV x.keys M.votes 2 x.slot v.view (dHash M.value) = true then x.decides M.value M.votes else x := by unfold RouS.decision; rw [hvs]
    rw [hp]
    have h0' : 0 < M.votes.length := by rw [hvs]; simp
    rw [← hvs]
    refine Trip.get (Pk.next Pk.here) (row_some h0') ?_
    obtain ⟨⟨y1, y2⟩, ⟨y3, y4⟩⟩ := y
    rintro ⟨bb, o, rfl⟩
    have hlt : (0 : Int) < M.votes.length := by omega
    have hne : ¬ (M.votes.length : Int) = 0 := by omega
    have hv0 : M.votes[0]? = some v := by rw [hvs]; rfl
    have hv2 := voteC_view v
    have s3 := meets_ok m.rb x.keys hk (some ⟨bb, o, none⟩) y4 M.votes (by omega) 2 x.slot v.view (dHash M.value)
    generalize meetsV x.keys M.votes 2 x.slot v.view (dHash M.value) = g at *
    refine Trip.gh (Gh.trans (Gh.fzAlso (Ψ := fun g => RdBytes g (.slice y1 M.value.length y2) M.value) Pk.here fun g h => h) (Gh.fzAlso (Ψ := fun g => RdVotes g (.slice (some ⟨bb, o, none⟩) M.votes.length y4) M.votes) (Pk.next (Pk.next Pk.here)) fun g h => h)) ?_
    simp only [vsF, bsF] at s1 s2 s3 ⊢
    cases g with
    | true =>
      rw [if_pos rfl]
      refine Trip.of_body Tryz.func57 rfl Tryz.ntmps57 Tryz.results57 rfl ?_
      refine Wsr ?_
      (refine WpL.step (Stp.boxV rfl (VC.ag _) rfl ?_); intro nb2)
      refine Lnt (Wp.seq ?_)
      refine Wp.draw (by kernel_rfl) ?_
      refine Qt (i := 0) rfl (Rdo.fieldAddr0 rfl) ?_
      refine Qo (i := 1) rfl (Stp.rd (Rdo.load rfl (Lds.one rfl)) rfl ?_)
      refine Qt (i := 2) rfl (Rdo.lenSlice rfl) (Qt (i := 3) rfl (Rdo.gti rfl rfl) (Qt (i := 4) rfl (Rdo.move rfl) ?_))
      refine WpR.tT 8 rfl (by first | rfl | assumption | (simp only [decide_eq_true_eq, decide_eq_false_iff_not, Bool.not_eq_true', Bool.not_eq_false', List.length_cons, List.length_nil]; first | assumption | omega) | (simp <;> done) | (simp <;> omega)) ?_
      refine Qw (i := 5) rfl rfl rfl (Rdo.move rfl) (Qw (i := 6) rfl rfl rfl (Rdo.nilCheck rfl) (Qw (i := 7) rfl rfl rfl (Rdo.fieldAddr0 rfl) (Qw (i := 9) rfl rfl rfl (Rdo.fieldAddr0 rfl) (Qw (i := 11) rfl rfl rfl (Rdo.move rfl) (Qw (i := 12) rfl rfl rfl (Rdo.nilCheck rfl) (Qw (i := 13) rfl rfl rfl (Rdo.fieldAddr0 rfl) (Qw (i := 15) rfl rfl rfl (Rdo.fieldAddr0 rfl) (Qw (i := 20) rfl rfl rfl (Rdo.fieldAddr0 rfl) ?_))))))))
      refine WpR.phaseL (m := 0) #[true, true, true, true, true, true, true, true, true, true, true, true, true, true, true, true, true, true, true, true, true, true, true, true, true] 11 _ rfl (by kernel_rfl) (Tk.cons Pk.here (Tk.cons Pk.here (Tk.cons (Pk.next (Pk.next (Pk.next Pk.here))) Tk.nil))) ?_
      refine Aw (i := 8) rfl rfl rfl (Rdo.load rfl (Lds.next (Lds.next (Lds.one rfl)))) (Aw (i := 10) rfl rfl rfl (Rdo.load rfl (Lds.one rfl)) (Aw (i := 14) rfl rfl rfl (Rdo.load rfl (Lds.next (Lds.next (Lds.one rfl)))) (Aw (i := 16) rfl rfl rfl (Rdo.load rfl (Lds.one rfl)) ?_)))
      refine Aw (i := 17) rfl rfl rfl (Rdo.indexSliceE (i := 0) rfl rfl rfl (by first | omega | (simp <;> omega))) ?_
      refine Aw (i := 18) rfl rfl rfl (Rdo.fieldAddr rfl) ?_
      refine Aw (i := 19) rfl rfl rfl (Rdo.load rfl (Lds.next (Lds.fzFV (by assumption) (by first | rfl | assumption)))) ?_
      refine Aw (i := 21) rfl rfl rfl (Rdo.load rfl (Lds.one rfl)) ?_
      refine WpA.oneG (i := 22) rfl rfl rfl rfl (by kernel_rfl) (Sc (s1) rfl ?_)
      rintro _ _ ⟨rfl, rfl⟩
      refine WpA.lst (by simp only [List.cons_append, List.nil_append]; exact rfl) ?_
      refine WpA.oneG (i := 23) rfl rfl rfl rfl (by kernel_rfl) (Sc (s3) rfl ?_)
      rintro _ _ ⟨rfl, rfl⟩
      refine WpA.lst (by simp only [List.cons_append, List.nil_append]; exact rfl) ?_
      refine At (i := 24) rfl (Rdo.pick_t rfl rfl) ?_
      refine WpA.stop (by kernel_rfl) ?_
      refine Ql ?_
      refine WpR.done (by kernel_rfl) ?_
      refine Thn.n ?_
      refine Wp.condT rfl ?_
      refine Wp.region (Ls (Rdo.move rfl) (Ls (Rdo.fieldAddr0 rfl) (Ls (Rdo.load rfl (Lds.one rfl)) (Ls (Rdo.fieldAddr0 rfl) (Ls (Rdo.load rfl (Lds.one rfl)) ?_)))))
      refine WpL.step (Sc (s2) rfl ?_)
      rintro _ _ ⟨rfl, ⟨v50_0, rfl⟩⟩
      refine Ll ?_
      refine WpL.nil ?_
      refine Ret.end_ ResV.nil Gk ⟨rfl, ⟨_, rfl⟩⟩
    | false =>
      rw [if_neg (by simp)]
      refine Trip.of_body Tryz.func57 rfl Tryz.ntmps57 Tryz.results57 rfl ?_
      refine Wsr ?_
      (refine WpL.step (Stp.boxV rfl (VC.ag _) rfl ?_); intro nb2)
      refine Lnt (Wp.seq ?_)
      refine Wp.draw (by kernel_rfl) ?_
      refine Qt (i := 0) rfl (Rdo.fieldAddr0 rfl) ?_
      refine Qo (i := 1) rfl (Stp.rd (Rdo.load rfl (Lds.one rfl)) rfl ?_)
      refine Qt (i := 2) rfl (Rdo.lenSlice rfl) (Qt (i := 3) rfl (Rdo.gti rfl rfl) (Qt (i := 4) rfl (Rdo.move rfl) ?_))
      refine WpR.tT 8 rfl (by first | rfl | assumption | (simp only [decide_eq_true_eq, decide_eq_false_iff_not, Bool.not_eq_true', Bool.not_eq_false', List.length_cons, List.length_nil]; first | assumption | omega) | (simp <;> done) | (simp <;> omega)) ?_
      refine Qw (i := 5) rfl rfl rfl (Rdo.move rfl) (Qw (i := 6) rfl rfl rfl (Rdo.nilCheck rfl) (Qw (i := 7) rfl rfl rfl (Rdo.fieldAddr0 rfl) (Qw (i := 9) rfl rfl rfl (Rdo.fieldAddr0 rfl) (Qw (i := 11) rfl rfl rfl (Rdo.move rfl) (Qw (i := 12) rfl rfl rfl (Rdo.nilCheck rfl) (Qw (i := 13) rfl rfl rfl (Rdo.fieldAddr0 rfl) (Qw (i := 15) rfl rfl rfl (Rdo.fieldAddr0 rfl) (Qw (i := 20) rfl rfl rfl (Rdo.fieldAddr0 rfl) ?_))))))))
      refine WpR.phaseL (m := 0) #[true, true, true, true, true, true, true, true, true, true, true, true, true, true, true, true, true, true, true, true, true, true, true, true, true] 11 _ rfl (by kernel_rfl) (Tk.cons Pk.here (Tk.cons Pk.here (Tk.cons (Pk.next (Pk.next (Pk.next Pk.here))) Tk.nil))) ?_
      refine Aw (i := 8) rfl rfl rfl (Rdo.load rfl (Lds.next (Lds.next (Lds.one rfl)))) (Aw (i := 10) rfl rfl rfl (Rdo.load rfl (Lds.one rfl)) (Aw (i := 14) rfl rfl rfl (Rdo.load rfl (Lds.next (Lds.next (Lds.one rfl)))) (Aw (i := 16) rfl rfl rfl (Rdo.load rfl (Lds.one rfl)) ?_)))
      refine Aw (i := 17) rfl rfl rfl (Rdo.indexSliceE (i := 0) rfl rfl rfl (by first | omega | (simp <;> omega))) ?_
      refine Aw (i := 18) rfl rfl rfl (Rdo.fieldAddr rfl) ?_
      refine Aw (i := 19) rfl rfl rfl (Rdo.load rfl (Lds.next (Lds.fzFV (by assumption) (by first | rfl | assumption)))) ?_
      refine Aw (i := 21) rfl rfl rfl (Rdo.load rfl (Lds.one rfl)) ?_
      refine WpA.oneG (i := 22) rfl rfl rfl rfl (by kernel_rfl) (Sc (s1) rfl ?_)
      rintro _ _ ⟨rfl, rfl⟩
      refine WpA.lst (by simp only [List.cons_append, List.nil_append]; exact rfl) ?_
      refine WpA.oneG (i := 23) rfl rfl rfl rfl (by kernel_rfl) (Sc (s3) rfl ?_)
      rintro _ _ ⟨rfl, rfl⟩
      refine WpA.lst (by simp only [List.cons_append, List.nil_append]; exact rfl) ?_
      refine At (i := 24) rfl (Rdo.pick_t rfl rfl) ?_
      refine WpA.stop (by kernel_rfl) ?_
      refine Ql ?_
      refine WpR.done (by kernel_rfl) ?_
      refine Thn.n ?_
      refine Wp.condF rfl ?_
      refine Wp.skip ?_
      refine Ret.end_ ResV.nil Gk ⟨rfl, ⟨_, rfl⟩⟩
end Go.Proofs.YtomijhgicennbaaGreat
namespace Go.Proofs.YtomijhgicennbaaGreat
open Go
set_option maxHeartbeats 4000000
set_option linter.unusedSimpArgs false
set_option linter.unusedVariables false
set_option maxRecDepth 20000
theorem Take_no (b : Nat) (x : RouS) (m : RouM) (N : Nat) (ho : RouOK x N) (y : PX) (M : Msg) (hn : M.votes.length ≤ 100000) (h : x.decided = true ∨ x.mine M = false) :
    Trip Tryz.prog 22 [vp b 0, .agg (msgCs M y).toArray] (rouL b x m ++ [msF y M]) (fun r l => ∃ (m' : RouM) (q : Option Addr × Nat), r = .slice q.1 (x.Take M).1.length q.2 ∧ l = rouL b (x.Take M).2 m' ++ [mrF q (x.Take M).1]) := by
  unfold RouS.Take
  rw [if_pos h]
  have hk := ho.keys
  refine Trip.get (by repeat (first | exact Pk.here | apply Pk.next)) (p := msF y M) len_msgs ?_
  intro hone
  have s1 := isMine_ok b x m y M hk hn
  simp only [rouL, List.cons_append, List.nil_append]
  by_cases hd : x.decided = true
  · refine Trip.of_body Tryz.func22 rfl Tryz.ntmps22 Tryz.results22 rfl ?_
    refine Wsr ?_
    (refine WpL.step (Stp.boxV rfl (VC.ag _) rfl ?_); intro nb2)
    refine Ls (Rdo.assign rfl) (Lnt (Wp.seq (Wsr (Ls (Rdo.move rfl) (Ls (Rdo.eqnil rfl rfl) (Ls (Rdo.move rfl) (Lw rfl rfl (Rdo.move rfl) (Lw rfl rfl (Rdo.nilCheck rfl) (Lw rfl rfl (Rdo.fieldAddr0 rfl) (Lw rfl rfl (Rdo.load rfl (Lds.next (Lds.one rfl))) (Ls (Rdo.pick_f rfl rfl) (Ls (Rdo.move rfl) (Lg rfl rfl ?_)))))))))))))
    refine Lp rfl rfl (Lp rfl rfl (Lp rfl rfl (Lp rfl rfl (Ls (Rdo.pick_t rfl rfl) (Lnt ?_)))))
    refine Wp.condT rfl ?_
    refine Wsr (Ls (Rdo.assign rfl) (Lnt (Wp.ret ?_)))
    refine Thn.r ?_
    exact Ret.now (l' := rouL b x m ++ [mrF (none, 0) []]) (by repeat (first | exact ResV.nil | apply ResV.tmp rfl | apply ResV.cell rfl (by repeat (first | exact Lds.one rfl | (apply Lds.all; (first | rfl | assumption | (simp <;> fail))) | exact Lds.ione0 | exact Lds.ione rfl | (apply Lds.iall; (first | rfl | assumption | (simp <;> fail))) | apply Lds.next)))) (Gh.trans (mr_nil (none, 0)) Gk) ⟨m, (none, 0), rfl, rfl⟩
  · have hd' : x.decided = false := by simpa using hd
    have hmi := h.resolve_left hd
    rw [hmi] at s1
    refine Trip.of_body Tryz.func22 rfl Tryz.ntmps22 Tryz.results22 rfl ?_
    refine Wsr ?_
    (refine WpL.step (Stp.boxV rfl (VC.ag _) rfl ?_); intro nb2)
    refine Ls (Rdo.assign rfl) (Lnt (Wp.seq (Wsr (Ls (Rdo.move rfl) (Ls (Rdo.eqnil rfl rfl) (Ls (Rdo.move rfl) (Lw rfl rfl (Rdo.move rfl) (Lw rfl rfl (Rdo.nilCheck rfl) (Lw rfl rfl (Rdo.fieldAddr0 rfl) (Lw rfl rfl (Rdo.load rfl (Lds.next (Lds.one rfl))) (Ls (Rdo.pick_f rfl rfl) (Ls (Rdo.move rfl) (Lf rfl rfl ?_)))))))))))))
    refine Lw rfl rfl (Rdo.move rfl) ?_
    refine Lw rfl rfl (Rdo.load rfl Ld) ?_
    refine WpL.want rfl rfl rfl (Sc (s1) rfl ?_)
    rintro _ _ ⟨rfl, rfl⟩
    refine Ll ?_
    refine Lw rfl rfl (Rdo.not rfl) (Ls (Rdo.pick_f rfl rfl) (Lnt ?_))
    refine Wp.condT rfl ?_
    refine Wsr (Ls (Rdo.assign rfl) (Lnt (Wp.ret ?_)))
    refine Thn.r ?_
    exact Ret.now (l' := rouL b x m ++ [mrF (none, 0) []]) (by repeat (first | exact ResV.nil | apply ResV.tmp rfl | apply ResV.cell rfl (by repeat (first | exact Lds.one rfl | (apply Lds.all; (first | rfl | assumption | (simp <;> fail))) | exact Lds.ione0 | exact Lds.ione rfl | (apply Lds.iall; (first | rfl | assumption | (simp <;> fail))) | apply Lds.next)))) (Gh.trans (mr_nil (none, 0)) Gk) ⟨m, (none, 0), rfl, rfl⟩
theorem vote_same (x : RouS) (M : Msg) : x.vote M = { x with prep := (x.vote M).prep, comm := (x.vote M).comm } := by
  unfold RouS.vote
  split
  · rfl
  · split
    · unfold RouS.counts
      split <;> rfl
    · rfl
theorem decision_same (x : RouS) (M : Msg) : x.decision M = { x with value := (x.decision M).value, why := (x.decision M).why, decided := (x.decision M).decided } := by
  unfold RouS.decision
  split
  · rfl
  · split <;> rfl
theorem Take_yes (b : Nat) (x : RouS) (m : RouM) (N : Nat) (ho : RouOK x N) (hN : N ≤ 80000) (y : PX) (M : Msg) (hn : M.votes.length ≤ 100000) (hd : x.decided = false) (hmi : x.mine M = true) :
    Trip Tryz.prog 22 [vp b 0, .agg (msgCs M y).toArray] (rouL b x m ++ [msF y M]) (fun r l => ∃ (m' : RouM) (q : Option Addr × Nat), r = .slice q.1 (x.Take M).1.length q.2 ∧ l = rouL b (x.Take M).2 m' ++ [mrF q (x.Take M).1]) := by
  unfold RouS.Take
  rw [if_neg (by simp [hd, hmi])]
  have hk := ho.keys
  have hmsg := (mine_msg hmi).1
  have hM := isMsg_okM hmsg
  refine Trip.get (by repeat (first | exact Pk.here | apply Pk.next)) (p := msF y M) len_msgs ?_
  intro hone
  have s1 := isMine_ok b x m y M hk hn
  rw [hmi] at s1
  have s2 := owned_ok M y hM.1 hM.2
  have hO := heard_OK (M := M) ho hmsg
  unfold RouS.heard at hO ⊢
  by_cases k2 : M.kind = 2
  · rw [if_pos k2] at hO ⊢
    have s3 := fun z => proposal_ok b x m z M hk (by have := ho.vlen; omega) (by have := hM.1; omega)
    have s4 := fun m' => steps_ok b (x.proposal M) m' (N + 1) hO (by omega)
    obtain ⟨e1, e2, e3, e4, e5, e6, e7, e8, e9, e10, e11, -⟩ := proposal_same x M
    simp only [rouL, knL, e1, e5, e6, e7, e8, e9, e10, e11, List.cons_append, List.nil_append] at *
    refine Trip.of_body Tryz.func22 rfl Tryz.ntmps22 Tryz.results22 rfl ?_
    refine Wsr ?_
    (refine WpL.step (Stp.boxV rfl (VC.ag _) rfl ?_); intro nb2)
    refine Ls (Rdo.assign rfl) (Lnt (Wp.seq (Wsr (Ls (Rdo.move rfl) (Ls (Rdo.eqnil rfl rfl) (Ls (Rdo.move rfl) (Lw rfl rfl (Rdo.move rfl) (Lw rfl rfl (Rdo.nilCheck rfl) (Lw rfl rfl (Rdo.fieldAddr0 rfl) (Lw rfl rfl (Rdo.load rfl (Lds.next (Lds.one rfl))) (Ls (Rdo.pick_f rfl rfl) (Ls (Rdo.move rfl) (Lf rfl rfl ?_)))))))))))))
    refine Lw rfl rfl (Rdo.move rfl) ?_
    refine Lw rfl rfl (Rdo.load rfl Ld) ?_
    refine WpL.want rfl rfl rfl (Sc (s1) rfl ?_)
    rintro _ _ ⟨rfl, rfl⟩
    refine Ll ?_
    refine Lw rfl rfl (Rdo.not rfl) (Ls (Rdo.pick_f rfl rfl) (Lnt ?_))
    refine Wp.condF rfl ?_
    refine Wp.skip (Thn.n (Wsr ?_))
    refine Ls (Rdo.load rfl (Lds.next (Lds.next (Lds.next Ld)))) ?_
    refine WpL.step (Sc (s2) rfl ?_)
    rintro _ _ ⟨v35_0, ⟨rfl, rfl⟩⟩
    refine Ll ?_
    refine WpL.step (St rfl rfl (VC.ag _) ?_)
    refine Lnt (Wp.seq (Wsr (Ls (Rdo.fieldAddr0 rfl) (Ls (Rdo.load rfl (Lds.next (Lds.next (Lds.next (Lds.one rfl))))) (Lnt (Wp.block (Wsr (Ls (Rdo.eqi rfl rfl) (Ls (Rdo.assign rfl) (Lnt (cK rfl (Wp.region (Ls (Rdo.move rfl) ?_)))))))))))))
    refine Ls (Rdo.load rfl (Lds.next (Lds.next (Lds.next Ld)))) ?_
    refine WpL.step (Sc (s3 _) rfl ?_)
    rintro _ _ ⟨rfl, ⟨v59_0, ⟨v59_1, rfl⟩⟩⟩
    refine Ll ?_
    refine WpL.nil (Blk.n (Thn.n (Wsr (Ls (Rdo.move rfl) ?_))))
    refine WpL.step (Sc (s4 _) rfl ?_)
    rintro _ _ ⟨v68_0, ⟨v68_1, ⟨rfl, rfl⟩⟩⟩
    refine Ll ?_
    refine Ls (Rdo.assign rfl) (Lnt (Wp.ret ?_))
    refine Rt (ResV.tmp rfl ResV.nil) ⟨_, ⟨_, ⟨rfl, rfl⟩⟩⟩
  rw [if_neg k2] at hO ⊢
  by_cases k3 : M.kind = 3
  · rw [if_pos k3] at hO ⊢
    have hb1 : ∀ w, (balOf x.prep w).length ≤ 100000 := fun w => by have := (balOf_ok ho.prep w).1; omega
    have hb2 : ∀ w, (balOf x.comm w).length ≤ 100000 := fun w => by have := (balOf_ok ho.comm w).1; omega
    have s3 : ∀ z, Trip Tryz.prog 56 [vp b 0, .agg (msgCs M z).toArray] [cel b rT (rouX x m), ringF m.rb x.keys, tbA m.t1 x.prep, tbA m.t2 x.comm, msF z M]
        (fun r l => r = .tuple #[] ∧ l = [cel b rT (rouX x m), ringF m.rb x.keys, tbA m.t1 (x.vote M).prep, tbA m.t2 (x.vote M).comm]) := fun z => by
      refine Trip.gh (ms_parts (x := z) (m := M) (by repeat (first | exact Pk.here | apply Pk.next))) (Trip.via (vote_ok b x m z M hk hM.2 hb1 hb2) (rest := [bsF z.1 M.value]) (by repeat (first | exact Tk.nil | apply Tk.cons (by repeat (first | exact Pk.here | apply Pk.next)))) ?_)
      rintro r l ⟨rfl, rfl⟩
      exact ⟨_, ⟨rfl, rfl⟩, Gk⟩
    have hs := vote_same x M
    rw [hs] at hO ⊢
    have s4 := fun m' => steps_ok b { x with prep := (x.vote M).prep, comm := (x.vote M).comm } m' (N + 1) hO (by omega)
    generalize (x.vote M).prep = p at *
    generalize (x.vote M).comm = c at *
    clear hs
    simp only [rouL, List.cons_append, List.nil_append] at *
    refine Trip.of_body Tryz.func22 rfl Tryz.ntmps22 Tryz.results22 rfl ?_
    refine Wsr ?_
    (refine WpL.step (Stp.boxV rfl (VC.ag _) rfl ?_); intro nb2)
    refine Ls (Rdo.assign rfl) (Lnt (Wp.seq (Wsr (Ls (Rdo.move rfl) (Ls (Rdo.eqnil rfl rfl) (Ls (Rdo.move rfl) (Lw rfl rfl (Rdo.move rfl) (Lw rfl rfl (Rdo.nilCheck rfl) (Lw rfl rfl (Rdo.fieldAddr0 rfl) (Lw rfl rfl (Rdo.load rfl (Lds.next (Lds.one rfl))) (Ls (Rdo.pick_f rfl rfl) (Ls (Rdo.move rfl) (Lf rfl rfl ?_)))))))))))))
    refine Lw rfl rfl (Rdo.move rfl) ?_
    refine Lw rfl rfl (Rdo.load rfl Ld) ?_
    refine WpL.want rfl rfl rfl (Sc (s1) rfl ?_)
    rintro _ _ ⟨rfl, rfl⟩
    refine Ll ?_
    refine Lw rfl rfl (Rdo.not rfl) (Ls (Rdo.pick_f rfl rfl) (Lnt ?_))
    refine Wp.condF rfl ?_
    refine Wp.skip (Thn.n (Wsr ?_))
    refine Ls (Rdo.load rfl (Lds.next (Lds.next (Lds.next Ld)))) ?_
    refine WpL.step (Sc (s2) rfl ?_)
    rintro _ _ ⟨v35_0, ⟨rfl, rfl⟩⟩
    refine Ll ?_
    refine WpL.step (St rfl rfl (VC.ag _) ?_)
    refine Lnt (Wp.seq (Wsr (Ls (Rdo.fieldAddr0 rfl) (Ls (Rdo.load rfl (Lds.next (Lds.next (Lds.next (Lds.one rfl))))) (Lnt (Wp.block (Wsr (Ls (Rdo.eqi rfl rfl) (Ls (Rdo.assign rfl) (Lnt (cL rfl (Wsr (Ls (Rdo.eqi rfl rfl) ?_)))))))))))))
    refine Ls (Rdo.assign rfl) (Lnt (cK rfl (Wp.region (Ls (Rdo.move rfl) ?_))))
    refine Ls (Rdo.load rfl (Lds.next (Lds.next (Lds.next Ld)))) ?_
    refine WpL.step (Sc (s3 _) rfl ?_)
    rintro _ _ ⟨rfl, rfl⟩
    refine Ll ?_
    refine WpL.nil (Blk.n (Thn.n (Wsr (Ls (Rdo.move rfl) ?_))))
    refine WpL.step (Sc (s4 _) rfl ?_)
    rintro _ _ ⟨v75_0, ⟨v75_1, ⟨rfl, rfl⟩⟩⟩
    refine Ll ?_
    refine Ls (Rdo.assign rfl) (Lnt (Wp.ret ?_))
    refine Rt (ResV.tmp rfl ResV.nil) ⟨_, ⟨_, ⟨rfl, rfl⟩⟩⟩
  rw [if_neg k3] at hO ⊢
  by_cases k4 : M.kind = 4
  · rw [if_pos k4] at hO ⊢
    have s3 := fun z => status_ok b x m z M hk
    have hs := status_same x M
    rw [hs] at hO ⊢
    have s4 := fun m' => steps_ok b { x with stats := (x.status M).stats } m' (N + 1) hO (by omega)
    generalize (x.status M).stats = p at *
    clear hs
    simp only [rouL, List.cons_append, List.nil_append] at *
    refine Trip.of_body Tryz.func22 rfl Tryz.ntmps22 Tryz.results22 rfl ?_
    refine Wsr ?_
    (refine WpL.step (Stp.boxV rfl (VC.ag _) rfl ?_); intro nb2)
    refine Ls (Rdo.assign rfl) (Lnt (Wp.seq (Wsr (Ls (Rdo.move rfl) (Ls (Rdo.eqnil rfl rfl) (Ls (Rdo.move rfl) (Lw rfl rfl (Rdo.move rfl) (Lw rfl rfl (Rdo.nilCheck rfl) (Lw rfl rfl (Rdo.fieldAddr0 rfl) (Lw rfl rfl (Rdo.load rfl (Lds.next (Lds.one rfl))) (Ls (Rdo.pick_f rfl rfl) (Ls (Rdo.move rfl) (Lf rfl rfl ?_)))))))))))))
    refine Lw rfl rfl (Rdo.move rfl) ?_
    refine Lw rfl rfl (Rdo.load rfl Ld) ?_
    refine WpL.want rfl rfl rfl (Sc (s1) rfl ?_)
    rintro _ _ ⟨rfl, rfl⟩
    refine Ll ?_
    refine Lw rfl rfl (Rdo.not rfl) (Ls (Rdo.pick_f rfl rfl) (Lnt ?_))
    refine Wp.condF rfl ?_
    refine Wp.skip (Thn.n (Wsr ?_))
    refine Ls (Rdo.load rfl (Lds.next (Lds.next (Lds.next Ld)))) ?_
    refine WpL.step (Sc (s2) rfl ?_)
    rintro _ _ ⟨v35_0, ⟨rfl, rfl⟩⟩
    refine Ll ?_
    refine WpL.step (St rfl rfl (VC.ag _) ?_)
    refine Lnt (Wp.seq (Wsr (Ls (Rdo.fieldAddr0 rfl) (Ls (Rdo.load rfl (Lds.next (Lds.next (Lds.next (Lds.one rfl))))) (Lnt (Wp.block (Wsr (Ls (Rdo.eqi rfl rfl) (Ls (Rdo.assign rfl) (Lnt (cL rfl (Wsr (Ls (Rdo.eqi rfl rfl) ?_)))))))))))))
    refine Ls (Rdo.assign rfl) (Lnt (cL rfl (Wsr (Ls (Rdo.eqi rfl rfl) (Ls (Rdo.assign rfl) (Lnt (cK rfl (Wp.region (Ls (Rdo.move rfl) ?_)))))))))
    refine Ls (Rdo.load rfl (Lds.next (Lds.next (Lds.next Ld)))) ?_
    refine WpL.step (Sc (s3 _) rfl ?_)
    rintro _ _ ⟨rfl, rfl⟩
    refine Ll ?_
    refine WpL.nil (Blk.n (Thn.n (Wsr (Ls (Rdo.move rfl) ?_))))
    refine WpL.step (Sc (s4 _) rfl ?_)
    rintro _ _ ⟨v82_0, ⟨v82_1, ⟨rfl, rfl⟩⟩⟩
    refine Ll ?_
    refine Ls (Rdo.assign rfl) (Lnt (Wp.ret ?_))
    refine Rt (ResV.tmp rfl ResV.nil) ⟨_, ⟨_, ⟨rfl, rfl⟩⟩⟩
  rw [if_neg k4] at hO ⊢
  by_cases k5 : M.kind = 5
  · rw [if_pos k5] at hO ⊢
    have s3 := fun z => decision_ok b x m z M hk hM.1 hM.2
    have hs := decision_same x M
    rw [hs] at hO s3 ⊢
    have s4 := fun m' => steps_ok b { x with value := (x.decision M).value, why := (x.decision M).why, decided := (x.decision M).decided } m' (N + 1) hO (by omega)
    generalize (x.decision M).value = p at *
    generalize (x.decision M).why = c at *
    generalize (x.decision M).decided = d at *
    clear hs
    simp only [rouL, List.cons_append, List.nil_append] at *
    refine Trip.of_body Tryz.func22 rfl Tryz.ntmps22 Tryz.results22 rfl ?_
    refine Wsr ?_
    (refine WpL.step (Stp.boxV rfl (VC.ag _) rfl ?_); intro nb2)
    refine Ls (Rdo.assign rfl) (Lnt (Wp.seq (Wsr (Ls (Rdo.move rfl) (Ls (Rdo.eqnil rfl rfl) (Ls (Rdo.move rfl) (Lw rfl rfl (Rdo.move rfl) (Lw rfl rfl (Rdo.nilCheck rfl) (Lw rfl rfl (Rdo.fieldAddr0 rfl) (Lw rfl rfl (Rdo.load rfl (Lds.next (Lds.one rfl))) (Ls (Rdo.pick_f rfl rfl) (Ls (Rdo.move rfl) (Lf rfl rfl ?_)))))))))))))
    refine Lw rfl rfl (Rdo.move rfl) ?_
    refine Lw rfl rfl (Rdo.load rfl Ld) ?_
    refine WpL.want rfl rfl rfl (Sc (s1) rfl ?_)
    rintro _ _ ⟨rfl, rfl⟩
    refine Ll ?_
    refine Lw rfl rfl (Rdo.not rfl) (Ls (Rdo.pick_f rfl rfl) (Lnt ?_))
    refine Wp.condF rfl ?_
    refine Wp.skip (Thn.n (Wsr ?_))
    refine Ls (Rdo.load rfl (Lds.next (Lds.next (Lds.next Ld)))) ?_
    refine WpL.step (Sc (s2) rfl ?_)
    rintro _ _ ⟨v35_0, ⟨rfl, rfl⟩⟩
    refine Ll ?_
    refine WpL.step (St rfl rfl (VC.ag _) ?_)
    refine Lnt (Wp.seq (Wsr (Ls (Rdo.fieldAddr0 rfl) (Ls (Rdo.load rfl (Lds.next (Lds.next (Lds.next (Lds.one rfl))))) (Lnt (Wp.block (Wsr (Ls (Rdo.eqi rfl rfl) (Ls (Rdo.assign rfl) (Lnt (cL rfl (Wsr (Ls (Rdo.eqi rfl rfl) ?_)))))))))))))
    refine Ls (Rdo.assign rfl) (Lnt (cL rfl (Wsr (Ls (Rdo.eqi rfl rfl) (Ls (Rdo.assign rfl) (Lnt (cL rfl (Wsr (Ls (Rdo.eqi rfl rfl) (Ls (Rdo.assign rfl) (Lnt (cK rfl (Wp.region ?_)))))))))))))
    refine Ls (Rdo.move rfl) ?_
    refine Ls (Rdo.load rfl (Lds.next (Lds.next (Lds.next Ld)))) ?_
    refine WpL.step (Sc (s3 _) rfl ?_)
    rintro _ _ ⟨rfl, ⟨v80_0, rfl⟩⟩
    refine Ll ?_
    refine WpL.nil (Blk.n (Thn.n (Wsr (Ls (Rdo.move rfl) ?_))))
    refine WpL.step (Sc (s4 _) rfl ?_)
    rintro _ _ ⟨v89_0, ⟨v89_1, ⟨rfl, rfl⟩⟩⟩
    refine Ll ?_
    refine Ls (Rdo.assign rfl) (Lnt (Wp.ret ?_))
    refine Rt (ResV.tmp rfl ResV.nil) ⟨_, ⟨_, ⟨rfl, rfl⟩⟩⟩
  · rw [if_neg k5] at hO ⊢
    have s4 := fun m' => steps_ok b x m' (N + 1) hO (by omega)
    simp only [rouL, List.cons_append, List.nil_append] at *
    refine Trip.of_body Tryz.func22 rfl Tryz.ntmps22 Tryz.results22 rfl ?_
    refine Wsr ?_
    (refine WpL.step (Stp.boxV rfl (VC.ag _) rfl ?_); intro nb2)
    refine Ls (Rdo.assign rfl) (Lnt (Wp.seq (Wsr (Ls (Rdo.move rfl) (Ls (Rdo.eqnil rfl rfl) (Ls (Rdo.move rfl) (Lw rfl rfl (Rdo.move rfl) (Lw rfl rfl (Rdo.nilCheck rfl) (Lw rfl rfl (Rdo.fieldAddr0 rfl) (Lw rfl rfl (Rdo.load rfl (Lds.next (Lds.one rfl))) (Ls (Rdo.pick_f rfl rfl) (Ls (Rdo.move rfl) (Lf rfl rfl ?_)))))))))))))
    refine Lw rfl rfl (Rdo.move rfl) ?_
    refine Lw rfl rfl (Rdo.load rfl Ld) ?_
    refine WpL.want rfl rfl rfl (Sc (s1) rfl ?_)
    rintro _ _ ⟨rfl, rfl⟩
    refine Ll ?_
    refine Lw rfl rfl (Rdo.not rfl) (Ls (Rdo.pick_f rfl rfl) (Lnt ?_))
    refine Wp.condF rfl ?_
    refine Wp.skip (Thn.n (Wsr ?_))
    refine Ls (Rdo.load rfl (Lds.next (Lds.next (Lds.next Ld)))) ?_
    refine WpL.step (Sc (s2) rfl ?_)
    rintro _ _ ⟨v35_0, ⟨rfl, rfl⟩⟩
    refine Ll ?_
    refine WpL.step (St rfl rfl (VC.ag _) ?_)
    refine Lnt (Wp.seq (Wsr (Ls (Rdo.fieldAddr0 rfl) (Ls (Rdo.load rfl (Lds.next (Lds.next (Lds.next (Lds.one rfl))))) (Lnt (Wp.block (Wsr (Ls (Rdo.eqi rfl rfl) (Ls (Rdo.assign rfl) (Lnt (cL rfl (Wsr (Ls (Rdo.eqi rfl rfl) ?_)))))))))))))
    refine Ls (Rdo.assign rfl) (Lnt (cL rfl (Wsr (Ls (Rdo.eqi rfl rfl) (Ls (Rdo.assign rfl) (Lnt (cL rfl (Wsr (Ls (Rdo.eqi rfl rfl) (Ls (Rdo.assign rfl) (Lnt (cL rfl (Wp.skip ?_)))))))))))))
    refine Blk.n (Thn.n (Wsr (Ls (Rdo.move rfl) ?_)))
    refine WpL.step (Sc (s4 _) rfl ?_)
    rintro _ _ ⟨v83_0, ⟨v83_1, ⟨rfl, rfl⟩⟩⟩
    refine Ll ?_
    refine Ls (Rdo.assign rfl) (Lnt (Wp.ret ?_))
    refine Rt (ResV.tmp rfl ResV.nil) ⟨_, ⟨_, ⟨rfl, rfl⟩⟩⟩
end Go.Proofs.YtomijhgicennbaaGreat
namespace Go.Proofs.YtomijhgicennbaaGreat
open Go
set_option maxHeartbeats 4000000
set_option linter.unusedSimpArgs false
set_option linter.unusedVariables false
set_option maxRecDepth 20000
theorem quorum1 : quorum 1 = 1 := by decide
theorem alone (keys : List Hash) (hk : keys.length = 1) (b : List UInt8) (h1 : 0 < b.length) (h2 : b.length ≤ 200) :
    ∃ y, (RouS.new keys 0 0).Want b = ([], y) ∧ y.decided = true ∧ y.value = b ∧ y.view = 0 := by
  have hne : b ≠ [] := by intro h; rw [h] at h1; simp at h1
  have hq : quorum keys.length = 1 := by rw [hk]; exact quorum1
  have hl : leader 0 0 keys.length = 0 := by rw [hk]; rfl
  have hall : ∀ (x : RouS) (M : Msg), x.keys.length = 1 → x.me = 0 → x.all M = [] := by
    intro x M e1 e2
    simp [RouS.all, e1, e2]
  unfold RouS.Want
  have hd : (RouS.new keys 0 0).decided = false := rfl
  rw [if_neg (by rw [hd]; simp)]
  have hw : (RouS.new keys 0 0).wanted b = { RouS.new keys 0 0 with want := b } := by unfold RouS.wanted; rw [if_pos ⟨h1, h2⟩]
  rw [hw]
  obtain ⟨x1, hx1⟩ : ∃ x1, x1 = { RouS.new keys 0 0 with want := b } := ⟨_, rfl⟩
  rw [← hx1]
  -- the proposal
  have a1 : x1.settles = none := by rw [hx1]; simp [RouS.settles, RouS.new, sortT]
  have a2 : x1.prepares = none := by rw [hx1]; rfl
  have a3 : x1.commits = none := by rw [hx1]; simp [RouS.commits, RouS.new, RouS.enough]
  have a4 : x1.chosen = some (b, []) := by rw [hx1]; simp [RouS.chosen, RouS.new, hne]
  have a5 : x1.leads x1.me x1.view = true := by rw [hx1]; simp [RouS.leads, RouS.new, hl]
  obtain ⟨M, hM⟩ : ∃ M, M = sealedM keys 0 0 (propM 0 b []) 0 := ⟨_, rfl⟩
  have hMv : M.value = b ∧ M.view = 0 ∧ M.from_ = 0 := by rw [hM]; exact ⟨rfl, rfl, rfl⟩
  obtain ⟨x2, hx2⟩ : ∃ x2, x2 = { x1 with proposed := 0, props := [(0, M)], values := [b] } := ⟨_, rfl⟩
  have a6 : x1.step = some ([], x2) := by
    unfold RouS.step
    rw [a1, a2, a3]
    simp only [Option.none_or]
    unfold RouS.proposes
    rw [a4, if_neg (by rw [a5, hx1]; simp [RouS.new])]
    have e : RouS.proposal { x1 with proposed := x1.view } (RouS.sealed { x1 with proposed := x1.view } (propM x1.view b []) x1.me) = x2 := by
      have e1 : RouS.sealed { x1 with proposed := x1.view } (propM x1.view b []) x1.me = M := by rw [hM, hx1]; rfl
      rw [e1, hx2, hx1]
      simp [RouS.proposal, RouS.new, RouS.leads, hMv, hl, alook, aset, RouS.knows]
    simp only [e]
    rw [hall x2 _ (by rw [hx2, hx1]; exact hk) (by rw [hx2, hx1]; rfl)]
  -- what is prepared
  obtain ⟨v1, hv1⟩ : ∃ v, v = castV keys 1 0 0 (dHash b) 0 := ⟨_, rfl⟩
  have hv1' : v1.kind = 1 ∧ v1.view = 0 ∧ v1.sum = dHash b ∧ v1.from_ = 0 := by rw [hv1]; exact ⟨rfl, rfl, rfl, rfl⟩
  obtain ⟨x3, hx3⟩ : ∃ x3, x3 = { x2 with prepared := 0, prep := [(0, [v1])] } := ⟨_, rfl⟩
  have b1 : x2.settles = none := by rw [hx2, hx1]; simp [RouS.settles, RouS.new, sortT]
  have b2 : x2.prepares = some ([], x3) := by
    have e0 : alook x2.props x2.view = some M := by rw [hx2, hx1]; simp [RouS.new, alook]
    have e1 : mayL x2.keys x2.lock x2.slot x2.view M.value M.votes = true := by unfold mayL; rw [if_pos (.inl (by rw [hx2, hx1]; rfl))]
    have e2 : ¬ x2.view ≤ x2.prepared := by rw [hx2, hx1]; simp [RouS.new]
    unfold RouS.prepares
    rw [e0]
    simp only
    rw [if_neg (by rw [e1]; simp [e2])]
    have e3 : castV x2.keys 1 x2.slot x2.view (dHash M.value) x2.me = v1 := by rw [hMv.1, hv1, hx2, hx1]; rfl
    have e4 : RouS.counts { x2 with prepared := x2.view } v1 = x3 := by
      unfold RouS.counts
      rw [if_pos hv1'.1, hx3, hx2, hx1]
      simp [RouS.new, addV, balOf, alook, aset, hasV, hv1'.2.1]
    unfold RouS.votes
    simp only [e3, e4]
    rw [hall x3 _ (by rw [hx3, hx2, hx1]; exact hk) (by rw [hx3, hx2, hx1]; rfl)]
  have b3 : x2.step = some ([], x3) := by unfold RouS.step; rw [b1, b2]; rfl
  -- what is committed
  obtain ⟨v2, hv2⟩ : ∃ v, v = castV keys 2 0 0 (dHash b) 0 := ⟨_, rfl⟩
  have hv2' : v2.kind = 2 ∧ v2.view = 0 ∧ v2.sum = dHash b ∧ v2.from_ = 0 := by rw [hv2]; exact ⟨rfl, rfl, rfl, rfl⟩
  obtain ⟨x4, hx4⟩ : ∃ x4, x4 = { x3 with committed := 0, lock := ⟨0, b, [v1]⟩, comm := [(0, [v2])] } := ⟨_, rfl⟩
  have c1 : x3.settles = none := by rw [hx3, hx2, hx1]; simp [RouS.settles, RouS.new, sortT]
  have c2 : x3.prepares = none := by
    have e0 : alook x3.props x3.view = some M := by rw [hx3, hx2, hx1]; simp [RouS.new, alook]
    unfold RouS.prepares
    rw [e0]
    simp only
    rw [if_pos (.inl (by rw [hx3, hx2, hx1]; simp [RouS.new]))]
  have hen : ∀ (x : RouS) (v : Vote), x.keys.length = 1 → x.values = [b] → v.sum = dHash b → x.enough [v] = some (b, [v]) := by
    intro x v e1 e2 e3
    unfold RouS.enough
    rw [e1, e2, quorum1]
    simp [e3, sortV]
  have c3 : x3.commits = some ([], x4) := by
    have e2 : ¬ x3.view ≤ x3.committed := by rw [hx3, hx2, hx1]; simp [RouS.new]
    have e0 : balOf x3.prep x3.view = [v1] := by rw [hx3, hx2, hx1]; simp [RouS.new, balOf, alook]
    unfold RouS.commits
    rw [if_neg e2, e0, hen x3 v1 (by rw [hx3, hx2, hx1]; exact hk) (by rw [hx3, hx2]) hv1'.2.2.1]
    simp only
    have e3 : castV x3.keys 2 x3.slot x3.view (dHash b) x3.me = v2 := by rw [hv2, hx3, hx2, hx1]; rfl
    have e4 : RouS.counts { x3 with committed := x3.view, lock := ⟨x3.view, b, [v1]⟩ } v2 = x4 := by
      unfold RouS.counts
      rw [if_neg (by rw [hv2'.1]; decide), hx4, hx3, hx2, hx1]
      simp [RouS.new, addV, balOf, alook, aset, hasV, hv2'.2.1]
    unfold RouS.votes
    simp only [e3, e4]
    rw [hall x4 _ (by rw [hx4, hx3, hx2, hx1]; exact hk) (by rw [hx4, hx3, hx2, hx1]; rfl)]
  have c4 : x3.step = some ([], x4) := by unfold RouS.step; rw [c1, c2, c3]; rfl
  -- what is decided
  have d1 : x4.settles = some ([], x4.decides b [v2]) := by
    have e0 : sortT x4.comm = [(0, [v2])] := by rw [hx4]; simp [sortT]
    unfold RouS.settles
    rw [e0]
    simp [hen x4 v2 (by rw [hx4, hx3, hx2, hx1]; exact hk) (by rw [hx4, hx3, hx2]) hv2'.2.2.1]
  have d2 : x4.step = some ([], x4.decides b [v2]) := by unfold RouS.step; rw [d1]; rfl
  have f1 : x1.decided = false := by rw [hx1]; rfl
  have f2 : x2.decided = false := by rw [hx2, hx1]; rfl
  have f3 : x3.decided = false := by rw [hx3, hx2, hx1]; rfl
  have f4 : x4.decided = false := by rw [hx4, hx3, hx2, hx1]; rfl
  refine ⟨x4.decides b [v2], ?_, rfl, rfl, by rw [hx4, hx3, hx2, hx1]; rfl⟩
  rw [steps_some f1 a6, steps_some f2 b3, steps_some f3 c4, steps_some f4 d2, steps_done _ rfl]
  rfl
end Go.Proofs.YtomijhgicennbaaGreat
namespace Go.Proofs.YtomijhgicennbaaGreat
open Go
set_option maxHeartbeats 4000000
set_option linter.unusedSimpArgs false
set_option linter.unusedVariables false
set_option maxRecDepth 20000
abbrev h1 (n : UInt8) : Hash := ⟨n :: List.replicate 31 0, by simp⟩
theorem new_OK (keys : List Hash) (hk : keys.length ≤ 10) (me slot : Int) (hm : 0 ≤ me ∧ me ≤ 9) : RouOK (RouS.new keys me slot) 0 :=
  ⟨hk, hm, by simp [RouS.new], by simp [RouS.new], by simp [RouS.new], okT_nil 8, by simp [RouS.new], okBal_nil 0, okBal_nil 0, by simp [RouS.new], lockOk_free, by simp [RouS.new], by simp [RouS.new], by simp [RouS.new]⟩
theorem known_ok : Trip Tryz.prog 18 [] [] (fun r l => r = vb true ∧ l = []) := by
  have s1 : Trip Tryz.prog 16 [vi 1, .agg (hc (h1 1)).toArray] [] _ := newRing_ok 1 (h1 1)
  have hk : (keysOf (min (max (1 : Int) 1) 10).toNat (h1 1)).length = 1 := by rw [keysOf_len]; rfl
  generalize keysOf (min (max (1 : Int) 1) 10).toNat (h1 1) = keys at *
  have s2 := fun rb => New_ok rb keys 0 0
  obtain ⟨y, hy, hd, hval, hview⟩ := alone keys hk [120] (by decide) (by decide)
  have hO := new_OK keys (by omega) 0 0 (by omega)
  have hO2 : RouOK (RouS.Want (RouS.new keys 0 0) [120]).2 5 := by
    have := (steps_OK 5 (wanted_OK (b := [120]) hO)).1
    unfold RouS.Want
    rw [if_neg (by simp [RouS.new])]
    exact this
  have s3 := fun b m a c => Want_ok b (RouS.new keys 0 0) m 0 hO (by omega) (a, c) [120] (by simp)
  rw [hy] at s3 hO2
  have s4 := fun b m => Decided_ok b y m (by have := hO2.value; simp only at this; omega) (by have := hO2.why; simp only at this; omega)
  simp only [rouL, List.cons_append, List.nil_append] at *
  refine Trip.of_body Tryz.func18 rfl Tryz.ntmps18 Tryz.results18 rfl ?_
  refine Wsr (Ls (Rdo.assign rfl) (Lnt (Wsr (Ls (Rdo.bldArr1 rfl rfl) ?_))))
  refine WpL.step (Sc (s1) rfl ?_)
  rintro _ _ ⟨v9_0, ⟨rfl, rfl⟩⟩
  refine Ll ?_
  refine Ls (Rdo.assign rfl) (Lnt (Wsr (Ls (Rdo.move rfl) ?_)))
  refine WpL.step (Sc (s2 _) rfl ?_)
  rintro _ _ ⟨v18_0, ⟨v18_1, ⟨rfl, rfl⟩⟩⟩
  refine Ll ?_
  refine Ls (Rdo.assign rfl) (Lnt (Wp.seq (Wsr (Ls (Rdo.move rfl) (Ls (Rdo.eqnil rfl rfl) (Lnt ?_))))))
  refine Wp.condF rfl ?_
  refine Wp.skip (Thn.n (Wsr (Ls (Rdo.move rfl) ?_)))
  (refine WpL.step (Stp.sliceV rfl rfl (VCs.cons (VC.i _ _) (by first | rfl | assumption | (simp <;> done)) VCs.nil) (by simp only [List.cons_append, List.nil_append, List.append_nil]; exact rfl) rfl rfl ?_); intro nb36)
  refine WpL.step (Stp.convBytes rfl rfl (by repeat (first | exact Pk.here | apply Pk.next)) rfl rfl ?_)
  refine WpL.step (Sc (s3 _ _ _ _) rfl ?_)
  rintro _ _ ⟨v39_0, ⟨v39_1, ⟨rfl, rfl⟩⟩⟩
  refine Ll ?_
  refine Ls (Rdo.assign rfl) (Lnt (Wsr (Ls (Rdo.move rfl) ?_)))
  refine WpL.step (Sc (s4 _ _) rfl ?_)
  rintro _ _ ⟨v48_0, ⟨rfl, rfl⟩⟩
  refine Ll ?_
  refine Ls (Rdo.move rfl) (Ls (Rdo.extract rfl rfl) (Ls (Rdo.extract rfl rfl) (Ls (Rdo.extract rfl rfl) (Ls (Rdo.assign rfl) (Ls (Rdo.assign rfl) (Ls (Rdo.assign rfl) (Lnt (Wsr (Ls (Rdo.move rfl) (Ls (Rdo.lenSlice rfl) (Ls (Rdo.eqi rfl rfl) (Ls (Rdo.move rfl) (Lw rfl rfl (Rdo.move rfl) ?_)))))))))))))
  refine Ls (Rdo.pick_t rfl rfl) (Ls (Rdo.move rfl) (Lg rfl rfl (Lw rfl rfl (Rdo.move rfl) (Lw rfl rfl (Rdo.bytesStr rfl (Src.next (Src.next (Src.next Src.frozen)))) (Lw rfl rfl (Rdo.eqVs rfl rfl) (Ls (Rdo.pick_t rfl rfl) (Ls (Rdo.assign rfl) (Lnt (Wp.ret ?_)))))))))
  refine Rt (ResV.tmp rfl ResV.nil) ⟨(by first | rfl | (simp [packed] <;> done) | (simp_all [packed] <;> done)), rfl⟩
end Go.Proofs.YtomijhgicennbaaGreat
namespace Go.Proofs.YtomijhgicennbaaGreat
open Go
set_option maxHeartbeats 4000000
set_option linter.unusedSimpArgs false
set_option linter.unusedVariables false
set_option maxRecDepth 20000
/-- How many zeros follow the mark. -/
def rPad (n : Nat) : Nat := (119 - n % 64) % 64
theorem rPad_lt (n : Nat) : rPad n < 64 := by unfold rPad; omega
theorem rPad_mod (n : Nat) : (n + 1 + rPad n) % 64 = 56 := by unfold rPad; omega
theorem rPad_least (n i : Nat) (h : i < rPad n) : ¬ (n + 1 + i) % 64 = 56 := by unfold rPad at h; omega
/-- The digits of the length, the highest first: the first k of them. -/
def rDig (n : Nat) : Nat → List UInt8
  | 0 => []
  | k + 1 => rDig n k ++ [UInt8.ofNat (dDigit n (7 - k)).toNat]
theorem rDig_len (n k : Nat) : (rDig n k).length = k := by
  induction k with
  | zero => rfl
  | succ k ih => simp [rDig, ih]
theorem rDig_at (n k i : Nat) (h : i < k) : (rDig n k).getD i 0 = UInt8.ofNat (dDigit n (7 - i)).toNat := by
  induction k with
  | zero => omega
  | succ k ih =>
    simp only [rDig, List.getD_eq_getElem?_getD] at ih ⊢
    by_cases e : i = k
    · subst e
      rw [List.getElem?_append_right (by rw [rDig_len]; omega), rDig_len, Nat.sub_self]
      rfl
    · rw [List.getElem?_append_left (by rw [rDig_len]; omega)]
      exact ih (by omega)
def rMsg (bs : List UInt8) : List UInt8 := bs ++ [128] ++ List.replicate (rPad bs.length) 0 ++ rDig bs.length 8
theorem rMsg_len (bs : List UInt8) : (rMsg bs).length = bs.length + 1 + rPad bs.length + 8 := by
  simp only [rMsg, List.length_append, List.length_replicate, rDig_len, List.length_cons, List.length_nil]
theorem dW1_congr {bs cs : List UInt8} (h : ∀ i, i < 64 → bs.getD i 0 = cs.getD i 0) (n : Nat) (hn : n ≤ 16) : dW1 bs n = dW1 cs n := by
  induction n with
  | zero => rw [dW1_zero, dW1_zero]
  | succ n ih =>
    rw [dW1_succ, dW1_succ, ih (by omega)]
    unfold dSet1 byteI
    rw [h _ (by omega), h _ (by omega), h _ (by omega), h _ (by omega)]
theorem dW2_congr {bs cs : List UInt8} (h : ∀ i, i < 64 → bs.getD i 0 = cs.getD i 0) (n : Nat) : dW2 bs n = dW2 cs n := by
  induction n with
  | zero => rw [dW2_zero, dW2_zero, dW1_congr h 16 (by omega)]
  | succ n ih => rw [dW2_succ, dW2_succ, ih]
theorem dBlock_congr (K : List Int) (s : V8) {bs cs : List UInt8} (h : ∀ i, i < 64 → bs.getD i 0 = cs.getD i 0) : dBlock K s bs = dBlock K s cs := by
  unfold dBlock
  rw [dW2_congr h]
theorem getD_drop (bs : List UInt8) (n i : Nat) : (bs.drop n).getD i 0 = bs.getD (n + i) 0 := by
  simp [List.getD_eq_getElem?_getD, List.getElem?_drop]
theorem getD_take (bs : List UInt8) (n i : Nat) (h : i < n) : (bs.take n).getD i 0 = bs.getD i 0 := by
  simp [List.getD_eq_getElem?_getD, List.getElem?_take, h]
theorem dBlocks_congr (K : List Int) (s : V8) {bs cs : List UInt8} (n : Nat) (h : ∀ i, i < 64 * n → bs.getD i 0 = cs.getD i 0) : dBlocks K s bs n = dBlocks K s cs n := by
  induction n with
  | zero => rfl
  | succ n ih =>
    rw [dBlocks_succ, dBlocks_succ, ih (fun i hi => h i (by omega))]
    refine dBlock_congr _ _ fun i hi => ?_
    rw [getD_drop, getD_drop]
    exact h _ (by omega)
theorem dBlocks_add (K : List Int) (s : V8) (bs : List UInt8) (q e : Nat) : dBlocks K s bs (q + e) = dBlocks K (dBlocks K s bs q) (bs.drop (64 * q)) e := by
  induction e with
  | zero => rfl
  | succ e ih =>
    rw [← Nat.add_assoc, dBlocks_succ, dBlocks_succ, ih, List.drop_drop]
    congr 2
    omega
theorem getD_set (l : List UInt8) (i j : Nat) (v : UInt8) (hj : j < l.length) : (l.set j v).getD i 0 = if i = j then v else l.getD i 0 := by
  simp only [List.getD_eq_getElem?_getD]
  by_cases h : i = j
  · subst h
    rw [if_pos rfl, List.getElem?_set_self hj]
    rfl
  · rw [if_neg h, List.getElem?_set_ne (by omega)]
theorem dTail_getD (n : Nat) (R : List UInt8) (h : R.length < 64) (k : Nat) (hk : k ≤ 8) (i : Nat) (hi : i < dEnd R) :
    (dTail n R k).getD i 0 = if dEnd R - k ≤ i then UInt8.ofNat (dDigit n (dEnd R - 1 - i)).toNat else if i < R.length then R.getD i 0 else if i = R.length then 128 else 0 := by
  have hE : dEnd R = 64 ∧ R.length < 56 ∨ dEnd R = 128 := by unfold dEnd; split <;> omega
  induction k with
  | zero =>
    rw [if_neg (by omega)]
    unfold dTail dLast
    rw [getD_set _ _ _ _ (by simp; omega)]
    by_cases e : i = R.length
    · rw [if_pos e, if_neg (by omega), if_pos e]
    · rw [if_neg e, if_neg e]
      simp only [List.getD_eq_getElem?_getD]
      by_cases hlt : i < R.length
      · rw [if_pos hlt, List.getElem?_append_left hlt]
      · rw [if_neg hlt, List.getElem?_append_right (by omega), List.getElem?_replicate]
        split <;> rfl
  | succ k ih =>
    have hl := dTail_len n R (by omega) k
    rw [dTail, getD_set _ _ _ _ (by omega), ih (by omega)]
    by_cases e : i = dEnd R - 1 - k
    · rw [if_pos e, if_pos (by omega)]
      congr 3
      omega
    · rw [if_neg e]
      by_cases h2 : dEnd R - k ≤ i
      · rw [if_pos h2, if_pos (by omega)]
      · rw [if_neg h2, if_neg (show ¬ dEnd R - (k + 1) ≤ i by omega)]
theorem rMsg_getD (bs : List UInt8) (q : Nat) (hq : q = bs.length / 64) (i : Nat) (hi : i < dEnd (bs.drop (64 * q))) :
    (rMsg bs).getD (64 * q + i) 0 = (dTail bs.length (bs.drop (64 * q)) 8).getD i 0 := by
  have hR : (bs.drop (64 * q)).length = bs.length % 64 := by simp; omega
  have hE : dEnd (bs.drop (64 * q)) = 64 ∧ bs.length % 64 < 56 ∨ dEnd (bs.drop (64 * q)) = 128 ∧ 56 ≤ bs.length % 64 := by unfold dEnd; rw [hR]; split <;> omega
  have hP : bs.length % 64 + 1 + rPad bs.length = dEnd (bs.drop (64 * q)) - 8 := by unfold rPad; omega
  rw [dTail_getD _ _ (by omega) 8 (by omega) i hi, hR, getD_drop]
  generalize dEnd (bs.drop (64 * q)) = E at *
  unfold rMsg
  simp only [List.getD_eq_getElem?_getD]
  by_cases h1 : i < bs.length % 64
  · rw [if_neg (by omega), if_pos h1, List.append_assoc, List.append_assoc, List.getElem?_append_left (by omega)]
  · by_cases h2 : i = bs.length % 64
    · rw [if_neg (by omega), if_neg h1, if_pos h2, List.append_assoc, List.append_assoc, List.getElem?_append_right (by omega), List.getElem?_append_left (by simp; omega), show 64 * q + i - bs.length = 0 by omega]
      rfl
    · by_cases h3 : E - 8 ≤ i
      · rw [if_pos h3, List.getElem?_append_right (by simp; omega)]
        have hd := rDig_at bs.length 8 (i - (E - 8)) (by omega)
        rw [List.getD_eq_getElem?_getD] at hd
        have e1 : 64 * q + i - (bs ++ [128] ++ List.replicate (rPad bs.length) 0).length = i - (E - 8) := by simp; omega
        rw [e1, hd]
        congr 3
        omega
      · rw [if_neg h3, if_neg h1, if_neg h2, List.getElem?_append_left (by simp; omega), List.getElem?_append_right (by simp; omega), List.getElem?_replicate]
        split <;> rfl
/-- What is told: a word's bytes, one by one. -/
def rByteAt (s : List Int) (i : Nat) : Int := if i % 4 = 3 then IntKind.u8.wrap (s.getD (i / 4) 0) else dByte (s.getD (i / 4) 0) ((24 - 8 * (i % 4) : Nat) : Int)
def rOut (s : List Int) : Nat → List Int
  | 0 => List.replicate 32 0
  | i + 1 => (rOut s i).set i (rByteAt s i)
theorem rOut_len (s : List Int) (i : Nat) : (rOut s i).length = 32 := by
  induction i with
  | zero => simp [rOut]
  | succ i ih => simp [rOut, ih]
theorem rOut_eq (v : V8) : rOut v.l 32 = dOut v.l 8 := by
  obtain ⟨a, b, c, d, e, f, g, h⟩ := v
  rfl
theorem rMsg_blocks (bs : List UInt8) : (rMsg bs).length = 64 * (bs.length / 64 + dEnd (bs.drop (64 * (bs.length / 64))) / 64) := by
  have hR : (bs.drop (64 * (bs.length / 64))).length = bs.length % 64 := by simp; omega
  rw [rMsg_len]
  unfold dEnd
  rw [hR]
  unfold rPad
  split <;> omega
theorem rSum_eq (bs : List UInt8) : rOut (dBlocks dK dS8 (rMsg bs) ((rMsg bs).length / 64)).l 32 = dSum bs := by
  rw [rOut_eq, rMsg_blocks, Nat.mul_div_cancel_left _ (by omega)]
  unfold dSum
  simp only
  congr 2
  rw [dBlocks_add]
  have h1 : dBlocks dK dS8 (rMsg bs) (bs.length / 64) = dBlocks dK dS8 bs (bs.length / 64) := by
    refine dBlocks_congr _ _ _ fun i hi => ?_
    unfold rMsg
    simp only [List.getD_eq_getElem?_getD, List.append_assoc]
    rw [List.getElem?_append_left (by omega)]
  rw [h1]
  refine dBlocks_congr _ _ _ fun i hi => ?_
  have hE : dEnd (bs.drop (64 * (bs.length / 64))) = 64 ∨ dEnd (bs.drop (64 * (bs.length / 64))) = 128 := by unfold dEnd; split <;> simp
  rw [getD_drop]
  exact rMsg_getD bs _ rfl i (by omega)
end Go.Proofs.YtomijhgicennbaaGreat
namespace Go.Proofs.YtomijhgicennbaaGreat
open Go
set_option maxHeartbeats 4000000
set_option linter.unusedSimpArgs false
set_option linter.unusedVariables false
set_option maxRecDepth 20000
theorem and127 (n : Nat) (h : n < 18446744073709551616) : bits .and .u64 (n : Int) 127 = ((n % 128 : Nat) : Int) := by
  have h2 := u64_and_nat n 127 h (by omega)
  have h3 : n &&& 127 = n % 128 := Nat.and_two_pow_sub_one_eq_mod n 7
  rw [← h3]
  exact h2
theorem lay_hi2 (n : Nat) (h : n < 18446744073709551616) : bits .or .u8 (IntKind.u8.wrap (bits .and .u64 (n : Int) 127)) 128 = ((UInt8.ofNat (n % 128 + 128)).toNat : Int) := by
  rw [and127 n h, lay_hi]
  rw [Nat.mod_mod]
theorem numAny_ok (v : Int) : Trip Tryz.prog 98 [vi v] [] (fun r l => ∃ a c, r = .slice a (numB (clampN v)).length c ∧ l = [rowA 5 1 (.slice a (numB (clampN v)).length c) (numB (clampN v)).length (bytesC (numB (clampN v)))]) := by
  refine Trip.of_body Tryz.func98 rfl Tryz.ntmps98 Tryz.results98 rfl ?_
  refine Wsr (Ls (Rdo.assign rfl) (Lnt (Wsr (Ls (Rdo.assign rfl) (Lnt (Wp.seq (Wsr (Ls (Rdo.move rfl) (Ls (Rdo.gti rfl rfl) (Lnt ?_))))))))))
  have hcl := clampN_lt v
  refine Wp.mono (Q := fun x e' l' => x = .normal ∧ EnvSub [(0, vi v), (3, .int .u64 (clampN v))] e' ∧ Gh l' []) ?_ ?_
  · by_cases h1 : (4611686018427387904 : Int) < v
    · have hc : clampN v = 4611686018427387904 := by unfold clampN; rw [if_neg (by omega), if_pos h1]
      rw [hc]
      refine cK rfl (Wp.region (Ls (Rdo.assign rfl) (WpL.nil ?_)))
      exact ⟨rfl, (by repeat (first | exact trivial | refine ⟨rfl, ?_⟩)), Gk⟩
    · by_cases h2 : v > 0
      · have hc : IntKind.u64.wrap v = (clampN v : Int) := by
          have := clamp_wrap v
          rwa [if_neg h1, if_pos h2] at this
        refine cL rfl (Wsr (Ls (Rdo.move rfl) (Ls (Rdo.gti rfl rfl) (Lnt (cK rfl (Wp.region (Ls (Rdo.move rfl) (Ls (Rdo.convInt rfl) (Ls (Rdo.assign rfl) (WpL.nil ?_))))))))))
        rw [hc]
        exact ⟨rfl, (by repeat (first | exact trivial | refine ⟨rfl, ?_⟩)), Gk⟩
      · have hc : clampN v = 0 := by unfold clampN; split <;> (try split) <;> omega
        rw [hc]
        refine cL rfl (Wsr (Ls (Rdo.move rfl) (Ls (Rdo.gti rfl rfl) (Lnt (cL rfl (Wp.skip ?_))))))
        exact ⟨rfl, (by repeat (first | exact trivial | refine ⟨rfl, ?_⟩)), Gk⟩
  · rintro x e' l' ⟨rfl, he, hg⟩
    refine Thn.n (Wp.gh hg (Wp.sub he ?_))
    have hc9 := numB_clamp_len v
    refine Wsr (Ls (Rdo.assign rfl) (Lnt (Wp.seq (Wp.block ?_))))
    refine Wp.loopE (fun k e h => ∃ (pre : List UInt8) (a : Option Addr) (c : Nat), pre ++ numB k = numB (clampN v) ∧ k ≤ clampN v ∧ e = [(0, vi v), (3, .int .u64 k), (4, .slice a pre.length c)] ∧ h = [rowA 5 1 (.slice a pre.length c) pre.length (bytesC pre)]) (clampN v)
      (e0 := [(0, vi v), (3, .int .u64 (clampN v)), (4, .slice none 0 0)]) (l0 := [rowA 5 1 (.slice none 0 0) 0 []]) (by repeat (first | exact trivial | refine ⟨rfl, ?_⟩)) (by repeat (first | exact trivial | refine ⟨rfl, ?_⟩)) (Gh.trans (Gh.nil 5 1) Gk) ⟨[], none, 0, rfl, Nat.le_refl _, rfl, rfl⟩ ?_
    rintro m e h ⟨pre, a, c, hpre, hle, rfl, rfl⟩
    have hnp := numB_pos m
    have hp9 : pre.length + (numB m).length ≤ 9 := by rw [← List.length_append, hpre]; exact hc9
    by_cases hm : 128 ≤ m
    · have hsh := shr7 m
      have hm' : (m : Int) ≥ 128 := by omega
      have hlay := lay_hi2 m (by omega)
      refine Wp.seq (Wsr (Ls (Rdo.move rfl) (Ls (Rdo.gei rfl rfl) (Lnt (cK rfl (Wp.skip (Thn.n (Wp.block (Wsr (Ls (Rdo.move rfl) (Ls (Rdo.move rfl) (Ls (Rdo.and rfl rfl) (Ls (Rdo.convInt rfl) ?_)))))))))))))
      refine Ls (Rdo.or rfl rfl) ?_
      (refine WpL.step (Stp.sliceV rfl rfl (VCs.cons (VC.i _ _) (by first | rfl | assumption | (simp <;> done)) VCs.nil) (by simp only [List.cons_append, List.nil_append, List.append_nil]; exact rfl) rfl rfl ?_); intro nb18)
      (refine WpL.step (Stp.appendP rfl rfl (Pk.next Pk.here) (Src.cel (by first | rfl | (simp <;> done) | (simp <;> omega))) (by first | rfl | assumption | (simp <;> done) | (simp <;> omega)) (by first | assumption | exact oneCells1 rfl | exact oneCells1 (by assumption) | exact oneCells_bytesC _ | exact oneCells_votesC _ | (simp [oneCells, Value.oneCell'] <;> done)) (by first | omega | (simp <;> omega)) (by first | omega | (simp <;> omega)) rfl (by first | rfl | (simp <;> done)) ?_); intro na19 nc19)
      refine Ls (Rdo.assign rfl) (Lnt (Wp.region (Ls (Rdo.move rfl) ?_)))
      refine Ls (Rdo.shrE rfl rfl (by omega) (by assumption)) ?_
      refine Ls (Rdo.assign rfl) (WpL.nil (Blk.n (Thn.n ?_)))
      rw [hlay, ← bytesC_snoc]
      have e1 : pre.length + 1 = (pre ++ [UInt8.ofNat (m % 128 + 128)]).length := by simp
      rw [e1]
      exact ⟨m / 128, _, _, by omega, ⟨pre ++ [UInt8.ofNat (m % 128 + 128)], _, _, by rw [← hpre, numB_ge (n := m) (by omega)]; simp, by omega, rfl, rfl⟩, (by repeat (first | exact trivial | refine ⟨rfl, ?_⟩)), Gk⟩
    · have hm' : ¬ (m : Int) ≥ 128 := by omega
      have hlay := lay_lo m (by omega)
      have e2 : pre ++ [UInt8.ofNat m] = numB (clampN v) := by rw [← hpre, numB_lt (n := m) (by omega)]
      have e1 : pre.length + 1 = (numB (clampN v)).length := by rw [← e2]; simp
      refine Wp.seq (Wsr (Ls (Rdo.move rfl) (Ls (Rdo.gei rfl rfl) (Lnt (cL rfl ?_)))))
      refine Wp.exit ?_
      refine Thn.x ?_
      refine Thn.x ?_
      refine Blk.here ?_
      refine Thn.n (Wsr (Ls (Rdo.move rfl) (Ls (Rdo.move rfl) (Ls (Rdo.convInt rfl) ?_))))
      (refine WpL.step (Stp.sliceV rfl rfl (VCs.cons (VC.i _ _) (by first | rfl | assumption | (simp <;> done)) VCs.nil) (by simp only [List.cons_append, List.nil_append, List.append_nil]; exact rfl) rfl rfl ?_); intro nb18)
      (refine WpL.step (Stp.appendP rfl rfl (Pk.next Pk.here) (Src.cel (by first | rfl | (simp <;> done) | (simp <;> omega))) (by first | rfl | assumption | (simp <;> done) | (simp <;> omega)) (by first | assumption | exact oneCells1 rfl | exact oneCells1 (by assumption) | exact oneCells_bytesC _ | exact oneCells_votesC _ | (simp [oneCells, Value.oneCell'] <;> done)) (by first | omega | (simp <;> omega)) (by first | omega | (simp <;> omega)) rfl (by first | rfl | (simp <;> done)) ?_); intro na19 nc19)
      refine Ls (Rdo.assign rfl) (Lnt (Wp.ret ?_))
      rw [hlay, ← bytesC_snoc, e1, e2]
      exact Rt (by repeat (first | exact ResV.nil | apply ResV.tmp rfl | apply ResV.cell rfl (by repeat (first | exact Lds.one rfl | (apply Lds.all; (first | rfl | assumption | (simp <;> fail))) | exact Lds.ione0 | exact Lds.ione rfl | (apply Lds.iall; (first | rfl | assumption | (simp <;> fail))) | apply Lds.next)))) ⟨_, _, rfl, rfl⟩
theorem num_ok (v : Int) (hv : -9223372036854775808 ≤ v ∧ v ≤ 9223372036854775807) : Trip Tryz.prog 98 [vi v] [] (fun r l => ∃ a c, r = .slice a (numB (clampN v)).length c ∧ l = [rowA 5 1 (.slice a (numB (clampN v)).length c) (numB (clampN v)).length (bytesC (numB (clampN v)))]) := numAny_ok v
abbrev nsE (v : Value) (w : Value) (i : Nat) : Env := [(0, v), (3, w), (4, vi i)]
theorem numsAny_ok (nb : Nat) (ns : List Int) (hl : 9 * ns.length ≤ 1099511627776) :
    Trip Tryz.prog 60 [.slice (some ⟨nb, 0, none⟩) ns.length ns.length] [cel nb 3 (ns.map vi)]
      (fun r l => ∃ a c, r = .slice a (numsB ns).length c ∧ l = [rowA 5 1 (.slice a (numsB ns).length c) (numsB ns).length (bytesC (numsB ns))]) := by
  refine Trip.of_body Tryz.func60 rfl Tryz.ntmps60 Tryz.results60 rfl ?_
  refine Wsr (Ls (Rdo.assign rfl) (Lnt (Wsr (Ls (Rdo.assign rfl) (Lnt (Wp.seq (Wsr (Ls (Rdo.assign rfl) (Lnt (Wp.block ?_))))))))))
  refine Wp.loopE (fun k e h => ∃ (i : Nat) (a : Option Addr) (c : Nat), i + k = ns.length ∧ e = nsE (.slice (some ⟨nb, 0, none⟩) ns.length ns.length) (.slice a (numsB (ns.take i)).length c) i ∧ h = [rowA 5 1 (.slice a (numsB (ns.take i)).length c) (numsB (ns.take i)).length (bytesC (numsB (ns.take i))), cel nb 3 (ns.map vi)]) ns.length
    (e0 := nsE (.slice (some ⟨nb, 0, none⟩) ns.length ns.length) (.slice none 0 0) 0) (l0 := [rowA 5 1 (.slice none 0 0) 0 [], cel nb 3 (ns.map vi)]) (by repeat (first | exact trivial | refine ⟨rfl, ?_⟩)) (by repeat (first | exact trivial | refine ⟨rfl, ?_⟩)) (Gh.trans (Gh.nil 5 1) Gk) ⟨0, none, 0, by omega, rfl, rfl⟩ ?_
  rintro k e h ⟨i, a, c, hik, rfl, rfl⟩
  have hB := numsB_len (ns.take i)
  rw [List.length_take] at hB
  by_cases hi : i < ns.length
  · have hi' : (i : Int) < ns.length := by omega
    have h1 : ns[i]? = some ns[i] := List.getElem?_eq_getElem hi
    have h2 : (ns.map vi)[0 + i * 1]? = some (vi ns[i]) := by rw [show 0 + i * 1 = i by omega, List.getElem?_map, h1]; rfl
    have s1 := numAny_ok ns[i]
    have h9 := numB_clamp_len ns[i]
    generalize ns[i] = x at *
    have htk : numsB (ns.take (i + 1)) = numsB (ns.take i) ++ numB (clampN x) := by simp [numsB, List.take_add_one, h1]
    generalize numB (clampN x) = M at *
    generalize hN1 : numsB (ns.take (i + 1)) = N1 at htk
    generalize numsB (ns.take i) = N0 at *
    refine Wp.seq (Wsr (Ls (Rdo.move rfl) (Ls (Rdo.move rfl) (Ls (Rdo.lenSlice rfl) (Ls (Rdo.lti rfl rfl) (Lnt (cK rfl (Wp.skip (Thn.n (Wp.seq (Wp.block (Wp.region (Ls (Rdo.move rfl) ?_)))))))))))))
    refine Ls (Rdo.move rfl) (Ls (Rdo.move rfl) ?_)
    refine Ls (Rdo.indexSlice rfl rfl (by omega)) ?_
    refine Ls (Rdo.load rfl (Lds.next (Lds.one (by assumption)))) ?_
    refine WpL.step (Sc (s1) rfl ?_)
    rintro _ _ ⟨v21_0, ⟨v21_1, ⟨rfl, rfl⟩⟩⟩
    refine Ll ?_
    refine WpL.gh (Gh.ice Pk.here) ?_
    refine WpL.step (Stp.appendP rfl rfl (Pk.next Pk.here) Src.frozen (by simp [bytesC_length]) (oneCells_bytesC M) (by omega) (by omega) rfl (by rfl) ?_)
    intro na nc
    have e1 : N0.length + M.length = N1.length := by rw [htk, List.length_append]
    have e2 : bytesC N0 ++ bytesC M = bytesC N1 := by rw [htk]; simp [bytesC]
    rw [e1, e2]
    subst hN1
    refine Ls (Rdo.assign rfl) (WpL.nil (Blk.n (Thn.n (Wp.region (Ls (Rdo.move rfl) ?_)))))
    refine Ls (Rdo.succ rfl rfl (by omega)) ?_
    refine Ls (Rdo.assign rfl) (Lnt ?_)
    exact ⟨k - 1, _, _, by omega, ⟨i + 1, na, nc, by omega, rfl, rfl⟩, (by repeat (first | exact trivial | refine ⟨rfl, ?_⟩)), Gk⟩
  · have hfull : ns.take i = ns := List.take_of_length_le (by omega)
    rw [hfull]
    refine Wp.seq (Wsr (Ls (Rdo.move rfl) (Ls (Rdo.move rfl) (Ls (Rdo.lenSlice rfl) (Ls (Rdo.lti rfl rfl) (Lnt (cL rfl ?_)))))))
    refine Wp.exit ?_
    refine Thn.x ?_
    refine Thn.x ?_
    refine Blk.here ?_
    refine Thn.n (Wsr (Ls (Rdo.move rfl) (Ls (Rdo.assign rfl) (Lnt (Wp.ret ?_)))))
    refine Rt (ResV.tmp rfl ResV.nil) ⟨_, ⟨_, ⟨rfl, rfl⟩⟩⟩
end Go.Proofs.YtomijhgicennbaaGreat
namespace Go.Proofs.YtomijhgicennbaaGreat
open Go
set_option maxHeartbeats 4000000
set_option linter.unusedSimpArgs false
set_option linter.unusedVariables false
set_option maxRecDepth 20000
theorem rk_ok : Trip Tryz.prog 96 [] [] (fun r l => r = .agg (dK.map v32).toArray ∧ l = []) := by
  refine Trip.of_body Tryz.func96 rfl Tryz.ntmps96 Tryz.results96 rfl ?_
  refine Wsr ?_
  (refine WpL.step (Stp.alloc rfl ?_); intro nb2)
  refine Lnt (Wsr (Ls (Rdo.bldArr1 rfl rfl) ?_))
  refine WpL.step (St rfl rfl (VC.ag _) ?_)
  refine Lnt (Wp.ret ?_)
  refine Rt (ResV.cell rfl (by repeat (first | exact Lds.one rfl | (apply Lds.all; (first | rfl | assumption | (simp <;> fail))) | exact Lds.ione0 | exact Lds.ione rfl | (apply Lds.iall; (first | rfl | assumption | (simp <;> fail))) | apply Lds.next)) ResV.nil) ⟨rfl, rfl⟩
theorem rr_ok (x n : Int) (hn : 0 ≤ n ∧ n ≤ 32) : Trip Tryz.prog 138 [v32 x, .int .u64 n] [] (fun r l => r = v32 (dTurn x n) ∧ l = []) := by
  have hw : 0 ≤ IntKind.u64.wrap (32 - n) := wrap_u64_nonneg _
  unfold dTurn
  refine Trip.of_body Tryz.func138 rfl Tryz.ntmps138 Tryz.results138 rfl ?_
  refine Wsr (Ls (Rdo.assign rfl) (Lnt (Wsr (Ls (Rdo.move rfl) (Ls (Rdo.move rfl) ?_)))))
  refine Ls (Rdo.shr rfl rfl (by omega)) ?_
  refine Ls (Rdo.move rfl) (Ls (Rdo.move rfl) (Ls (Rdo.sub rfl rfl) ?_))
  refine Ls (Rdo.shl rfl rfl (by omega)) ?_
  refine Ls (Rdo.or rfl rfl) (Ls (Rdo.assign rfl) (Lnt (Wp.ret ?_)))
  refine Rt (ResV.tmp rfl ResV.nil) ⟨rfl, rfl⟩
abbrev rbE (v : Value) (kb ns nr nw i : Nat) : Env := [(1, v), (2, vp kb 0), (3, vp ns 0), (6, vp nr 0), (7, vp nw 0), (8, vi i)]
abbrev rbL (Kl : List Int) (kb ns nr nw : Nat) (S : V8) (v : Value) (bs : List UInt8) (W : List Int) : List HP := [cel nw 136 (W.map v32), cel ns 134 S.C, cel nr 134 (List.replicate 8 (.int .u32 0)), cel kb 136 (Kl.map v32), fz (fun g => RdBytes g v bs)]
abbrev rcE (kb ns nr nw nv m : Nat) : Env := [(2, vp kb 0), (3, vp ns 0), (6, vp nr 0), (7, vp nw 0), (12, vp nv 0), (13, vi m)]
abbrev reE (ns nr nv i : Nat) : Env := [(3, vp ns 0), (6, vp nr 0), (12, vp nv 0), (18, vi i)]
abbrev reL (Kl : List Int) (kb ns nr nv : Nat) (V : V8) (v : Value) (bs : List UInt8) (A : List Int) : List HP := [cel ns 134 (A.map v32), cel nv 134 V.C, cel nr 134 (List.replicate 8 (.int .u32 0)), cel kb 136 (Kl.map v32), fz (fun g => RdBytes g v bs)]
theorem rblock_ok (Kl : List Int) (hKl : Kl.length = 64) (kb : Nat) (S : V8) (v : Value) (bs : List UInt8) (hl : 64 ≤ bs.length) (hl2 : bs.length ≤ 1099511627776) :
    Trip Tryz.prog 97 [.agg S.C.toArray, v, vp kb 0] [cel kb 136 (Kl.map v32), fz (fun g => RdBytes g v bs)]
      (fun r l => r = .agg (dBlock Kl S bs).C.toArray ∧ l = [cel kb 136 (Kl.map v32), fz (fun g => RdBytes g v bs)]) := by
  refine Trip.get (Pk.next Pk.here) shape_bytes ?_
  rintro ⟨a, c, rfl⟩
  refine Trip.get (Pk.next Pk.here) (row_some (by omega)) ?_
  rintro ⟨pb, po, rfl⟩
  refine Trip.of_body Tryz.func97 rfl Tryz.ntmps97 Tryz.results97 rfl ?_
  refine Wsr ?_
  (refine WpL.step (Stp.boxV rfl (VC.ag _) rfl ?_); intro nb2)
  (refine WpL.step (Stp.alloc rfl ?_); intro nb3)
  refine Lnt (Wsr ?_)
  (refine WpL.step (Stp.alloc rfl ?_); intro nb8)
  refine Lnt (Wp.seq (Wsr (Ls (Rdo.assign rfl) (Lnt (Wp.block ?_)))))
  refine Wp.loopE (fun k e h => ∃ i : Nat, i + k = 16 ∧ e = rbE (.slice (some ⟨pb, po, none⟩) bs.length c) kb nb2 nb3 nb8 i ∧ h = rbL Kl kb nb2 nb3 nb8 S (.slice (some ⟨pb, po, none⟩) bs.length c) bs (dW1 bs i)) 16
    (e0 := rbE (.slice (some ⟨pb, po, none⟩) bs.length c) kb nb2 nb3 nb8 0) (l0 := rbL Kl kb nb2 nb3 nb8 S (.slice (some ⟨pb, po, none⟩) bs.length c) bs (dW1 bs 0)) (by repeat (first | exact trivial | refine ⟨rfl, ?_⟩)) (by repeat (first | exact trivial | refine ⟨rfl, ?_⟩)) (by simp only [rbL, dW1_zero, List.map_replicate]; exact Gk) ⟨0, by omega, rfl, rfl⟩ ?_
  rintro k e h ⟨i, hik, rfl, rfl⟩
  by_cases hi : i < 16
  · have hi' : (i : Int) < 16 := by omega
    have m1 : (4 : Int) * (i : Int) = ((4 * i : Nat) : Int) := by omega
    have a1 : ((4 * i : Nat) : Int) + 1 = ((4 * i + 1 : Nat) : Int) := by omega
    have a2 : ((4 * i : Nat) : Int) + 2 = ((4 * i + 2 : Nat) : Int) := by omega
    have a3 : ((4 * i : Nat) : Int) + 3 = ((4 * i + 3 : Nat) : Int) := by omega
    have b0 := byteAt bs (4 * i) (by omega)
    have b1 := byteAt bs (4 * i + 1) (by omega)
    have b2 := byteAt bs (4 * i + 2) (by omega)
    have b3 := byteAt bs (4 * i + 3) (by omega)
    have hlen := dW1_len bs i
    refine Wp.seq (Wsr (Ls (Rdo.move rfl) (Ls (Rdo.lti rfl rfl) (Lnt (cK rfl (Wp.skip (Thn.n (Wp.seq (Wp.block ?_)))))))))
    refine Wp.draw (by kernel_rfl) ?_
    refine Qt (i := 0) rfl (Rdo.move rfl) (Qt (i := 1) rfl (Rdo.move rfl) (Qt (i := 2) rfl (Rdo.move rfl) ?_))
    refine Qt (i := 3) rfl (Rdo.mulE rfl rfl (by assumption) (by omega)) ?_
    refine Qt (i := 4) rfl (Rdo.indexSlice rfl rfl (by omega)) ?_
    refine Qt (i := 8) rfl (Rdo.move rfl) (Qt (i := 9) rfl (Rdo.move rfl) ?_)
    refine Qt (i := 10) rfl (Rdo.mulE rfl rfl (by assumption) (by omega)) ?_
    refine Qt (i := 11) rfl (Rdo.addE rfl rfl (by assumption) (by omega)) ?_
    refine Qt (i := 12) rfl (Rdo.indexSlice rfl rfl (by omega)) ?_
    refine Qt (i := 17) rfl (Rdo.move rfl) (Qt (i := 18) rfl (Rdo.move rfl) ?_)
    refine Qt (i := 19) rfl (Rdo.mulE rfl rfl (by assumption) (by omega)) ?_
    refine Qt (i := 20) rfl (Rdo.addE rfl rfl (by assumption) (by omega)) ?_
    refine Qt (i := 21) rfl (Rdo.indexSlice rfl rfl (by omega)) ?_
    refine Qt (i := 26) rfl (Rdo.move rfl) (Qt (i := 27) rfl (Rdo.move rfl) ?_)
    refine Qt (i := 28) rfl (Rdo.mulE rfl rfl (by assumption) (by omega)) ?_
    refine Qt (i := 29) rfl (Rdo.addE rfl rfl (by assumption) (by omega)) ?_
    refine Qt (i := 30) rfl (Rdo.indexSlice rfl rfl (by omega)) ?_
    refine WpR.phaseL (m := 1) #[true, true, true, true, true, true, true, true, true, true, true, true, true, true, true, true, true, true, true, true, true, true, true, true, true, true, true, true, true, true, true, true, true, true, true, false] 15 _ rfl (by kernel_rfl) (Tk.cons (Pk.next (Pk.next (Pk.next (Pk.next Pk.here)))) Tk.nil) ?_
    refine At (i := 5) rfl (Rdo.load rfl (Lds.fz1 (by first | assumption | exact bytesC_at (by assumption) | exact intsC_at (by assumption) | exact boolsC_at (by assumption)))) ?_
    refine At (i := 6) rfl (Rdo.convInt rfl) ?_
    refine At (i := 7) rfl (Rdo.shl rfl rfl (by omega)) ?_
    refine At (i := 13) rfl (Rdo.load rfl (Lds.fz1 (by first | assumption | exact bytesC_at (by assumption) | exact intsC_at (by assumption) | exact boolsC_at (by assumption)))) ?_
    refine At (i := 14) rfl (Rdo.convInt rfl) ?_
    refine At (i := 15) rfl (Rdo.shl rfl rfl (by omega)) ?_
    refine At (i := 16) rfl (Rdo.or rfl rfl) ?_
    refine At (i := 22) rfl (Rdo.load rfl (Lds.fz1 (by first | assumption | exact bytesC_at (by assumption) | exact intsC_at (by assumption) | exact boolsC_at (by assumption)))) ?_
    refine At (i := 23) rfl (Rdo.convInt rfl) ?_
    refine At (i := 24) rfl (Rdo.shl rfl rfl (by omega)) ?_
    refine At (i := 25) rfl (Rdo.or rfl rfl) ?_
    refine At (i := 31) rfl (Rdo.load rfl (Lds.fz1 (by first | assumption | exact bytesC_at (by assumption) | exact intsC_at (by assumption) | exact boolsC_at (by assumption)))) ?_
    refine At (i := 32) rfl (Rdo.convInt rfl) (At (i := 33) rfl (Rdo.or rfl rfl) ?_)
    refine At (i := 34) rfl (Rdo.indexArr rfl rfl (by omega)) ?_
    refine WpA.stop (by kernel_rfl) ?_
    refine Ql ?_
    refine Qo (i := 35) rfl (Stp.storeV rfl rfl (VC.i _ _) rfl (Sts.next (Sts.here (oneCells1 rfl) ?_)) ?_)
    · simp only [List.length_map, List.length_cons, List.length_nil, hlen]; omega
    rw [put32 _ _ _ (by omega)]
    refine WpR.gh (l' := rbL Kl kb nb2 nb3 nb8 S (.slice (some ⟨pb, po, none⟩) bs.length c) bs (dW1 bs (i + 1))) (by rw [dW1_succ]; exact Gk) ?_
    refine WpR.done (by kernel_rfl) ?_
    refine Blk.n (Thn.n (Wp.region (Ls (Rdo.move rfl) ?_)))
    refine Ls (Rdo.succ rfl rfl (by omega)) ?_
    refine Ls (Rdo.assign rfl) (Lnt ?_)
    exact ⟨k - 1, _, _, by omega, ⟨i + 1, by omega, rfl, rfl⟩, (by repeat (first | exact trivial | refine ⟨rfl, ?_⟩)), Gk⟩
  · obtain rfl : i = 16 := by omega
    refine Wp.seq (Wsr (Ls (Rdo.move rfl) (Ls (Rdo.lti rfl rfl) (Lnt ?_))))
    refine Wp.condF rfl ?_
    refine Wp.exit ?_
    refine Thn.x ?_
    refine Thn.x ?_
    refine Blk.here ?_
    refine Thn.n (Wp.seq (Wsr (Ls (Rdo.assign rfl) (Lnt (Wp.block ?_)))))
    refine Wp.loopE (fun k e h => ∃ j : Nat, j + k = 48 ∧ e = [(2, vp kb 0), (3, vp nb2 0), (6, vp nb3 0), (7, vp nb8 0), (9, vi ((16 + j : Nat) : Int))] ∧ h = rbL Kl kb nb2 nb3 nb8 S (.slice (some ⟨pb, po, none⟩) bs.length c) bs (dW2 bs j)) 48
      (e0 := [(2, vp kb 0), (3, vp nb2 0), (6, vp nb3 0), (7, vp nb8 0), (9, vi ((16 + 0 : Nat) : Int))]) (l0 := rbL Kl kb nb2 nb3 nb8 S (.slice (some ⟨pb, po, none⟩) bs.length c) bs (dW2 bs 0)) (by repeat (first | exact trivial | refine ⟨rfl, ?_⟩)) (by repeat (first | exact trivial | refine ⟨rfl, ?_⟩)) (by simp only [rbL, dW2_zero]; exact Gk) ⟨0, by omega, rfl, rfl⟩ ?_
    rintro k e h ⟨j, hjk, rfl, rfl⟩
    by_cases hj : j < 48
    · have hj' : ((16 + j : Nat) : Int) < 64 := by omega
      have hlen := dW2_len bs j
      have n1 : ((16 + j : Nat) : Int) - 16 = ((16 + j - 16 : Nat) : Int) := by omega
      have n2 : ((16 + j : Nat) : Int) - 15 = ((16 + j - 15 : Nat) : Int) := by omega
      have n3 : ((16 + j : Nat) : Int) - 7 = ((16 + j - 7 : Nat) : Int) := by omega
      have n4 : ((16 + j : Nat) : Int) - 2 = ((16 + j - 2 : Nat) : Int) := by omega
      have w1 := at32 (dW2 bs j) (16 + j - 16) (by omega)
      have w2 := at32 (dW2 bs j) (16 + j - 15) (by omega)
      have w3 := at32 (dW2 bs j) (16 + j - 7) (by omega)
      have w4 := at32 (dW2 bs j) (16 + j - 2) (by omega)
      have r1 := rr_ok ((dW2 bs j).getD (16 + j - 15) 0) 7 (by omega)
      have r2 := rr_ok ((dW2 bs j).getD (16 + j - 15) 0) 18 (by omega)
      have r3 := rr_ok ((dW2 bs j).getD (16 + j - 2) 0) 17 (by omega)
      have r4 := rr_ok ((dW2 bs j).getD (16 + j - 2) 0) 19 (by omega)
      refine Wp.seq (Wsr (Ls (Rdo.move rfl) (Ls (Rdo.lti rfl rfl) (Lnt (cK rfl (Wp.skip (Thn.n (Wp.seq (Wp.block (Wsr (Ls (Rdo.move rfl) ?_)))))))))))
      refine Ls (Rdo.subE rfl rfl (by assumption) (by omega)) ?_
      refine Ls (Rdo.indexArr rfl rfl (by omega)) ?_
      refine Ls (Rdo.load rfl (Lds.one (by assumption))) ?_
      refine Ls (Rdo.assign rfl) (Lnt (Wsr (Ls (Rdo.move rfl) ?_)))
      refine Ls (Rdo.subE rfl rfl (by assumption) (by omega)) ?_
      refine Ls (Rdo.indexArr rfl rfl (by omega)) ?_
      refine Ls (Rdo.load rfl (Lds.one (by assumption))) ?_
      refine Ls (Rdo.assign rfl) (Lnt ?_)
      refine Wp.draw (by kernel_rfl) ?_
      refine Qt (i := 0) rfl (Rdo.move rfl) (Qt (i := 1) rfl (Rdo.move rfl) ?_)
      refine Qt (i := 2) rfl (Rdo.subE rfl rfl (by assumption) (by omega)) ?_
      refine Qt (i := 3) rfl (Rdo.indexArr rfl rfl (by omega)) ?_
      refine Qt (i := 5) rfl (Rdo.move rfl) (Qt (i := 7) rfl (Rdo.move rfl) (Qt (i := 10) rfl (Rdo.move rfl) ?_))
      refine Qt (i := 11) rfl (Rdo.shr rfl rfl (by omega)) ?_
      refine Qt (i := 14) rfl (Rdo.move rfl) ?_
      refine Qt (i := 15) rfl (Rdo.subE rfl rfl (by assumption) (by omega)) ?_
      refine Qt (i := 16) rfl (Rdo.indexArr rfl rfl (by omega)) ?_
      refine Qt (i := 19) rfl (Rdo.move rfl) (Qt (i := 21) rfl (Rdo.move rfl) (Qt (i := 24) rfl (Rdo.move rfl) ?_))
      refine Qt (i := 25) rfl (Rdo.shr rfl rfl (by omega)) ?_
      refine WpR.phaseL (m := 1) #[true, true, true, true, true, true, true, true, true, true, true, true, true, true, true, true, true, true, true, true, true, true, true, true, true, true, true, true, true, false] 14 _ rfl (by kernel_rfl) (Tk.cons Pk.here Tk.nil) ?_
      refine At (i := 4) rfl (Rdo.load rfl (Lds.one (by assumption))) ?_
      refine At (i := 17) rfl (Rdo.load rfl (Lds.one (by assumption))) ?_
      refine WpA.one (i := 6) rfl (by kernel_rfl) (Sc (r1) rfl ?_)
      rintro _ _ ⟨rfl, rfl⟩
      refine WpA.lst (by simp only [List.cons_append, List.nil_append]; exact rfl) ?_
      refine WpA.one (i := 8) rfl (by kernel_rfl) (Sc (r2) rfl ?_)
      rintro _ _ ⟨rfl, rfl⟩
      refine WpA.lst (by simp only [List.cons_append, List.nil_append]; exact rfl) ?_
      refine At (i := 9) rfl (Rdo.xor rfl rfl) (At (i := 12) rfl (Rdo.xor rfl rfl) (At (i := 13) rfl (Rdo.add rfl rfl) (At (i := 18) rfl (Rdo.add rfl rfl) ?_)))
      refine WpA.one (i := 20) rfl (by kernel_rfl) (Sc (r3) rfl ?_)
      rintro _ _ ⟨rfl, rfl⟩
      refine WpA.lst (by simp only [List.cons_append, List.nil_append]; exact rfl) ?_
      refine WpA.one (i := 22) rfl (by kernel_rfl) (Sc (r4) rfl ?_)
      rintro _ _ ⟨rfl, rfl⟩
      refine WpA.lst (by simp only [List.cons_append, List.nil_append]; exact rfl) ?_
      refine At (i := 23) rfl (Rdo.xor rfl rfl) (At (i := 26) rfl (Rdo.xor rfl rfl) (At (i := 27) rfl (Rdo.add rfl rfl) ?_))
      refine At (i := 28) rfl (Rdo.indexArr rfl rfl (by omega)) ?_
      refine WpA.stop (by kernel_rfl) ?_
      refine Ql ?_
      refine Qo (i := 29) rfl (Stp.storeV rfl rfl (VC.i _ _) rfl (Sts.here (oneCells1 rfl) ?_) ?_)
      · simp only [List.length_map, List.length_cons, List.length_nil, hlen]; omega
      rw [put32 _ _ _ (by omega)]
      refine WpR.gh (l' := rbL Kl kb nb2 nb3 nb8 S (.slice (some ⟨pb, po, none⟩) bs.length c) bs (dW2 bs (j + 1))) (by rw [dW2_succ]; exact Gk) ?_
      refine WpR.done (by kernel_rfl) ?_
      refine Blk.n (Thn.n (Wp.region (Ls (Rdo.move rfl) ?_)))
      refine Ls (Rdo.succ rfl rfl (by omega)) ?_
      refine Ls (Rdo.assign rfl) (Lnt ?_)
      exact ⟨k - 1, _, _, by omega, ⟨j + 1, by omega, rfl, rfl⟩, (by repeat (first | exact trivial | refine ⟨rfl, ?_⟩)), Gk⟩
    · obtain rfl : j = 48 := by omega
      refine Wp.seq (Wsr (Ls (Rdo.move rfl) (Ls (Rdo.lti rfl rfl) (Lnt ?_))))
      refine Wp.condF rfl ?_
      refine Wp.exit ?_
      refine Thn.x ?_
      refine Thn.x ?_
      refine Blk.here ?_
      refine Thn.n (Wsr ?_)
      refine Ls (Rdo.load rfl (Lds.next Ld)) ?_
      (refine WpL.step (Stp.alloc rfl ?_); intro nb16)
      refine WpL.step (St rfl rfl (VC.ag _) ?_)
      refine Lnt (Wp.seq (Wsr (Ls (Rdo.assign rfl) (Lnt (Wp.block ?_)))))
      generalize hW : dW2 bs 48 = W at *
      have hWl : W.length = 64 := by rw [← hW]; exact dW2_len bs 48
      refine Wp.loopE (fun k e h => ∃ m : Nat, m + k = 64 ∧ e = rcE kb nb2 nb3 nb8 nb16 m ∧ h = cel nb16 134 (dRounds Kl W S m).C :: rbL Kl kb nb2 nb3 nb8 S (.slice (some ⟨pb, po, none⟩) bs.length c) bs W) 64
        (e0 := rcE kb nb2 nb3 nb8 nb16 0) (l0 := cel nb16 134 (dRounds Kl W S 0).C :: rbL Kl kb nb2 nb3 nb8 S (.slice (some ⟨pb, po, none⟩) bs.length c) bs W) (by repeat (first | exact trivial | refine ⟨rfl, ?_⟩)) (by repeat (first | exact trivial | refine ⟨rfl, ?_⟩)) (by rw [dRounds_zero]; exact Gk) ⟨0, by omega, rfl, rfl⟩ ?_
      rintro k e h ⟨m, hmk, rfl, rfl⟩
      by_cases hm : m < 64
      · have hm' : (m : Int) < 64 := by omega
        have w1 := at32 W m (by omega)
        have w2 := at32 Kl m (by omega)
        have hdr : dRounds Kl W S (m + 1) = dRound (dRounds Kl W S m) (Kl.getD m 0) (W.getD m 0) := dRounds_succ _ _ _ _
        generalize dRounds Kl W S m = V at *
        have r1 := rr_ok V.e 6 (by omega)
        have r2 := rr_ok V.e 11 (by omega)
        have r3 := rr_ok V.e 25 (by omega)
        have r4 := rr_ok V.a 2 (by omega)
        have r5 := rr_ok V.a 13 (by omega)
        have r6 := rr_ok V.a 22 (by omega)
        refine Wp.seq (Wsr (Ls (Rdo.move rfl) (Ls (Rdo.lti rfl rfl) (Lnt (cK rfl (Wp.skip (Thn.n (Wp.seq (Wp.block (Wp.seq ?_))))))))))
        refine Wp.draw (by kernel_rfl) ?_
        refine Qt (i := 0) rfl (Rdo.indexArrE (i := 0) rfl rfl rfl (by first | omega | (simp <;> omega))) ?_
        refine Qt (i := 2) rfl (Rdo.indexArrE (i := 4) rfl rfl rfl (by first | omega | (simp <;> omega))) ?_
        refine WpR.load (i := 1) [3] rfl (by kernel_rfl) (by kernel_rfl) (by kernel_rfl) (by kernel_rfl) (by kernel_rfl) rfl Tk.rfl_ (Harm.rd rfl (Rdo.load rfl (Lds.one rfl)) Harm.nil) (Rdo.load rfl (Lds.one rfl)) rfl ?_
        refine Qt (i := 4) rfl (Rdo.assign rfl) ?_
        refine Qo (i := 3) rfl (Stp.rd (Rdo.load rfl (Lds.one rfl)) rfl ?_)
        refine Qt (i := 5) rfl (Rdo.assign rfl) ?_
        refine WpR.done (by kernel_rfl) ?_
        refine Thn.n (Wp.seq ?_)
        refine Wp.draw (by kernel_rfl) ?_
        refine Qt (i := 0) rfl (Rdo.indexArrE (i := 7) rfl rfl rfl (by first | omega | (simp <;> omega))) ?_
        refine Qt (i := 2) rfl (Rdo.move rfl) (Qt (i := 4) rfl (Rdo.move rfl) (Qt (i := 7) rfl (Rdo.move rfl) (Qt (i := 11) rfl (Rdo.move rfl) ?_)))
        refine Qt (i := 12) rfl (Rdo.indexArrE (i := 5) rfl rfl rfl (by first | omega | (simp <;> omega))) ?_
        refine Qt (i := 15) rfl (Rdo.move rfl) (Qt (i := 16) rfl (Rdo.compl rfl) ?_)
        refine Qt (i := 17) rfl (Rdo.indexArrE (i := 6) rfl rfl rfl (by first | omega | (simp <;> omega))) ?_
        refine Qt (i := 22) rfl (Rdo.move rfl) (Qt (i := 23) rfl (Rdo.move rfl) (Qt (i := 24) rfl (Rdo.nilCheck rfl) ?_))
        refine Qt (i := 25) rfl (Rdo.indexArr rfl rfl (by omega)) ?_
        refine Qt (i := 28) rfl (Rdo.move rfl) ?_
        refine Qt (i := 29) rfl (Rdo.indexArr rfl rfl (by omega)) ?_
        refine WpR.phaseL (m := 0) #[true, true, true, true, true, true, true, true, true, true, true, true, true, true, true, true, true, true, true, true, true, true, true, true, true, true, true, true, true, true, true, true, true] 18 _ rfl (by kernel_rfl) (Tk.cons Pk.here (Tk.cons Pk.here (Tk.cons (Pk.next (Pk.next Pk.here)) Tk.nil))) ?_
        refine At (i := 1) rfl (Rdo.load rfl (Lds.one rfl)) (At (i := 13) rfl (Rdo.load rfl (Lds.one rfl)) (At (i := 14) rfl (Rdo.and rfl rfl) (At (i := 18) rfl (Rdo.load rfl (Lds.one rfl)) (At (i := 19) rfl (Rdo.and rfl rfl) (At (i := 20) rfl (Rdo.xor rfl rfl) ?_)))))
        refine At (i := 26) rfl (Rdo.load rfl (Lds.next (Lds.next (Lds.one (by assumption))))) ?_
        refine At (i := 30) rfl (Rdo.load rfl (Lds.next (Lds.one (by assumption)))) ?_
        refine WpA.one (i := 3) rfl (by kernel_rfl) (Sc (r1) rfl ?_)
        rintro _ _ ⟨rfl, rfl⟩
        refine WpA.lst (by simp only [List.cons_append, List.nil_append]; exact rfl) ?_
        refine WpA.one (i := 5) rfl (by kernel_rfl) (Sc (r2) rfl ?_)
        rintro _ _ ⟨rfl, rfl⟩
        refine WpA.lst (by simp only [List.cons_append, List.nil_append]; exact rfl) ?_
        refine At (i := 6) rfl (Rdo.xor rfl rfl) ?_
        refine WpA.one (i := 8) rfl (by kernel_rfl) (Sc (r3) rfl ?_)
        rintro _ _ ⟨rfl, rfl⟩
        refine WpA.lst (by simp only [List.cons_append, List.nil_append]; exact rfl) ?_
        refine At (i := 9) rfl (Rdo.xor rfl rfl) (At (i := 10) rfl (Rdo.add rfl rfl) (At (i := 21) rfl (Rdo.add rfl rfl) (At (i := 27) rfl (Rdo.add rfl rfl) (At (i := 31) rfl (Rdo.add rfl rfl) (At (i := 32) rfl (Rdo.assign rfl) ?_)))))
        refine WpA.stop (by kernel_rfl) ?_
        refine Ql ?_
        refine WpR.done (by kernel_rfl) ?_
        refine Thn.n (Wp.seq ?_)
        refine Wp.draw (by kernel_rfl) ?_
        refine Qt (i := 0) rfl (Rdo.move rfl) (Qt (i := 2) rfl (Rdo.move rfl) (Qt (i := 5) rfl (Rdo.move rfl) (Qt (i := 8) rfl (Rdo.move rfl) ?_)))
        refine Qt (i := 9) rfl (Rdo.indexArrE (i := 1) rfl rfl rfl (by first | omega | (simp <;> omega))) ?_
        refine Qt (i := 12) rfl (Rdo.move rfl) ?_
        refine Qt (i := 13) rfl (Rdo.indexArrE (i := 2) rfl rfl rfl (by first | omega | (simp <;> omega))) ?_
        refine Qt (i := 17) rfl (Rdo.indexArrE (i := 1) rfl rfl rfl (by first | omega | (simp <;> omega))) ?_
        refine Qt (i := 19) rfl (Rdo.indexArrE (i := 2) rfl rfl rfl (by first | omega | (simp <;> omega))) ?_
        refine WpR.phaseL (m := 0) #[true, true, true, true, true, true, true, true, true, true, true, true, true, true, true, true, true, true, true, true, true, true, true, true, true] 16 _ rfl (by kernel_rfl) (Tk.cons Pk.here Tk.nil) ?_
        refine At (i := 10) rfl (Rdo.load rfl (Lds.one rfl)) (At (i := 11) rfl (Rdo.and rfl rfl) (At (i := 14) rfl (Rdo.load rfl (Lds.one rfl)) (At (i := 15) rfl (Rdo.and rfl rfl) (At (i := 16) rfl (Rdo.xor rfl rfl) (At (i := 18) rfl (Rdo.load rfl (Lds.one rfl)) (At (i := 20) rfl (Rdo.load rfl (Lds.one rfl)) (At (i := 21) rfl (Rdo.and rfl rfl) (At (i := 22) rfl (Rdo.xor rfl rfl) ?_))))))))
        refine WpA.one (i := 1) rfl (by kernel_rfl) (Sc (r4) rfl ?_)
        rintro _ _ ⟨rfl, rfl⟩
        refine WpA.lst (by simp only [List.cons_append, List.nil_append]; exact rfl) ?_
        refine WpA.one (i := 3) rfl (by kernel_rfl) (Sc (r5) rfl ?_)
        rintro _ _ ⟨rfl, rfl⟩
        refine WpA.lst (by simp only [List.cons_append, List.nil_append]; exact rfl) ?_
        refine At (i := 4) rfl (Rdo.xor rfl rfl) ?_
        refine WpA.one (i := 6) rfl (by kernel_rfl) (Sc (r6) rfl ?_)
        rintro _ _ ⟨rfl, rfl⟩
        refine WpA.lst (by simp only [List.cons_append, List.nil_append]; exact rfl) ?_
        refine At (i := 7) rfl (Rdo.xor rfl rfl) (At (i := 23) rfl (Rdo.add rfl rfl) (At (i := 24) rfl (Rdo.assign rfl) ?_))
        refine WpA.stop (by kernel_rfl) ?_
        refine Ql ?_
        refine WpR.done (by kernel_rfl) ?_
        refine Thn.n (Wp.region (Ls (Rdo.move rfl) (Ls (Rdo.move rfl) (Ls (Rdo.add rfl rfl) (Ls (Rdo.move rfl) ?_)))))
        refine Ls (Rdo.indexArrE (i := 1) rfl rfl rfl (by first | omega | (simp <;> omega))) ?_
        refine Ls (Rdo.load rfl (Lds.one rfl)) ?_
        refine Ls (Rdo.indexArrE (i := 2) rfl rfl rfl (by first | omega | (simp <;> omega))) ?_
        refine Ls (Rdo.load rfl (Lds.one rfl)) ?_
        refine Ls (Rdo.indexArrE (i := 3) rfl rfl rfl (by first | omega | (simp <;> omega))) ?_
        refine Ls (Rdo.load rfl (Lds.one rfl)) (Ls (Rdo.move rfl) (Ls (Rdo.add rfl rfl) (Ls (Rdo.move rfl) ?_)))
        refine Ls (Rdo.indexArrE (i := 5) rfl rfl rfl (by first | omega | (simp <;> omega))) ?_
        refine Ls (Rdo.load rfl (Lds.one rfl)) ?_
        refine Ls (Rdo.indexArrE (i := 6) rfl rfl rfl (by first | omega | (simp <;> omega))) ?_
        refine Ls (Rdo.load rfl (Lds.one rfl)) (Ls (Rdo.bldArr1 rfl rfl) ?_)
        refine WpL.step (St rfl rfl (VC.ag _) ?_)
        refine WpL.nil (Blk.n (Thn.n (Wp.region (Ls (Rdo.move rfl) ?_))))
        refine Ls (Rdo.succ rfl rfl (by omega)) ?_
        refine Ls (Rdo.assign rfl) (Lnt ?_)
        exact ⟨k - 1, _, _, by omega, ⟨m + 1, by omega, rfl, rfl⟩, (by repeat (first | exact trivial | refine ⟨rfl, ?_⟩)), by rw [hdr]; exact Gk⟩
      · obtain rfl : m = 64 := by omega
        refine Wp.seq (Wsr (Ls (Rdo.move rfl) (Ls (Rdo.lti rfl rfl) (Lnt ?_))))
        refine Wp.condF rfl ?_
        refine Wp.exit ?_
        refine Thn.x ?_
        refine Thn.x ?_
        refine Blk.here ?_
        refine Thn.n (Wp.seq (Wsr (Ls (Rdo.assign rfl) (Lnt (Wp.block ?_)))))
        have hend : dBlock Kl S bs = dAdd S (dRounds Kl W S 64) := by rw [← hW]; rfl
        rw [hend]
        clear hend hW
        generalize dRounds Kl W S 64 = V at *
        refine Wp.loopE (fun k e h => ∃ i : Nat, i + k = 8 ∧ e = reE nb2 nb3 nb16 i ∧ h = reL Kl kb nb2 nb3 nb16 V (.slice (some ⟨pb, po, none⟩) bs.length c) bs (dAddL S.l V.l i)) 8
          (e0 := reE nb2 nb3 nb16 0) (l0 := reL Kl kb nb2 nb3 nb16 V (.slice (some ⟨pb, po, none⟩) bs.length c) bs (dAddL S.l V.l 0)) (by repeat (first | exact trivial | refine ⟨rfl, ?_⟩)) (by repeat (first | exact trivial | refine ⟨rfl, ?_⟩)) (by rw [dAddL_zero]; exact Gk) ⟨0, by omega, rfl, rfl⟩ ?_
        rintro k e h ⟨i, hik, rfl, rfl⟩
        by_cases hi : i < 8
        · have hi' : (i : Int) < 8 := by omega
          have hlen := dAddL_len S.l V.l i
          have w1 := at32 (dAddL S.l V.l i) i (by rw [hlen]; exact hi)
          have w2 : V.C[0 + i * 1]? = some (v32 (V.l.getD i 0)) := at32 V.l i hi
          refine Wp.seq (Wsr (Ls (Rdo.move rfl) (Ls (Rdo.lti rfl rfl) (Lnt (cK rfl (Wp.skip (Thn.n (Wp.seq (Wp.block ?_)))))))))
          refine Wp.draw (by kernel_rfl) ?_
          refine Qt (i := 0) rfl (Rdo.move rfl) (Qt (i := 1) rfl (Rdo.move rfl) ?_)
          refine Qt (i := 2) rfl (Rdo.indexArr rfl rfl (by omega)) ?_
          refine Qt (i := 4) rfl (Rdo.move rfl) ?_
          refine Qt (i := 5) rfl (Rdo.indexArr rfl rfl (by omega)) ?_
          refine WpR.phaseL (m := 3) #[true, true, true, true, true, true, true, false, false, false] 2 _ rfl (by kernel_rfl) Tk.rfl_ ?_
          refine At (i := 3) rfl (Rdo.load rfl (Lds.one (by assumption))) ?_
          refine At (i := 6) rfl (Rdo.load rfl (Lds.next (Lds.one (by assumption)))) ?_
          refine WpA.stop (by kernel_rfl) ?_
          refine WpR.lst (by simp only [List.cons_append, List.nil_append, List.append_nil]; exact rfl) ?_
          refine Qt (i := 7) rfl (Rdo.add rfl rfl) ?_
          refine Qt (i := 8) rfl (Rdo.indexArr rfl rfl (by omega)) ?_
          refine Qo (i := 9) rfl (Stp.storeV rfl rfl (VC.i _ _) rfl (Sts.here (oneCells1 rfl) ?_) ?_)
          · simp only [List.length_map, List.length_cons, List.length_nil, hlen]; omega
          rw [put32 _ _ _ (by rw [hlen]; exact hi), ← dAddL_succ]
          refine WpR.done (by kernel_rfl) ?_
          refine Blk.n (Thn.n (Wp.region (Ls (Rdo.move rfl) ?_)))
          refine Ls (Rdo.succ rfl rfl (by omega)) ?_
          refine Ls (Rdo.assign rfl) (Lnt ?_)
          exact ⟨k - 1, _, _, by omega, ⟨i + 1, by omega, rfl, rfl⟩, (by repeat (first | exact trivial | refine ⟨rfl, ?_⟩)), Gk⟩
        · obtain rfl : i = 8 := by omega
          rw [dAddL_end]
          refine Wp.seq (Wsr (Ls (Rdo.move rfl) (Ls (Rdo.lti rfl rfl) (Lnt ?_))))
          refine Wp.condF rfl ?_
          refine Wp.exit ?_
          refine Thn.x ?_
          refine Thn.x ?_
          refine Blk.here ?_
          refine Thn.n (Wsr ?_)
          refine Ls (Rdo.load rfl Ld) ?_
          refine WpL.step (St rfl rfl (VC.ag _) ?_)
          refine Lnt (Wp.ret ?_)
          refine Rt (ResV.cell rfl (by repeat (first | exact Lds.one rfl | (apply Lds.all; (first | rfl | assumption | (simp <;> fail))) | exact Lds.ione0 | exact Lds.ione rfl | (apply Lds.iall; (first | rfl | assumption | (simp <;> fail))) | apply Lds.next)) ResV.nil) ⟨rfl, rfl⟩
end Go.Proofs.YtomijhgicennbaaGreat
namespace Go.Proofs.YtomijhgicennbaaGreat
open Go
set_option maxHeartbeats 4000000
set_option linter.unusedSimpArgs false
set_option linter.unusedVariables false
set_option maxRecDepth 20000
abbrev suE1 (v : Value) (nh : Nat) (m : Value) : Env := [(0, v), (2, vp nh 0), (3, m)]
abbrev suL1 (nh : Nat) (v : Value) (bs : List UInt8) (m : Value) (n : Nat) (B : List UInt8) : List HP := [rowA 5 1 m n (bytesC B), cel nh 28 (List.replicate 32 (.int .u8 0)), fz (fun g => RdBytes g v bs)]
abbrev suE2 (nh : Nat) (m : Value) (n x : Int) : Env := [(2, vp nh 0), (3, m), (4, .int .u64 n), (5, vi x)]
abbrev suL2 (nh : Nat) (m : Value) (n : Nat) (B : List UInt8) : List HP := [rowA 5 1 m n (bytesC B), cel nh 28 (List.replicate 32 (.int .u8 0))]
theorem rowA_cap2 {t : TypeId} {sz n c : Nat} {a : Option Addr} {xs : List Value} {r : Res} (h : rowA t sz (.slice a n c) n xs r) : n ≤ c := by
  unfold rowA at h
  rcases h.2 with ⟨h1, h2⟩ | ⟨b, o, cap, cur, h1, _, h3, _⟩
  · omega
  · simp only [Value.slice.injEq, true_and] at h1
    omega
theorem RdBytes.take_ {g : FH} {a : Option Addr} {n c k : Nat} {bs : List UInt8} (h : RdBytes g (.slice a n c) bs) (hk : k ≤ n) : RdBytes g (.slice a k c) (bs.take k) := by
  obtain ⟨h1, a', c', h2, h3⟩ := h
  simp only [Value.slice.injEq] at h2
  obtain ⟨rfl, rfl, rfl⟩ := h2
  have hl : (bs.take k).length = k := by rw [List.length_take]; omega
  refine ⟨by simp [bytesC], a, c, by rw [hl], ?_⟩
  rcases h3 with h3 | ⟨b, o, h4, ⟨arr, t, fr, h5, h6⟩, h7⟩
  · exact .inl (by omega)
  · refine .inr ⟨b, o, h4, ⟨arr, t, fr, h5, fun j v hj => h6 j v ?_⟩, by rw [hl]; omega⟩
    rw [bytesC, List.map_take, List.getElem?_take] at hj
    split at hj
    · exact hj
    · cases hj
theorem RdBytes.sub_ {g : FH} {b o n cap l k : Nat} {bs : List UInt8} (h : RdBytes g (.slice (some ⟨b, o, none⟩) n cap) bs) (hl : l + k ≤ n) (hc : n ≤ cap) : RdBytes g (.slice (some (slA b o l cap 1)) k (cap - l)) ((bs.drop l).take k) :=
  RdBytes.take_ (RdBytes.drop_ h (by omega) hc) (by omega)
abbrev suE3 (nh ns nk : Nat) (m : Value) (i : Nat) : Env := [(2, vp nh 0), (3, m), (6, vp ns 0), (7, vp nk 0), (8, vi i)]
abbrev suL3 (Kl : List Int) (nh ns nk : Nat) (m : Value) (M : List UInt8) (S : V8) : List HP := [fz (fun g => RdBytes g m M), cel nk 136 (Kl.map v32), cel ns 134 S.C, cel nh 28 (List.replicate 32 (.int .u8 0))]
abbrev suE4 (nh ns nk : Nat) (i : Nat) : Env := [(2, vp nh 0), (6, vp ns 0), (9, vp nk 0), (10, vi i)]
abbrev suL4 (nh ns nk : Nat) (V : V8) (D : List Int) : List HP := [cel nk 28 (D.map v8), cel ns 134 V.C, cel nh 28 (List.replicate 32 (.int .u8 0))]
section
variable {P : Program} {e : Env} {C : List HP} {ty : TypeId}
end
theorem rSum_ok (v : Value) (bs : List UInt8) (hl : bs.length ≤ 1000000000) :
    Trip Tryz.prog 58 [v] [fz (fun g => RdBytes g v bs)] (fun r l => r = .agg ((dSum bs).map (Value.int .u8)).toArray ∧ l = []) := by
  obtain ⟨Z, hZ⟩ : ∃ Z, Z = dSum bs := ⟨_, rfl⟩
  rw [← hZ]
  rw [← rSum_eq] at hZ
  refine Trip.get Pk.here shape_bytes ?_
  rintro ⟨a, c, rfl⟩
  have s1 := rk_ok
  refine Trip.of_body Tryz.func58 rfl Tryz.ntmps58 Tryz.results58 rfl ?_
  refine Wsr ?_
  (refine WpL.step (Stp.alloc rfl ?_); intro nb2)
  refine Lnt (Wsr ?_)
  (refine WpL.step (Stp.slice0 rfl ?_); intro nb7)
  refine Ls (Rdo.move rfl) ?_
  refine WpL.step (Stp.append0P rfl rfl Pk.here (Src.next Src.frozen) (by simp [bytesC_length]) (oneCells_bytesC bs) (by omega) (by omega) rfl (by rfl) ?_)
  intro na nc
  (refine WpL.step (Stp.sliceV rfl rfl (VCs.cons (VC.i _ _) (by first | rfl | assumption | (simp <;> done)) VCs.nil) (by simp only [List.cons_append, List.nil_append, List.append_nil]; exact rfl) rfl rfl ?_); intro nb0)
  (refine WpL.step (Stp.appendP rfl rfl (Pk.next Pk.here) (Src.cel (by first | rfl | (simp <;> done) | (simp <;> omega))) (by first | rfl | assumption | (simp <;> done) | (simp <;> omega)) (by first | assumption | exact oneCells1 rfl | exact oneCells1 (by assumption) | exact oneCells_bytesC _ | exact oneCells_votesC _ | (simp [oneCells, Value.oneCell'] <;> done)) (by first | omega | (simp <;> omega)) (by first | omega | (simp <;> omega)) rfl (by first | rfl | (simp <;> done)) ?_); intro na1 nc1)
  refine Ls (Rdo.assign rfl) (Lnt (Wp.seq (Wp.block ?_)))
  have hP := rPad_lt bs.length
  have hPm := rPad_mod bs.length
  refine Wp.loopE (fun k e h => ∃ (i : Nat) (am : Option Addr) (cm : Nat), i + k = rPad bs.length ∧ e = suE1 (.slice a bs.length c) nb2 (.slice am (bs.length + 1 + i) cm) ∧ h = suL1 nb2 (.slice a bs.length c) bs (.slice am (bs.length + 1 + i) cm) (bs.length + 1 + i) (bs ++ [128] ++ List.replicate i 0)) (rPad bs.length)
    (e0 := suE1 (.slice a bs.length c) nb2 (.slice na1 (bs.length + 1) nc1)) (l0 := suL1 nb2 (.slice a bs.length c) bs (.slice na1 (bs.length + 1) nc1) (bs.length + 1) (bs ++ [128])) (by repeat (first | exact trivial | refine ⟨rfl, ?_⟩)) (by repeat (first | exact trivial | refine ⟨rfl, ?_⟩)) (by simp only [suL1]; rw [bytesC_snoc]; exact Gk) ⟨0, na1, nc1, by omega, rfl, by simp⟩ ?_
  rintro k e h ⟨i, am, cm, hik, rfl, rfl⟩
  have ht : ((bs.length + 1 + i : Nat) : Int).tmod 64 = (((bs.length + 1 + i) % 64 : Nat) : Int) := (Int.ofNat_tmod _ 64).symm
  by_cases hi : i < rPad bs.length
  · have hne := rPad_least bs.length i hi
    have hc : ¬ ((bs.length + 1 + i : Nat) : Int).tmod 64 = 56 := by rw [ht]; omega
    refine Wp.seq (Wsr (Ls (Rdo.move rfl) (Ls (Rdo.lenSlice rfl) ?_)))
    refine Ls (Rdo.remE rfl rfl (by omega) (by assumption)) ?_
    refine Ls (Rdo.nei rfl rfl) (Lnt (cK rfl (Wp.skip (Thn.n (Wp.block (Wp.region (Ls (Rdo.move rfl) ?_)))))))
    (refine WpL.step (Stp.sliceV rfl rfl (VCs.cons (VC.i _ _) (by first | rfl | assumption | (simp <;> done)) VCs.nil) (by simp only [List.cons_append, List.nil_append, List.append_nil]; exact rfl) rfl rfl ?_); intro nb15)
    (refine WpL.step (Stp.appendP rfl rfl (Pk.next Pk.here) (Src.cel (by first | rfl | (simp <;> done) | (simp <;> omega))) (by first | rfl | assumption | (simp <;> done) | (simp <;> omega)) (by first | assumption | exact oneCells1 rfl | exact oneCells1 (by assumption) | exact oneCells_bytesC _ | exact oneCells_votesC _ | (simp [oneCells, Value.oneCell'] <;> done)) (by first | omega | (simp <;> omega)) (by first | omega | (simp <;> omega)) rfl (by first | rfl | (simp <;> done)) ?_); intro na16 nc16)
    refine Ls (Rdo.assign rfl) (WpL.nil (Blk.n (Thn.n ?_)))
    refine ⟨k - 1, _, _, by omega, ⟨i + 1, _, _, by omega, rfl, rfl⟩, (by repeat (first | exact trivial | refine ⟨rfl, ?_⟩)), ?_⟩
    have e1 : bytesC (bs ++ [128] ++ List.replicate (i + 1) 0) = bytesC (bs ++ [128] ++ List.replicate i 0) ++ [Value.int .u8 0] := by
      rw [List.replicate_succ', ← List.append_assoc, bytesC_snoc]
      rfl
    simp only [suL1]
    rw [e1]
    exact Gk
  · obtain rfl : i = rPad bs.length := by omega
    have hc : ((bs.length + 1 + rPad bs.length : Nat) : Int).tmod 64 = 56 := by rw [ht, hPm]; rfl
    refine Wp.seq (Wsr (Ls (Rdo.move rfl) (Ls (Rdo.lenSlice rfl) ?_)))
    refine Ls (Rdo.remE rfl rfl (by omega) (by assumption)) ?_
    refine Ls (Rdo.nei rfl rfl) (Lnt ?_)
    refine Wp.condF rfl ?_
    refine Wp.exit ?_
    refine Thn.x ?_
    refine Thn.x ?_
    refine Blk.here ?_
    refine Thn.n (Wsr (Ls (Rdo.move rfl) (Ls (Rdo.lenSlice rfl) (Ls (Rdo.convInt rfl) (Ls (Rdo.mul rfl rfl) (Ls (Rdo.assign rfl) (Lnt (Wp.seq (Wsr (Ls (Rdo.assign rfl) (Lnt (Wp.block ?_))))))))))))
    have hB : bytesC (bs ++ [128] ++ List.replicate (rPad bs.length) 0 ++ rDig bs.length 0) = bytesC (bs ++ [128] ++ List.replicate (rPad bs.length) 0) := by rw [rDig, List.append_nil]
    refine Wp.loopE (fun k e h => ∃ (j : Nat) (x : Int) (am : Option Addr) (cm : Nat), j + k = 8 ∧ x = 7 - j ∧ e = suE2 nb2 (.slice am (bs.length + 1 + rPad bs.length + j) cm) (dBits bs.length) x ∧ h = suL2 nb2 (.slice am (bs.length + 1 + rPad bs.length + j) cm) (bs.length + 1 + rPad bs.length + j) (bs ++ [128] ++ List.replicate (rPad bs.length) 0 ++ rDig bs.length j)) 8
      (e0 := suE2 nb2 (.slice am (bs.length + 1 + rPad bs.length) cm) (dBits bs.length) 7) (l0 := suL2 nb2 (.slice am (bs.length + 1 + rPad bs.length) cm) (bs.length + 1 + rPad bs.length) (bs ++ [128] ++ List.replicate (rPad bs.length) 0 ++ rDig bs.length 0)) (by repeat (first | exact trivial | refine ⟨rfl, ?_⟩)) (by repeat (first | exact trivial | refine ⟨rfl, ?_⟩)) (by simp only [suL2]; rw [hB]; exact Gk) ⟨0, 7, am, cm, by omega, by omega, rfl, rfl⟩ ?_
    clear hB
    rintro k e h ⟨j, x, am, cm, hjk, hx, rfl, rfl⟩
    by_cases hj : j < 8
    · have m1 : (8 : Int) * x = ((8 * (7 - j) : Nat) : Int) := by omega
      have hw : IntKind.u64.wrap ((8 * (7 - j) : Nat) : Int) = ((8 * (7 - j) : Nat) : Int) := by
        simp [IntKind.wrap, IntKind.bits, IntKind.signed]
        omega
      have hx0 : x ≥ 0 := by omega
      have e1 : bytesC (bs ++ [128] ++ List.replicate (rPad bs.length) 0 ++ rDig bs.length (j + 1)) = bytesC (bs ++ [128] ++ List.replicate (rPad bs.length) 0 ++ rDig bs.length j) ++ [Value.int .u8 (dDigit bs.length (7 - j))] := by
        rw [rDig, ← List.append_assoc, bytesC_snoc]
        congr 3
        exact (u8w _).symm
      generalize bs ++ [128] ++ List.replicate (rPad bs.length) 0 ++ rDig bs.length j = B at *
      refine Wp.seq (Wsr (Ls (Rdo.move rfl) (Ls (Rdo.gei rfl rfl) (Lnt (cK rfl (Wp.skip (Thn.n (Wp.seq (Wp.block (Wp.region (Ls (Rdo.move rfl) (Ls (Rdo.move rfl) (Ls (Rdo.move rfl) ?_)))))))))))))
      refine Ls (Rdo.mulE rfl rfl (by assumption) (by omega)) ?_
      refine Ls (Rdo.convInt rfl) ?_
      refine Ls (Rdo.shr rfl rfl (by omega)) ?_
      refine Ls (Rdo.convInt rfl) ?_
      (refine WpL.step (Stp.sliceV rfl rfl (VCs.cons (VC.i _ _) (by first | rfl | assumption | (simp <;> done)) VCs.nil) (by simp only [List.cons_append, List.nil_append, List.append_nil]; exact rfl) rfl rfl ?_); intro nb20)
      (refine WpL.step (Stp.appendP rfl rfl (Pk.next Pk.here) (Src.cel (by first | rfl | (simp <;> done) | (simp <;> omega))) (by first | rfl | assumption | (simp <;> done) | (simp <;> omega)) (by first | assumption | exact oneCells1 rfl | exact oneCells1 (by assumption) | exact oneCells_bytesC _ | exact oneCells_votesC _ | (simp [oneCells, Value.oneCell'] <;> done)) (by first | omega | (simp <;> omega)) (by first | omega | (simp <;> omega)) rfl (by first | rfl | (simp <;> done)) ?_); intro na21 nc21)
      refine Ls (Rdo.assign rfl) (WpL.nil (Blk.n (Thn.n (Wp.region (Ls (Rdo.move rfl) ?_)))))
      refine Ls (Rdo.sub64 rfl rfl (by omega)) ?_
      refine Ls (Rdo.assign rfl) (Lnt ?_)
      refine ⟨k - 1, _, _, by omega, ⟨j + 1, x - 1, _, _, by omega, by omega, rfl, rfl⟩, (by repeat (first | exact trivial | refine ⟨rfl, ?_⟩)), ?_⟩
      rw [hw]
      simp only [suL2]
      rw [e1]
      exact Gk
    · have hx0 : ¬ x ≥ 0 := by omega
      obtain rfl : j = 8 := by omega
      have hM : bs ++ [128] ++ List.replicate (rPad bs.length) 0 ++ rDig bs.length 8 = rMsg bs := rfl
      have hMl := rMsg_len bs
      rw [hM, ← hMl]
      generalize rMsg bs = M at *
      refine Wp.seq (Wsr (Ls (Rdo.move rfl) (Ls (Rdo.gei rfl rfl) (Lnt (cL rfl ?_)))))
      refine Wp.exit ?_
      refine Thn.x ?_
      refine Thn.x ?_
      refine Blk.here ?_
      refine Thn.n (Wsr (Ls (Rdo.bldArr1 rfl rfl) ?_))
      (refine WpL.step (Stp.alloc rfl ?_); intro nb16)
      refine WpL.step (St rfl rfl (VC.ag _) ?_)
      refine Lnt (Wsr ?_)
      refine WpL.step (Sc (s1) rfl ?_)
      rintro _ _ ⟨rfl, rfl⟩
      refine Ll ?_
      (refine WpL.step (Stp.alloc rfl ?_); intro nb25)
      refine WpL.step (St rfl rfl (VC.ag _) ?_)
      refine Lnt (Wp.seq (Wsr (Ls (Rdo.assign rfl) (Lnt (Wp.block ?_)))))
      have hKl := dK_len
      generalize dK = Kl at *
      have hQ : 64 * (M.length / 64) = M.length := by omega
      have hM9 : 9 ≤ M.length := by omega
      have hM1 : M.length ≤ 1000000128 := by omega
      refine Wp.get (Pk.next (Pk.next Pk.here)) (fun r => rowA_cap2) ?_
      intro hcap
      refine Wp.gh (Gh.ice (Pk.next (Pk.next Pk.here))) ?_
      refine Wp.get Pk.here (row_some (by omega)) ?_
      rintro ⟨mb, mo, rfl⟩
      refine Wp.loopE (fun k e h => ∃ q : Nat, q + k = M.length / 64 ∧ e = suE3 nb2 nb16 nb25 (.slice (some ⟨mb, mo, none⟩) M.length cm) (64 * q) ∧ h = suL3 Kl nb2 nb16 nb25 (.slice (some ⟨mb, mo, none⟩) M.length cm) M (dBlocks Kl dS8 M q)) (M.length / 64)
        (e0 := suE3 nb2 nb16 nb25 (.slice (some ⟨mb, mo, none⟩) M.length cm) (64 * 0)) (l0 := suL3 Kl nb2 nb16 nb25 (.slice (some ⟨mb, mo, none⟩) M.length cm) M (dBlocks Kl dS8 M 0)) (by repeat (first | exact trivial | refine ⟨rfl, ?_⟩)) (by repeat (first | exact trivial | refine ⟨rfl, ?_⟩)) (by rw [dBlocks_zero]; exact Gk) ⟨0, by omega, rfl, rfl⟩ ?_
      rintro k e h ⟨q, hqk, rfl, rfl⟩
      by_cases hq : q < M.length / 64
      · have hq' : ((64 * q : Nat) : Int) < M.length := by omega
        have a1 : ((64 * q : Nat) : Int) + 64 = ((64 * q + 64 : Nat) : Int) := by omega
        have a2 : ((64 * q : Nat) : Int) + 64 = ((64 * (q + 1) : Nat) : Int) := by omega
        have hs2 := dBlocks_succ Kl dS8 M q
        have hl64 : ((M.drop (64 * q)).take 64).length = 64 := by simp; omega
        have hk : 64 * (q + 1) - 64 * q = 64 := by omega
        have s2 := rblock_ok Kl hKl nb25 (dBlocks Kl dS8 M q) (.slice (some (slA mb mo (64 * q) cm 1)) (64 * (q + 1) - 64 * q) (cm - 64 * q)) ((M.drop (64 * q)).take 64) (by omega) (by omega)
        rw [dBlock_congr Kl _ (cs := M.drop (64 * q)) (fun i hi => getD_take _ 64 i hi), ← hs2] at s2
        refine Wp.gh (Gh.fzAlso (Ψ := fun g => RdBytes g (.slice (some (slA mb mo (64 * q) cm 1)) (64 * (q + 1) - 64 * q) (cm - 64 * q)) ((M.drop (64 * q)).take 64)) Pk.here (fun g h => by rw [hk]; exact RdBytes.sub_ h (by omega) (by omega))) ?_
        obtain ⟨S1, hS1⟩ : ∃ S, S = dBlocks Kl dS8 M (q + 1) := ⟨_, rfl⟩
        rw [← hS1] at s2
        clear hs2
        generalize dBlocks Kl dS8 M q = S0 at *
        refine Wp.seq (Wsr (Ls (Rdo.move rfl) (Ls (Rdo.move rfl) (Ls (Rdo.lenSlice rfl) (Ls (Rdo.lti rfl rfl) (Lnt (cK rfl (Wp.skip (Thn.n (Wp.seq (Wp.block ?_)))))))))))
        refine Wp.draw (by kernel_rfl) ?_
        refine Qt (i := 1) rfl (Rdo.move rfl) (Qt (i := 2) rfl (Rdo.move rfl) (Qt (i := 3) rfl (Rdo.move rfl) ?_))
        refine Qt (i := 4) rfl (Rdo.addE rfl rfl (by assumption) (by omega)) ?_
        refine Qt (i := 5) rfl (Rdo.sl_lh _ _ rfl rfl rfl rfl rfl (by omega) (by omega)) ?_
        refine Qo (i := 0) rfl (Stp.rd (Rdo.load rfl (Lds.next (Lds.next (Lds.next Ld)))) rfl ?_)
        refine Qo (i := 6) rfl (Sc (s2) rfl ?_)
        rintro _ _ ⟨rfl, rfl⟩
        refine Ql ?_
        refine Qo (i := 7) rfl (St rfl rfl (VC.ag _) ?_)
        refine WpR.done (by kernel_rfl) ?_
        refine Blk.n (Thn.n (Wp.region (Ls (Rdo.move rfl) ?_)))
        refine Ls (Rdo.addE rfl rfl (by assumption) (by omega)) ?_
        refine Ls (Rdo.assign rfl) (Lnt ?_)
        subst hS1
        exact ⟨k - 1, _, _, by omega, ⟨q + 1, by omega, rfl, rfl⟩, (by repeat (first | exact trivial | refine ⟨rfl, ?_⟩)), Gk⟩
      · have hq' : ¬ ((64 * q : Nat) : Int) < M.length := by omega
        obtain rfl : q = M.length / 64 := by omega
        generalize dBlocks Kl dS8 M (M.length / 64) = V at *
        refine Wp.seq (Wsr (Ls (Rdo.move rfl) (Ls (Rdo.move rfl) (Ls (Rdo.lenSlice rfl) (Ls (Rdo.lti rfl rfl) (Lnt (cL rfl ?_)))))))
        refine Wp.exit ?_
        refine Thn.x ?_
        refine Thn.x ?_
        refine Blk.here ?_
        refine Thn.n (Wsr ?_)
        (refine WpL.step (Stp.alloc rfl ?_); intro nb17)
        refine Lnt (Wp.seq (Wsr (Ls (Rdo.assign rfl) (Lnt (Wp.block ?_)))))
        refine Wp.loopE (fun k e h => ∃ i : Nat, i + k = 32 ∧ e = suE4 nb2 nb16 nb17 i ∧ h = suL4 nb2 nb16 nb17 V (rOut V.l i)) 32
          (e0 := suE4 nb2 nb16 nb17 0) (l0 := suL4 nb2 nb16 nb17 V (rOut V.l 0)) (by repeat (first | exact trivial | refine ⟨rfl, ?_⟩)) (by repeat (first | exact trivial | refine ⟨rfl, ?_⟩)) (by simp only [rOut, suL4, List.map_replicate]; exact Gk) ⟨0, by omega, rfl, rfl⟩ ?_
        rintro k e h ⟨i, hik, rfl, rfl⟩
        by_cases hi : i < 32
        · have hi' : (i : Int) < 32 := by omega
          have d1 : IntKind.i64.wrap ((i : Int).tdiv 4) = ((i / 4 : Nat) : Int) := by
            rw [show (i : Int).tdiv 4 = ((i / 4 : Nat) : Int) from (Int.ofNat_tdiv i 4).symm]
            simp [IntKind.wrap, IntKind.bits, IntKind.signed]
            omega
          have t1 : (i : Int).tmod 4 = ((i % 4 : Nat) : Int) := (Int.ofNat_tmod i 4).symm
          have m1 : (8 : Int) * ((i % 4 : Nat) : Int) = ((8 * (i % 4) : Nat) : Int) := by omega
          have n1 : (24 : Int) - ((8 * (i % 4) : Nat) : Int) = ((24 - 8 * (i % 4) : Nat) : Int) := by omega
          have hw : IntKind.u64.wrap ((24 - 8 * (i % 4) : Nat) : Int) = ((24 - 8 * (i % 4) : Nat) : Int) := by
            simp [IntKind.wrap, IntKind.bits, IntKind.signed]
            omega
          have hv : IntKind.u8.wrap (V.l.getD (i / 4) 0 / 2 ^ Min.min (IntKind.u64.wrap ((24 - 8 * (i % 4) : Nat) : Int)).toNat IntKind.u32.bits) = rByteAt V.l i := by
            rw [hw]
            unfold rByteAt
            by_cases h3 : i % 4 = 3
            · rw [if_pos h3, h3]
              simp
            · rw [if_neg h3]
              rfl
          have w0 := at32 V.l (i / 4) (show i / 4 < 8 by omega)
          have hlen := rOut_len V.l i
          refine Wp.seq (Wsr (Ls (Rdo.move rfl) (Ls (Rdo.lti rfl rfl) (Lnt (cK rfl (Wp.skip (Thn.n (Wp.seq (Wp.block (Wp.region (Ls (Rdo.move rfl) (Ls (Rdo.move rfl) ?_))))))))))))
          refine Ls (Rdo.quoE rfl rfl (by omega) (by assumption)) ?_
          refine Ls (Rdo.indexArr rfl rfl (by omega)) ?_
          refine Ls (Rdo.load rfl (Lds.next (Lds.one (by assumption)))) ?_
          refine Ls (Rdo.move rfl) ?_
          refine Ls (Rdo.remE rfl rfl (by omega) (by assumption)) ?_
          refine Ls (Rdo.mulE rfl rfl (by assumption) (by omega)) ?_
          refine Ls (Rdo.subE rfl rfl (by assumption) (by omega)) ?_
          refine Ls (Rdo.convInt rfl) ?_
          refine Ls (Rdo.shr rfl rfl (by omega)) ?_
          refine Ls (Rdo.convInt rfl) ?_
          refine Ls (Rdo.indexArr rfl rfl (by omega)) ?_
          rw [hv]
          refine WpL.step (Stp.storeV rfl rfl (VC.i _ _) rfl (Sts.here (oneCells1 rfl) ?_) ?_)
          · simp only [List.length_map, List.length_cons, List.length_nil, hlen]; omega
          rw [put8v _ _ _ (by rw [hlen]; exact hi)]
          refine WpL.nil (Blk.n (Thn.n (Wp.region (Ls (Rdo.move rfl) ?_))))
          refine Ls (Rdo.succ rfl rfl (by omega)) ?_
          refine Ls (Rdo.assign rfl) (Lnt ?_)
          exact ⟨k - 1, _, _, by omega, ⟨i + 1, by omega, rfl, rfl⟩, (by repeat (first | exact trivial | refine ⟨rfl, ?_⟩)), Gk⟩
        · obtain rfl : i = 32 := by omega
          have hlen := rOut_len V.l 32
          generalize rOut V.l 32 = D at *
          subst hZ
          have hlen2 : (Z.map v8).length = 32 := by rw [List.length_map]; exact hlen
          refine Wp.seq (Wsr (Ls (Rdo.move rfl) (Ls (Rdo.lti rfl rfl) (Lnt ?_))))
          refine Wp.condF rfl ?_
          refine Wp.exit ?_
          refine Thn.x ?_
          refine Thn.x ?_
          refine Blk.here ?_
          refine Thn.n (Wsr ?_)
          refine Ls (Rdo.load rfl Ld) ?_
          refine WpL.step (St rfl rfl (VC.ag _) ?_)
          refine Lnt (Wp.ret ?_)
          refine Rt (ResV.cell rfl (by repeat (first | exact Lds.one rfl | (apply Lds.all; (first | rfl | assumption | (simp <;> fail))) | exact Lds.ione0 | exact Lds.ione rfl | (apply Lds.iall; (first | rfl | assumption | (simp <;> fail))) | apply Lds.next)) ResV.nil) ⟨rfl, rfl⟩
end Go.Proofs.YtomijhgicennbaaGreat
namespace Go.Proofs.YtomijhgicennbaaGreat
open Go
set_option maxHeartbeats 4000000
set_option linter.unusedSimpArgs false
set_option linter.unusedVariables false
set_option maxRecDepth 20000
theorem rSumH_ok (v : Value) (bs : List UInt8) (hl : bs.length ≤ 1000000000) :
    Trip Tryz.prog 58 [v] [fz (fun g => RdBytes g v bs)] (fun r l => r = .agg (hc (dHash bs)).toArray ∧ l = [fz (fun g => RdBytes g v bs)]) := by
  refine Trip.mono (Trip.keep (A := []) (rSum_ok v bs hl)) ?_
  rintro r l ⟨l', ⟨rfl, rfl⟩, rfl⟩
  exact ⟨by rw [dHash_cells], rfl⟩
/-- The digest of an own row. -/
theorem rSumRow (a : Option Addr) (n c : Nat) (cs : List Value) (bs : List UInt8) (hn : n = bs.length) (hcs : cs = bytesC bs) (hl : bs.length ≤ 1000000000) :
    Trip Tryz.prog 58 [.slice a n c] [rowA 5 1 (.slice a n c) n cs] (fun r l => r = .agg (hc (dHash bs)).toArray ∧ l = [fz (fun g => RdBytes g (.slice a bs.length c) bs)]) := by
  subst hn hcs
  exact Trip.gh (Gh.ice Pk.here) (rSumH_ok _ bs hl)
theorem rLink_ok (h : Hash) (a : Option Addr) (c : Nat) (p : List UInt8) (hl : p.length ≤ 1000000) :
    Trip Tryz.prog 52 [.agg (hc h).toArray, .slice a p.length c] [fz (fun g => RdBytes g (.slice a p.length c) p)] (fun r l => r = .agg (hc (dHash (h.l ++ p))).toArray ∧ l = [fz (fun g => RdBytes g (.slice a p.length c) p)]) := by
  have hz := hc_length h
  have ho := oneCells_hc h
  have s1 : ∀ a' c', Trip Tryz.prog 58 [.slice a' (32 + p.length) c'] [rowA 5 1 (.slice a' (32 + p.length) c') (32 + p.length) (hc h ++ bytesC p)] _ := fun a' c' => rSumRow a' (32 + p.length) c' (hc h ++ bytesC p) (h.l ++ p) (by rw [List.length_append, h.h]) (by simp [hc, bytesC]) (by rw [List.length_append, h.h]; omega)
  refine Trip.of_body Tryz.func52 rfl Tryz.ntmps52 Tryz.results52 rfl ?_
  refine Wsr ?_
  (refine WpL.step (Stp.boxV rfl (VC.ag _) rfl ?_); intro nb2)
  (refine WpL.step (Stp.alloc rfl ?_); intro nb3)
  refine Lnt (Wsr ?_)
  (refine WpL.step (Stp.slice0 rfl ?_); intro nb8)
  refine Ls (Rdo.slArr rfl) ?_
  (refine WpL.step (Stp.append0P rfl rfl Pk.here (Src.next (Src.cel (by first | rfl | (simp <;> done) | (simp <;> omega)))) (by first | rfl | assumption | (simp <;> done) | (simp <;> omega)) (by first | assumption | exact oneCells1 rfl | exact oneCells1 (by assumption) | exact oneCells_bytesC _ | exact oneCells_votesC _ | (simp [oneCells, Value.oneCell'] <;> done)) (by first | omega | (simp <;> omega)) (by first | omega | (simp <;> omega)) rfl (by first | rfl | (simp <;> done)) ?_); intro na10 nc10)
  refine Ls (Rdo.move rfl) ?_
  (refine WpL.step (Stp.appendP rfl rfl Pk.here (Src.next (Src.next Src.frozen)) (by first | rfl | assumption | (simp <;> done) | (simp <;> omega)) (by first | assumption | exact oneCells1 rfl | exact oneCells1 (by assumption) | exact oneCells_bytesC _ | exact oneCells_votesC _ | (simp [oneCells, Value.oneCell'] <;> done)) (by first | omega | (simp <;> omega)) (by first | omega | (simp <;> omega)) rfl (by first | rfl | (simp <;> done)) ?_); intro na12 nc12)
  refine WpL.step (Sc (s1 _ _) rfl ?_)
  rintro _ _ ⟨rfl, rfl⟩
  refine Ll ?_
  refine WpL.step (St rfl rfl (VC.ag _) ?_)
  refine Lnt (Wp.ret ?_)
  refine Rt (ResV.cell rfl (by repeat (first | exact Lds.one rfl | (apply Lds.all; (first | rfl | assumption | (simp <;> fail))) | exact Lds.ione0 | exact Lds.ione rfl | (apply Lds.iall; (first | rfl | assumption | (simp <;> fail))) | apply Lds.next)) ResV.nil) ⟨rfl, rfl⟩
end Go.Proofs.YtomijhgicennbaaGreat
namespace Go.Proofs.YtomijhgicennbaaGreat
open Go
set_option maxHeartbeats 4000000
set_option linter.unusedSimpArgs false
set_option linter.unusedVariables false
set_option maxRecDepth 20000
theorem made1 (a : Value) (n : Nat) : (madeCells [a].toArray n).toList = List.replicate n a := by
  unfold madeCells
  rw [Array.toList_map, Array.toList_range]
  refine List.eq_replicate_iff.2 ⟨by simp, fun b hb => ?_⟩
  obtain ⟨i, _, rfl⟩ := List.mem_map.1 hb
  simp [Nat.mod_one]
theorem Stp.make64 {P : Program} {n d : Nat} {x y : Operand} {k1 k2 : IntKind} {t ty e' : Nat} {pos : String} {after : Array Edge} {g : Option (Nat × Bool)} {e : Env} {l : List HP} {Φ : Env → List HP → Prop}
    [ht : EL P t e'] [hz : SZ P e' 1] [hby : BY P e' 1] [hzv : ZV P e' [.int .u8 0]] (hx : evl e x = some (.int k1 64)) (hy : evl e y = some (.int k2 64)) (hd : Nat.blt d n = true)
    (hk : ∀ b, Φ (eset e d (.slice (some ⟨b, 0, none⟩) 64 64)) (rowA e' 1 (.slice (some ⟨b, 0, none⟩) 64 64) 64 (bytesC (List.replicate 64 0)) :: l)) :
    Stp P n ⟨some d, .makeSlice t x y, ty, pos, after, g⟩ e l Φ := by
  unfold Stp
  intro F w a ds hl he K Q0 hK
  have h1 := hz.pf
  have h2 := hby.pf
  have h3 := hzv.pf
  cases hi : P.info? e' with
  | none => rw [hi] at h1; cases h1
  | some i =>
    rw [hi] at h1 h2 h3
    simp only [Option.map_some, Option.some.injEq] at h1 h2
    simp only [Option.bind_some] at h3
    cases hzz : i.zero with
    | none => rw [hzz] at h3; cases h3
    | some z =>
      have hr := run_make (P := P) w t e' i z ht.pf hi hzz k1 k2 64 64 (by omega) (by omega) (by rw [h2]; omega) (by omega)
      simp only [h1] at hr
      rw [hzz] at h3
      simp only [Option.map_some, Option.some.injEq] at h3
      have hcs : (madeCells z.cells 64).toList = bytesC (List.replicate 64 0) := by
        rw [h3, made1, bytesC, List.map_replicate]
        rfl
      unfold OpW
      have e1 : (execOp a.eval ⟨some d, .makeSlice t x y, ty, pos, after, g⟩).run P w = .ok (.value (.slice (some ⟨w.heap.size, 0, none⟩) 64 64)) (w.alloc (.cells (madeCells z.cells 64) e')) := by
        simp [execOp, he.eval hx, he.eval hy, hr]
      rw [e1]
      have hcel : Holds (cel w.heap.size e' (bytesC (List.replicate 64 0)) :: l) F (w.alloc (.cells (madeCells z.cells 64) e')) := by
        have := hl.alloc (.cells (madeCells z.cells 64) e')
        unfold cel
        rw [← hcs]
        simpa using this
      have hrow := (Gh.row (n := 64) (sz := 1) (rest := l) (l := cel w.heap.size e' (bytesC (List.replicate 64 0)) :: l) Pk.here (by simp [bytesC])).use hcel
      exact hK _ _ _ _ (he.put _ hd) hrow (Ext.alloc w _) (hk _)
instance {P : Program} {e : Env} {t e' : Nat} {k1 k2 : IntKind} [EL P t e'] [SZ P e' 1] [BY P e' 1] [ZV P e' [.int .u8 0]] : MK P e (.makeSlice t (.const (.int k1 64)) (.const (.int k2 64))) (fun nb => .slice (some ⟨nb, 0, none⟩) 64 64) (fun nb => rowA e' 1 (.slice (some ⟨nb, 0, none⟩) 64 64) 64 (bytesC (List.replicate 64 0))) := ⟨fun hd h => Stp.make64 rfl rfl hd h⟩
end Go.Proofs.YtomijhgicennbaaGreat
namespace Go.Proofs.YtomijhgicennbaaGreat
open Go
set_option maxHeartbeats 4000000
set_option linter.unusedSimpArgs false
set_option linter.unusedVariables false
set_option maxRecDepth 20000
theorem WpR.two {P : Program} {n : Nat} {ops : Array Oper} {Q : Exit → Env → List HP → Prop} {m : Nat} {listed : Array Bool} {e : Env} {l : List HP} {i j : Nat} {di dj : Option Nat} {oi oj : Op} {ti tj : TypeId} {pi pj : String} {ai aj : Array Edge}
    (hi : ops[i]? = some ⟨di, oi, ti, pi, ai, none⟩) (hj : ops[j]? = some ⟨dj, oj, tj, pj, aj, none⟩) (hr : Region.ready .any ops listed = [i, j])
    (h1 : Stp P n ⟨di, oi, ti, pi, ai, none⟩ e l (WpR P n ops Q m (listed.setIfInBounds i true)))
    (h2 : Stp P n ⟨dj, oj, tj, pj, aj, none⟩ e l (WpR P n ops Q m (listed.setIfInBounds j true))) : WpR P n ops Q (m + 1) listed e l := by
  unfold WpR
  intro F w a ds hl he
  refine ⟨by rw [hr]; simp, fun k hk => ?_⟩
  rw [hr] at hk
  rcases List.mem_cons.1 hk with rfl | hk
  · unfold wpOpIn
    simp only [hi]
    rw [if_pos (by simp [Region.wanted])]
    unfold Stp at h1
    refine ⟨fun _ _ => trivial, h1 F w a ds hl he _ _ ?_⟩
    intro e' l' a' w' he' hl' hx' hq
    unfold WpR at hq
    exact wpAny_Q (fun x a w hh => SPost.mono hx' (fun _ _ _ h => h) hh) _ _ _ _ (hq F w' a' ds hl' he')
  · rw [List.mem_singleton] at hk
    subst hk
    unfold wpOpIn
    simp only [hj]
    rw [if_pos (by simp [Region.wanted])]
    unfold Stp at h2
    refine ⟨fun _ _ => trivial, h2 F w a ds hl he _ _ ?_⟩
    intro e' l' a' w' he' hl' hx' hq
    unfold WpR at hq
    exact wpAny_Q (fun x a w hh => SPost.mono hx' (fun _ _ _ h => h) hh) _ _ _ _ (hq F w' a' ds hl' he')
theorem WpR.perm_ {P : Program} {n : Nat} {ops : Array Oper} {Q : Exit → Env → List HP → Prop} {m : Nat} {listed : Array Bool} {e : Env} {l l' : List HP} (hp : Gh l l') (h : WpR P n ops Q m listed e l') : WpR P n ops Q m listed e l := by
  unfold WpR at h ⊢
  intro F w a ds hl he
  exact h F w a ds (hp.use hl) he
/-- The same, where the first one is at once assigned to a variable. -/
theorem WpR.makers3 {P : Program} {n : Nat} {ops : Array Oper} {Q : Exit → Env → List HP → Prop} {m : Nat} {listed : Array Bool} {e : Env} {l : List HP} {i j k di dj dk : Nat} {oi oj : Op} {ti tj tk : TypeId} {pi pj pk : String} {ai aj ak : Array Edge} {V1 V2 : Nat → Value} {A1 A2 : Nat → HP}
    (hi : ops[i]? = some ⟨some di, oi, ti, pi, ai, none⟩) (hj : ops[j]? = some ⟨some dj, oj, tj, pj, aj, none⟩) (hk : ops[k]? = some ⟨some dk, .assign (.tmp di), tk, pk, ak, none⟩) (h1 : ∀ e, MK P e oi V1 A1) (h2 : ∀ e, MK P e oj V2 A2) (hr : Region.ready .any ops listed = [i, j])
    (hsel : Region.noSelect ops = true) (hf1 : Region.free .any ops (listed.setIfInBounds i true) k = true) (hr1 : (Region.ready .any ops (listed.setIfInBounds i true)).contains k = true)
    (hr2 : Region.ready .any ops ((listed.setIfInBounds i true).setIfInBounds k true) = [j]) (hrj : Region.ready .any ops (listed.setIfInBounds j true) = [i])
    (hf2 : Region.free .any ops ((listed.setIfInBounds j true).setIfInBounds i true) k = true) (hr3 : (Region.ready .any ops ((listed.setIfInBounds j true).setIfInBounds i true)).contains k = true)
    (hset : ((listed.setIfInBounds j true).setIfInBounds i true).setIfInBounds k true = ((listed.setIfInBounds i true).setIfInBounds k true).setIfInBounds j true)
    (hdi : Nat.blt di n = true) (hdj : Nat.blt dj n = true) (hdk : Nat.blt dk n = true) (hij : Nat.beq di dj = false) (hjk : Nat.beq dj dk = false) (hik : Nat.beq di dk = false)
    (h : ∀ nb nb', WpR P n ops Q m (((listed.setIfInBounds i true).setIfInBounds k true).setIfInBounds j true) (eset (eset (eset e di (V1 nb)) dk (V1 nb)) dj (V2 nb')) (A1 nb :: A2 nb' :: l)) : WpR P n ops Q (m + 1 + 1 + 1) listed e l := by
  have hij' : di ≠ dj := fun hh => by subst hh; simp at hij
  have hjk' : dj ≠ dk := fun hh => by subst hh; simp at hjk
  have hik' : di ≠ dk := fun hh => by subst hh; simp at hik
  refine WpR.two hi hj hr ((h1 e).stp hdi fun nb => WpR.take hk hsel hf1 hr1 (Rdo.assign (v := V1 nb) ?_) hdk (WpR.one hj hr2 ((h2 _).stp hdj fun nb' => ?_))) ((h2 e).stp hdj fun nb' => WpR.one hi hrj ((h1 _).stp hdi fun nb => WpR.take hk hsel hf2 hr3 (Rdo.assign (v := V1 nb) ?_) hdk ?_))
  · show elook _ _ = _
    rw [elook_eset, if_pos rfl]
  · exact WpR.perm_ (Gh.perm (List.Perm.swap _ _ _)) (h nb nb')
  · show elook _ _ = _
    rw [elook_eset, if_pos rfl]
  · rw [hset]
    refine WpR.env (fun q v hq => ?_) (h nb nb')
    simp only [elook_eset] at hq ⊢
    by_cases a1 : dj = q
    · subst a1
      simp only [if_true, if_neg hjk'.symm, if_neg hij'] at hq ⊢
      exact hq
    · by_cases a2 : dk = q
      · subst a2
        simp only [if_true, if_neg a1] at hq ⊢
        exact hq
      · simp only [if_neg a1, if_neg a2] at hq ⊢
        exact hq
end Go.Proofs.YtomijhgicennbaaGreat
namespace Go.Proofs.YtomijhgicennbaaGreat
open Go
set_option maxHeartbeats 4000000
set_option linter.unusedSimpArgs false
set_option linter.unusedVariables false
set_option maxRecDepth 20000
theorem Src.vsum {P : Program} {l : List HP} {t : TypeId} {b c : Nat} {v : Vote} : Src P (Go.Proofs.YtomijhgicennbaaGreat.cel b t (voteC v) :: l) 1 (.slice (some ⟨b, 3, none⟩) 32 c) 32 (hc v.sum) := by
  rw [voteC_sum_]
  exact Src.piece (A := [vi v.kind, vi v.slot, vi v.view]) (by rw [hc_length]) rfl
theorem Src.vtag {P : Program} {l : List HP} {t : TypeId} {b c : Nat} {v : Vote} : Src P (Go.Proofs.YtomijhgicennbaaGreat.cel b t (voteC v) :: l) 1 (.slice (some ⟨b, 36, none⟩) 32 c) 32 (hc v.tag) := by
  have h : voteC v = (vi v.kind :: vi v.slot :: vi v.view :: (hc v.sum ++ [vi v.from_])) ++ (hc v.tag ++ []) := by simp [voteC]
  rw [h]
  exact Src.piece (by rw [hc_length]) (by simp)
theorem clampN_nat (n : Nat) (h : n ≤ 4611686018427387904) : clampN (n : Int) = n := by
  unfold clampN
  rw [if_neg (by omega), if_neg (by omega), Int.toNat_natCast]
theorem rBytes_ok (a : Option Addr) (c : Nat) (p : List UInt8) (hl : p.length ≤ 1000000) :
    Trip Tryz.prog 61 [.slice a p.length c] [fz (fun g => RdBytes g (.slice a p.length c) p)]
      (fun r l => ∃ a' c', r = .slice a' (rowB p).length c' ∧ l = [rowA 5 1 (.slice a' (rowB p).length c') (rowB p).length (bytesC (rowB p)), fz (fun g => RdBytes g (.slice a p.length c) p)]) := by
  have s1 := num_ok p.length (by omega)
  rw [clampN_nat _ (by omega)] at s1
  have h9 := numB_len 8 p.length (by omega)
  have e1 : (rowB p).length = (numB p.length).length + p.length := by simp [rowB]
  have e2 : bytesC (rowB p) = bytesC (numB p.length) ++ bytesC p := by simp [rowB, bytesC]
  rw [e1, e2]
  generalize numB p.length = M at *
  refine Trip.of_body Tryz.func61 rfl Tryz.ntmps61 Tryz.results61 rfl ?_
  refine Wsr (Ls (Rdo.assign rfl) (Lnt (Wsr (Ls (Rdo.move rfl) (Ls (Rdo.lenSlice rfl) ?_)))))
  refine WpL.step (Sc (s1) rfl ?_)
  rintro _ _ ⟨v10_0, ⟨v10_1, ⟨rfl, rfl⟩⟩⟩
  refine Ll ?_
  refine Ls (Rdo.move rfl) ?_
  (refine WpL.step (Stp.appendP rfl rfl Pk.here Src.frozen (by first | rfl | assumption | (simp <;> done) | (simp <;> omega)) (by first | assumption | exact oneCells1 rfl | exact oneCells1 (by assumption) | exact oneCells_bytesC _ | exact oneCells_votesC _ | (simp [oneCells, Value.oneCell'] <;> done)) (by first | omega | (simp <;> omega)) (by first | omega | (simp <;> omega)) rfl (by first | rfl | (simp <;> done)) ?_); intro na13 nc13)
  refine Ls (Rdo.assign rfl) (Lnt (Wp.ret ?_))
  refine Rt (ResV.tmp rfl ResV.nil) ⟨_, ⟨_, ⟨rfl, rfl⟩⟩⟩
abbrev rvsE (lv bv : Value) (i : Nat) : Env := [(0, lv), (3, bv), (4, vi i)]
theorem rVotes_ok (lv : Value) (vs : List Vote) (hn : vs.length ≤ 10000) :
    Trip Tryz.prog 62 [lv] [fz (fun g => RdVotes g lv vs)]
      (fun r l => ∃ a c, r = .slice a (votesB vs).length c ∧ l = [rowA 5 1 (.slice a (votesB vs).length c) (votesB vs).length (bytesC (votesB vs)), fz (fun g => RdVotes g lv vs)]) := by
  refine Trip.get Pk.here shape_votes ?_
  rintro ⟨a, c, rfl⟩
  have s1 := num_ok vs.length (by omega)
  rw [clampN_nat _ (by omega)] at s1
  have h9 := numB_len 8 vs.length (by omega)
  refine Trip.of_body Tryz.func62 rfl Tryz.ntmps62 Tryz.results62 rfl ?_
  refine Wsr (Ls (Rdo.assign rfl) (Lnt (Wsr (Ls (Rdo.move rfl) (Ls (Rdo.lenSlice rfl) ?_)))))
  refine WpL.step (Sc (s1) rfl ?_)
  rintro _ _ ⟨v10_0, ⟨v10_1, ⟨rfl, rfl⟩⟩⟩
  refine Ll ?_
  refine Ls (Rdo.assign rfl) (Lnt (Wp.seq (Wsr (Ls (Rdo.assign rfl) (Lnt (Wp.block ?_))))))
  refine Wp.loopE (fun k e h => ∃ (i : Nat) (a' : Option Addr) (c' : Nat) (B : List UInt8), i + k = vs.length ∧ B = numB vs.length ++ ((vs.take i).map voteAll).flatten ∧ e = rvsE (.slice a vs.length c) (.slice a' B.length c') i ∧ h = [rowA 5 1 (.slice a' B.length c') B.length (bytesC B), fz (fun g => RdVotes g (.slice a vs.length c) vs)]) vs.length
    (e0 := rvsE (.slice a vs.length c) (.slice v10_0 (numB vs.length).length v10_1) (0 : Nat)) (l0 := [rowA 5 1 (.slice v10_0 (numB vs.length).length v10_1) (numB vs.length).length (bytesC (numB vs.length)), fz (fun g => RdVotes g (.slice a vs.length c) vs)]) (by repeat (first | exact trivial | refine ⟨rfl, ?_⟩)) (by repeat (first | exact trivial | refine ⟨rfl, ?_⟩)) Gk ⟨0, v10_0, v10_1, numB vs.length, by omega, by simp, rfl, rfl⟩ ?_
  rintro k e h ⟨i, a', c', B, hik, hB, rfl, rfl⟩
  have hal := votesAll_len (vs.take i)
  rw [List.length_take] at hal
  have hBl : B.length ≤ 9 + 100 * i := by rw [hB, List.length_append]; omega
  by_cases hi : i < vs.length
  · have hi' : (i : Int) < vs.length := by omega
    obtain ⟨x, hx⟩ : ∃ x, vs[i]? = some x := ⟨vs[i], List.getElem?_eq_getElem hi⟩
    have cx := votes_cut hx
    have lx : (votesC (vs.take i)).length = i * 68 := by simp; omega
    have lx2 := voteC_length x
    have h35 := voteC_from x
    refine Wp.get (Pk.next Pk.here) (row_some (by omega)) ?_
    rintro ⟨b1, o1, rfl⟩
    have n1 : ∀ nb, Trip Tryz.prog 60 [.slice (some ⟨nb, 0, none⟩) 3 3] [cel nb 3 [vi x.kind, vi x.slot, vi x.view]] _ := fun nb => numsAny_ok nb [x.kind, x.slot, x.view] (by simp)
    have n2 := numAny_ok x.from_
    have k1 := numsB_len [x.kind, x.slot, x.view]
    have k2 := numB_clamp_len x.from_
    simp only [List.length_cons, List.length_nil] at k1
    have hz1 := hc_length x.sum
    have hz2 := hc_length x.tag
    have e1 : ∀ n, n = B.length + (numsB [x.kind, x.slot, x.view]).length + 32 + (numB (clampN x.from_)).length + 32 → n = (numB vs.length ++ ((vs.take (i + 1)).map voteAll).flatten).length := by
      intro n hn
      rw [hn, hB, List.take_add_one, hx]
      simp [voteAll, voteB, numsB, x.sum.h, x.tag.h]
      omega
    have e2 : bytesC B ++ bytesC (numsB [x.kind, x.slot, x.view]) ++ hc x.sum ++ bytesC (numB (clampN x.from_)) ++ hc x.tag = bytesC (numB vs.length ++ ((vs.take (i + 1)).map voteAll).flatten) := by
      rw [hB, List.take_add_one, hx]
      simp [voteAll, voteB, numsB, bytesC, hc]
    generalize numsB [x.kind, x.slot, x.view] = N at *
    generalize numB (clampN x.from_) = M at *
    refine Wp.seq (Wsr (Ls (Rdo.move rfl) (Ls (Rdo.move rfl) (Ls (Rdo.lenSlice rfl) (Ls (Rdo.lti rfl rfl) (Lnt (cK rfl (Wp.skip (Thn.n (Wp.seq (Wp.block (Wsr (Ls (Rdo.move rfl) ?_)))))))))))))
    refine Ls (Rdo.move rfl) ?_
    refine Ls (Rdo.indexSlice rfl rfl (by omega)) ?_
    refine Ls (Rdo.load rfl (Lds.next (Lds.fzN (by assumption) (by first | assumption | omega | (simp <;> omega)) (by first | assumption | rfl)))) ?_
    (refine WpL.step (Stp.alloc rfl ?_); intro nb20)
    refine WpL.step (St rfl rfl (VC.ag _) ?_)
    refine Lnt (Wsr (Ls (Rdo.move rfl) (Ls (Rdo.fieldAddr0 rfl) (Ls (Rdo.load rfl (Lds.one rfl)) (Ls (Rdo.fieldAddr0 rfl) (Ls (Rdo.load rfl (Lds.one rfl)) (Ls (Rdo.fieldAddr0 rfl) (Ls (Rdo.load rfl (Lds.one rfl)) ?_))))))))
    (refine WpL.step (Stp.sliceV rfl rfl (VCs.cons (VC.i _ _) (by first | rfl | assumption | (simp <;> done)) (VCs.cons (VC.i _ _) (by first | rfl | assumption | (simp <;> done)) (VCs.cons (VC.i _ _) (by first | rfl | assumption | (simp <;> done)) VCs.nil))) (by simp only [List.cons_append, List.nil_append, List.append_nil]; exact rfl) rfl rfl ?_); intro nb33)
    refine WpL.step (Sc (n1 _) rfl ?_)
    rintro _ _ ⟨v35_0, ⟨v35_1, ⟨rfl, rfl⟩⟩⟩
    refine Ll ?_
    (refine WpL.step (Stp.appendP rfl rfl (Pk.next (Pk.next Pk.here)) Src.row (by first | rfl | assumption | (simp <;> done) | (simp <;> omega)) (by first | assumption | exact oneCells1 rfl | exact oneCells1 (by assumption) | exact oneCells_bytesC _ | exact oneCells_votesC _ | (simp [oneCells, Value.oneCell'] <;> done)) (by first | omega | (simp <;> omega)) (by first | omega | (simp <;> omega)) rfl (by first | rfl | (simp <;> done)) ?_); intro na37 nc37)
    refine Ls (Rdo.assign rfl) (Lnt (Wp.seq ?_))
    refine Wp.draw (by kernel_rfl) ?_
    refine Qt (i := 0) rfl (Rdo.move rfl) (Qt (i := 1) rfl (Rdo.fieldAddr0 rfl) (Qt (i := 2) rfl (Rdo.slArr rfl) (Qt (i := 4) rfl (Rdo.fieldAddr0 rfl) ?_)))
    refine WpR.two (i := 3) (j := 5) rfl rfl (by kernel_rfl) ?_ ?_
    (refine (Stp.appendP rfl rfl Pk.here (Src.next Src.vsum) (by first | rfl | assumption | (simp <;> done) | (simp <;> omega)) (by first | assumption | exact oneCells1 rfl | exact oneCells1 (by assumption) | exact oneCells_bytesC _ | exact oneCells_votesC _ | (simp [oneCells, Value.oneCell'] <;> done)) (by first | omega | (simp <;> omega)) (by first | omega | (simp <;> omega)) rfl (by first | rfl | (simp <;> done)) ?_); intro na48 nc48)
    refine Qo (i := 5) rfl (Stp.rd (Rdo.load rfl (Lds.next (Lds.next (Lds.one (by assumption))))) rfl ?_)
    refine Qo (i := 6) rfl (Sc (n2) rfl ?_)
    rintro _ _ ⟨v51_0, ⟨v51_1, ⟨rfl, rfl⟩⟩⟩
    refine Ql ?_
    (refine Qo (i := 7) rfl (Stp.appendP rfl rfl (Pk.next Pk.here) Src.row (by first | rfl | assumption | (simp <;> done) | (simp <;> omega)) (by first | assumption | exact oneCells1 rfl | exact oneCells1 (by assumption) | exact oneCells_bytesC _ | exact oneCells_votesC _ | (simp [oneCells, Value.oneCell'] <;> done)) (by first | omega | (simp <;> omega)) (by first | omega | (simp <;> omega)) rfl (by first | rfl | (simp <;> done)) ?_); intro na53 nc53)
    refine Qt (i := 8) rfl (Rdo.assign rfl) ?_
    refine WpR.done (by kernel_rfl) ?_
    refine Thn.n (Wp.region (Ls (Rdo.move rfl) (Ls (Rdo.fieldAddr0 rfl) (Ls (Rdo.slArr rfl) ?_))))
    (refine WpL.step (Stp.appendP rfl rfl Pk.here (Src.next (Src.next Src.vtag)) (by first | rfl | assumption | (simp <;> done) | (simp <;> omega)) (by first | assumption | exact oneCells1 rfl | exact oneCells1 (by assumption) | exact oneCells_bytesC _ | exact oneCells_votesC _ | (simp [oneCells, Value.oneCell'] <;> done)) (by first | omega | (simp <;> omega)) (by first | omega | (simp <;> omega)) rfl (by first | rfl | (simp <;> done)) ?_); intro na61 nc61)
    refine Ls (Rdo.assign rfl) (WpL.nil (Blk.n (Thn.n (Wp.region (Ls (Rdo.move rfl) ?_)))))
    refine Ls (Rdo.succ rfl rfl (by omega)) ?_
    refine Ls (Rdo.assign rfl) (Lnt ?_)
    rotate_left
    refine Stp.rd (Rdo.load rfl (Lds.next (Lds.next (Lds.one (by assumption))))) rfl ?_
    (refine Qo (i := 3) rfl (Stp.appendP rfl rfl Pk.here (Src.next Src.vsum) (by first | rfl | assumption | (simp <;> done) | (simp <;> omega)) (by first | assumption | exact oneCells1 rfl | exact oneCells1 (by assumption) | exact oneCells_bytesC _ | exact oneCells_votesC _ | (simp [oneCells, Value.oneCell'] <;> done)) (by first | omega | (simp <;> omega)) (by first | omega | (simp <;> omega)) rfl (by first | rfl | (simp <;> done)) ?_); intro na74 nc74)
    refine Qo (i := 6) rfl (Sc (n2) rfl ?_)
    rintro _ _ ⟨v76_0, ⟨v76_1, ⟨rfl, rfl⟩⟩⟩
    refine Ql ?_
    (refine Qo (i := 7) rfl (Stp.appendP rfl rfl (Pk.next Pk.here) Src.row (by first | rfl | assumption | (simp <;> done) | (simp <;> omega)) (by first | assumption | exact oneCells1 rfl | exact oneCells1 (by assumption) | exact oneCells_bytesC _ | exact oneCells_votesC _ | (simp [oneCells, Value.oneCell'] <;> done)) (by first | omega | (simp <;> omega)) (by first | omega | (simp <;> omega)) rfl (by first | rfl | (simp <;> done)) ?_); intro na78 nc78)
    refine Qt (i := 8) rfl (Rdo.assign rfl) ?_
    refine WpR.done (by kernel_rfl) ?_
    refine Thn.n (Wp.region (Ls (Rdo.move rfl) (Ls (Rdo.fieldAddr0 rfl) (Ls (Rdo.slArr rfl) ?_))))
    (refine WpL.step (Stp.appendP rfl rfl Pk.here (Src.next (Src.next Src.vtag)) (by first | rfl | assumption | (simp <;> done) | (simp <;> omega)) (by first | assumption | exact oneCells1 rfl | exact oneCells1 (by assumption) | exact oneCells_bytesC _ | exact oneCells_votesC _ | (simp [oneCells, Value.oneCell'] <;> done)) (by first | omega | (simp <;> omega)) (by first | omega | (simp <;> omega)) rfl (by first | rfl | (simp <;> done)) ?_); intro na86 nc86)
    refine Ls (Rdo.assign rfl) (WpL.nil (Blk.n (Thn.n (Wp.region (Ls (Rdo.move rfl) ?_)))))
    refine Ls (Rdo.succ rfl rfl (by omega)) ?_
    refine Ls (Rdo.assign rfl) (Lnt ?_)
    all_goals
      rw [e1 _ rfl, e2]
      exact ⟨k - 1, _, _, by omega, ⟨i + 1, _, _, _, by omega, rfl, rfl, rfl⟩, (by repeat (first | exact trivial | refine ⟨rfl, ?_⟩)), Gk⟩
  · have hall : vs.take i = vs := List.take_of_length_le (by omega)
    have hB2 : B = votesB vs := by rw [hB, hall, votesB]
    subst hB2
    refine Wp.seq (Wsr (Ls (Rdo.move rfl) (Ls (Rdo.move rfl) (Ls (Rdo.lenSlice rfl) (Ls (Rdo.lti rfl rfl) (Lnt (cL rfl ?_)))))))
    refine Wp.exit ?_
    refine Thn.x ?_
    refine Thn.x ?_
    refine Blk.here ?_
    refine Thn.n (Wsr (Ls (Rdo.move rfl) (Ls (Rdo.assign rfl) (Lnt (Wp.ret ?_)))))
    refine Rt (ResV.tmp rfl ResV.nil) ⟨_, ⟨_, ⟨rfl, rfl⟩⟩⟩
end Go.Proofs.YtomijhgicennbaaGreat
namespace Go.Proofs.YtomijhgicennbaaGreat
open Go
set_option maxHeartbeats 4000000
set_option linter.unusedSimpArgs false
set_option linter.unusedVariables false
set_option maxRecDepth 20000
/-- A key with a mark, so many bytes of it. -/
def maB (m : UInt8) (k : Hash) (i : Nat) : List UInt8 := (xorB m (padK k.l)).take i ++ List.replicate (64 - i) 0
abbrev maE (nb : Nat) (a : Option Addr) (n c nb2 na nb' i : Nat) : Env := [(0, .slice (some ⟨nb, 0, none⟩) 32 32), (1, .slice a n c), (4, vp nb2 0), (6, .slice (some ⟨na, 0, none⟩) 64 64), (7, .slice (some ⟨nb', 0, none⟩) 64 64), (8, vi i)]
abbrev maL (nb : Nat) (k : Hash) (na nb' nb2 : Nat) (a : Option Addr) (c : Nat) (p : List UInt8) (i : Nat) : List HP :=
  [rowA 5 1 (.slice (some ⟨na, 0, none⟩) 64 64) 64 (bytesC (maB 0x5c k i)), rowA 5 1 (.slice (some ⟨nb', 0, none⟩) 64 64) 64 (bytesC (maB 0x36 k i)), cel nb2 28 (List.replicate 32 (Value.int .u8 0)), cel nb 28 (hc k), fz (fun g => RdBytes g (.slice a p.length c) p)]
theorem maB_step (m : UInt8) (k : Hash) (i : Nat) (x : UInt8) (hi : i < 64) (hx : (padK k.l)[i]? = some x) :
    (bytesC (maB m k i)).set i (.int .u8 (bits .xor .u8 (x.toNat : Int) (m.toNat : Int))) = bytesC (maB m k (i + 1)) := by
  have h1 : (xorB m (padK k.l))[i]? = some (x ^^^ m) := by unfold xorB; rw [List.getElem?_map, hx]; rfl
  have hl : ((xorB m (padK k.l)).take i).length = i := by rw [List.length_take, xorB_len, padK_len (by rw [k.h]; omega)]; omega
  obtain ⟨j, hj⟩ : ∃ j, 64 - i = j + 1 := ⟨63 - i, by omega⟩
  have hj2 : 64 - (i + 1) = j := by omega
  rw [xor8]
  unfold maB
  rw [List.take_add_one, h1, hj, hj2, List.replicate_succ]
  generalize (xorB m (padK k.l)).take i = T at *
  unfold bytesC
  rw [List.map_append, List.map_append, List.set_append_right _ _ (by rw [List.length_map]; omega), List.length_map, hl, Nat.sub_self]
  simp [u8c]
theorem maB_all (m : UInt8) (k : Hash) : maB m k 64 = xorB m (padK k.l) := by
  unfold maB
  rw [List.take_of_length_le (by rw [xorB_len, padK_len (by rw [k.h]; omega)]; omega)]
  simp
theorem maB_len (m : UInt8) (k : Hash) (i : Nat) (hi : i ≤ 64) : (bytesC (maB m k i)).length = 64 := by
  unfold maB
  rw [bytesC_length, List.length_append, List.length_take, xorB_len, padK_len (by rw [k.h]; omega), List.length_replicate]
  omega
/-- HMAC of the document; keys are digests. -/
theorem rMac_ok (k : Hash) (a : Option Addr) (c : Nat) (nb : Nat) (p : List UInt8) (hl : p.length ≤ 100000000) :
    Trip Tryz.prog 59 [.slice (some ⟨nb, 0, none⟩) 32 32, .slice a p.length c] [cel nb 28 (hc k), fz (fun g => RdBytes g (.slice a p.length c) p)] (fun r l => r = .agg (hc (dMac k.l p)).toArray ∧ l = [cel nb 28 (hc k), fz (fun g => RdBytes g (.slice a p.length c) p)]) := by
  have hz := hc_length k
  refine Trip.of_body Tryz.func59 rfl Tryz.ntmps59 Tryz.results59 rfl ?_
  refine Wsr ?_
  (refine WpL.step (Stp.alloc rfl ?_); intro nb2)
  refine Lnt (Wp.seq (Wsr (Ls (Rdo.move rfl) (Ls (Rdo.lenSlice rfl) (Ls (Rdo.gti rfl rfl) (Lnt ?_))))))
  refine Wp.condF rfl ?_
  refine Wp.skip (Thn.n (Wp.seq ?_))
  refine Wp.draw (by kernel_rfl) ?_
  refine WpR.makers3 (i := 0) (j := 1) (k := 2) rfl rfl rfl (fun _ => inferInstance) (fun _ => inferInstance) (by kernel_rfl) (by kernel_rfl) (by kernel_rfl) (by kernel_rfl) (by kernel_rfl) (by kernel_rfl) (by kernel_rfl) (by kernel_rfl) (by kernel_rfl) (by rfl) (by rfl) (by rfl) (by rfl) (by rfl) (by rfl) (fun na nb' => ?_)
  refine Qt (i := 3) rfl (Rdo.assign rfl) ?_
  refine WpR.done (by kernel_rfl) ?_
  refine Thn.n (Wp.seq (Wsr (Ls (Rdo.assign rfl) (Lnt (Wp.block ?_)))))
  have hk32 := k.h
  refine Wp.loopE (fun kk e h => ∃ i : Nat, i + kk = 64 ∧ e = maE nb a p.length c nb2 na nb' i ∧ h = maL nb k na nb' nb2 a c p i) 64
    (e0 := maE nb a p.length c nb2 na nb' (0 : Nat)) (l0 := maL nb k na nb' nb2 a c p 0) (by repeat (first | exact trivial | refine ⟨rfl, ?_⟩)) (by repeat (first | exact trivial | refine ⟨rfl, ?_⟩)) Gk ⟨0, by omega, rfl, rfl⟩ ?_
  rintro kk e h ⟨i, hik, rfl, rfl⟩
  simp only [maL]
  have hl1 := maB_len 0x5c k i (by omega)
  have hl2 := maB_len 0x36 k i (by omega)
  by_cases hi : i < 64
  · have hi' : (i : Int) < 64 := by omega
    by_cases h32 : i < 32
    · have h32' : (i : Int) < 32 := by omega
      obtain ⟨x, hx⟩ : ∃ x, k.l[i]? = some x := ⟨k.l[i], List.getElem?_eq_getElem (by omega)⟩
      have hcx : (hc k)[0 + i * 1]? = some (.int .u8 (x.toNat : Int)) := by simp [hc, bytesC, u8c, hx]
      have e1 := maB_step 0x5c k i x hi (by unfold padK; rw [List.getElem?_append_left (by omega), hx])
      have e2 := maB_step 0x36 k i x hi (by unfold padK; rw [List.getElem?_append_left (by omega), hx])
      refine Wp.seq (Wsr (Ls (Rdo.move rfl) (Ls (Rdo.lti rfl rfl) (Lnt (cK rfl (Wp.skip (Thn.n (Wp.seq (Wp.block (Wsr (Ls (Rdo.assign rfl) (Lnt (Wp.seq ?_)))))))))))))
      refine Wsr (Ls (Rdo.move rfl) (Ls (Rdo.move rfl) (Ls (Rdo.lenSlice rfl) (Ls (Rdo.lti rfl rfl) (Lnt (cK rfl (Wp.region (Ls (Rdo.move rfl) (Ls (Rdo.move rfl) ?_)))))))))
      refine Ls (Rdo.indexSlice rfl rfl (by omega)) ?_
      refine Ls (Rdo.load rfl (Lds.next (Lds.next (Lds.next (Lds.one (by assumption)))))) ?_
      refine Ls (Rdo.assign rfl) (Lnt (Wp.region (Ls (Rdo.move rfl) (Ls (Rdo.move rfl) (Ls (Rdo.move rfl) (Ls (Rdo.move rfl) (Ls (Rdo.move rfl) (Ls (Rdo.xor rfl rfl) (Ls (Rdo.move rfl) (Ls (Rdo.xor rfl rfl) ?_))))))))))
      refine Ls (Rdo.indexSlice rfl rfl (by omega)) ?_
      refine WpL.step (St rfl rfl (VC.i _ _) ?_)
      refine Ls (Rdo.indexSlice rfl rfl (by omega)) ?_
      refine WpL.step (St rfl rfl (VC.i _ _) ?_)
      refine WpL.nil (Blk.n (Thn.n (Wp.region (Ls (Rdo.move rfl) ?_))))
      refine Ls (Rdo.succ rfl rfl (by omega)) ?_
      refine Ls (Rdo.assign rfl) (Lnt ?_)
      refine ⟨kk - 1, _, _, by omega, ⟨i + 1, by omega, rfl, rfl⟩, (by repeat (first | exact trivial | refine ⟨rfl, ?_⟩)), ?_⟩
      rw [← e1, ← e2]
      exact Gk
    · have h32' : ¬ (i : Int) < 32 := by omega
      have h0 : (padK k.l)[i]? = some 0 := by
        unfold padK
        rw [List.getElem?_append_right (by omega), List.getElem?_replicate, if_pos (by omega)]
      have e1 := maB_step 0x5c k i 0 hi h0
      have e2 := maB_step 0x36 k i 0 hi h0
      refine Wp.seq (Wsr (Ls (Rdo.move rfl) (Ls (Rdo.lti rfl rfl) (Lnt (cK rfl (Wp.skip (Thn.n (Wp.seq (Wp.block (Wsr (Ls (Rdo.assign rfl) (Lnt (Wp.seq ?_)))))))))))))
      refine Wsr (Ls (Rdo.move rfl) (Ls (Rdo.move rfl) (Ls (Rdo.lenSlice rfl) (Ls (Rdo.lti rfl rfl) (Lnt (cL rfl (Wp.skip (Thn.n (Wp.region (Ls (Rdo.move rfl) (Ls (Rdo.move rfl) (Ls (Rdo.move rfl) (Ls (Rdo.move rfl) ?_)))))))))))))
      refine Ls (Rdo.move rfl) (Ls (Rdo.xor rfl rfl) (Ls (Rdo.move rfl) (Ls (Rdo.xor rfl rfl) ?_)))
      refine Ls (Rdo.indexSlice rfl rfl (by omega)) ?_
      refine WpL.step (St rfl rfl (VC.i _ _) ?_)
      refine Ls (Rdo.indexSlice rfl rfl (by omega)) ?_
      refine WpL.step (St rfl rfl (VC.i _ _) ?_)
      refine WpL.nil (Blk.n (Thn.n (Wp.region (Ls (Rdo.move rfl) ?_))))
      refine Ls (Rdo.succ rfl rfl (by omega)) ?_
      refine Ls (Rdo.assign rfl) (Lnt ?_)
      refine ⟨kk - 1, _, _, by omega, ⟨i + 1, by omega, rfl, rfl⟩, (by repeat (first | exact trivial | refine ⟨rfl, ?_⟩)), ?_⟩
      rw [← e1, ← e2]
      exact Gk
  · obtain rfl : i = 64 := by omega
    have hpl := padK_len (key := k.l) (by omega)
    rw [maB_all] at hl1 hl2 ⊢
    rw [maB_all]
    have hx1 := xorB_len 0x5c (padK k.l)
    have hx2 := xorB_len 0x36 (padK k.l)
    show Wp _ _ _ _ _ _ _
    unfold dMac
    generalize xorB 0x5c (padK k.l) = A at *
    generalize xorB 0x36 (padK k.l) = B at *
    have s1 : ∀ a' c', Trip Tryz.prog 58 [.slice a' (64 + p.length) c'] [rowA 5 1 (.slice a' (64 + p.length) c') (64 + p.length) (bytesC B ++ bytesC p)] _ := fun a' c' => rSumRow a' (64 + p.length) c' (bytesC B ++ bytesC p) (B ++ p) (by rw [List.length_append]; omega) (by simp [bytesC]) (by rw [List.length_append]; omega)
    have hz2 := hc_length (dHash (B ++ p))
    have hz4 := (dHash (B ++ p)).h
    generalize dHash (B ++ p) = H at *
    have s2 : ∀ a' c', Trip Tryz.prog 58 [.slice a' (64 + 32) c'] [rowA 5 1 (.slice a' (64 + 32) c') (64 + 32) (bytesC A ++ hc H)] _ := fun a' c' => rSumRow a' (64 + 32) c' (bytesC A ++ hc H) (A ++ H.l) (by rw [List.length_append]; omega) (by simp [bytesC, hc]) (by rw [List.length_append]; omega)
    refine Wp.seq (Wsr (Ls (Rdo.move rfl) (Ls (Rdo.lti rfl rfl) (Lnt ?_))))
    refine Wp.condF rfl ?_
    refine Wp.exit ?_
    refine Thn.x ?_
    refine Thn.x ?_
    refine Blk.here ?_
    refine Thn.n (Wsr (Ls (Rdo.move rfl) (Ls (Rdo.move rfl) ?_)))
    (refine WpL.step (Stp.appendP rfl rfl (Pk.next Pk.here) (Src.next (Src.next (Src.next Src.frozen))) (by first | rfl | assumption | (simp <;> done) | (simp <;> omega)) (by first | assumption | exact oneCells1 rfl | exact oneCells1 (by assumption) | exact oneCells_bytesC _ | exact oneCells_votesC _ | (simp [oneCells, Value.oneCell'] <;> done)) (by first | omega | (simp <;> omega)) (by first | omega | (simp <;> omega)) rfl (by first | rfl | (simp <;> done)) ?_); intro na17 nc17)
    refine WpL.step (Sc (s1 _ _) rfl ?_)
    rintro _ _ ⟨rfl, rfl⟩
    refine Ll ?_
    (refine WpL.step (Stp.alloc rfl ?_); intro nb21)
    refine WpL.step (St rfl rfl (VC.ag _) ?_)
    refine Lnt (Wsr (Ls (Rdo.move rfl) (Ls (Rdo.slArr rfl) ?_)))
    (refine WpL.step (Stp.appendP rfl rfl (Pk.next (Pk.next Pk.here)) (Src.cel (by first | rfl | (simp <;> done) | (simp <;> omega))) (by first | rfl | assumption | (simp <;> done) | (simp <;> omega)) (by first | assumption | exact oneCells1 rfl | exact oneCells1 (by assumption) | exact oneCells_bytesC _ | exact oneCells_votesC _ | (simp [oneCells, Value.oneCell'] <;> done)) (by first | omega | (simp <;> omega)) (by first | omega | (simp <;> omega)) rfl (by first | rfl | (simp <;> done)) ?_); intro na29 nc29)
    refine WpL.step (Sc (s2 _ _) rfl ?_)
    rintro _ _ ⟨rfl, rfl⟩
    refine Ll ?_
    refine WpL.step (St rfl rfl (VC.ag _) ?_)
    refine Lnt (Wp.ret ?_)
    refine Rt (ResV.cell rfl (by repeat (first | exact Lds.one rfl | (apply Lds.all; (first | rfl | assumption | (simp <;> fail))) | exact Lds.ione0 | exact Lds.ione rfl | (apply Lds.iall; (first | rfl | assumption | (simp <;> fail))) | apply Lds.next)) ResV.nil) ⟨rfl, rfl⟩
end Go.Proofs.YtomijhgicennbaaGreat
namespace Go.Proofs.YtomijhgicennbaaGreat
open Go
set_option maxHeartbeats 4000000
set_option linter.unusedSimpArgs false
set_option linter.unusedVariables false
set_option maxRecDepth 20000
abbrev rnE (n : Int) (rb sb i : Nat) : Env := [(0, vi n), (3, vp sb 0), (5, vp rb 0), (6, vi i)]
theorem key_cells {g : FH} {b o n c i : Nat} {keys : List Hash} {k : Hash} (h : RdRow g 32 (.slice (some ⟨b, o, none⟩) n c) keys.length (keys.map hc).flatten) (hk : keys[i]? = some k) : CellsAt g b (o + i * 32) (hc k) := by
  obtain ⟨hi, he⟩ := List.getElem?_eq_some_iff.1 hk
  obtain ⟨_, a, c', h2, h3⟩ := h
  simp only [Value.slice.injEq] at h2
  obtain ⟨rfl, _, _⟩ := h2
  rcases h3 with h3 | ⟨b', o', h4, h5, -⟩
  · omega
  · simp only [Option.some.injEq, Addr.mk.injEq, and_true] at h4
    obtain ⟨rfl, rfl⟩ := h4
    rw [keys_cut hk] at h5
    have h6 := CellsAt.sub h5
    rw [keysC_len, List.length_take, Nat.min_eq_left (by omega)] at h6
    exact h6
theorem rNewRing_ok (n : Int) (seed : Hash) : Trip Tryz.prog 21 [vi n, .agg (hc seed).toArray] [] (fun r l => ∃ rb, r = vp rb 0 ∧ l = [ringF rb (keysOf (min (max n 1) 10).toNat seed)]) := by
  have hz := hc_length seed
  refine Trip.of_body Tryz.func21 rfl Tryz.ntmps21 Tryz.results21 rfl ?_
  refine Wsr ?_
  (refine WpL.step (Stp.boxV rfl (VC.ag _) rfl ?_); intro nb2)
  refine Ls (Rdo.assign rfl) (Lnt (Wsr (Ls (Rdo.bld rfl (BldL.nil _)) ?_)))
  (refine WpL.step (Stp.boxV rfl (VC.ag _) rfl ?_); intro nb9)
  refine Ls (Rdo.assign rfl) (Lnt (Wp.seq (Wsr (Ls (Rdo.assign rfl) (Lnt (Wp.block ?_))))))
  refine Wp.gh (Gh.trans (Gh.front (Pk.next Pk.here)) (Gh.iceCel Pk.here)) ?_
  have hN : ∃ N : Nat, N = (min (max n 1) 10).toNat ∧ N ≤ 10 ∧ (if 10 < if 1 > n then 1 else n then 10 else if 1 > n then 1 else n) = (N : Int) := by
    refine ⟨_, rfl, by omega, ?_⟩
    split <;> split <;> omega
  obtain ⟨N, hN1, hN2, hN3⟩ := hN
  rw [← hN1]
  clear hN1
  refine Wp.loopE (fun k e h => ∃ (i : Nat) (v : Value), i + k = N ∧ e = rnE n nb9 nb2 i ∧ h = [rowA 28 32 v i ((keysOf i seed).map hc).flatten, cel nb9 109 [v], icel nb2 0 (hc seed)]) N
    (e0 := rnE n nb9 nb2 (0 : Nat)) (l0 := [rowA 28 32 (.slice none 0 0) 0 ((keysOf 0 seed).map hc).flatten, cel nb9 109 [.slice none 0 0], icel nb2 0 (hc seed)]) (by repeat (first | exact trivial | refine ⟨rfl, ?_⟩)) (by repeat (first | exact trivial | refine ⟨rfl, ?_⟩)) ?_ ⟨0, _, by omega, rfl, rfl⟩ ?_
  · exact Gh.trans (Gh.nil 28 32) Gk
  rintro k e h ⟨i, v, hik, rfl, rfl⟩
  refine Wp.get Pk.here (fun r => rowA_shape) ?_
  rintro ⟨a, c, rfl⟩
  by_cases hi : i < N
  · have hi' : (i : Int) < N := by omega
    have hlt : (i : Int) < (if 10 < if 1 > n then 1 else n then 10 else if 1 > n then 1 else n) := by omega
    have hw : [Value.int .u8 (IntKind.u8.wrap i)] = bytesC [UInt8.ofNat i] := by
      rw [wrap8]
      simp only [bytesC, List.map_cons, List.map_nil, u8c, UInt8.toNat_ofNat']
    have s1 : ∀ nb, Trip Tryz.prog 52 [.agg (hc seed).toArray, .slice (some ⟨nb, 0, none⟩) 1 1] [cel nb 5 [.int .u8 (IntKind.u8.wrap i)]] (fun r l => r = .agg (hc (dHash (seed.l ++ [UInt8.ofNat i]))).toArray ∧ l = [fz (fun g => RdBytes g (.slice (some ⟨nb, 0, none⟩) 1 1) [UInt8.ofNat i])]) := by
      intro nb
      rw [hw]
      exact Trip.gh (Gh.trans (Gh.row (n := 1) (sz := 1) Pk.here (by simp)) (Gh.ice Pk.here)) (rLink_ok seed (some ⟨nb, 0, none⟩) 1 [UInt8.ofNat i] (by simp))
    have e2 : ((keysOf (i + 1) seed).map hc).flatten = ((keysOf i seed).map hc).flatten ++ hc (dHash (seed.l ++ [UInt8.ofNat i])) := by rw [keysOf_succ]; simp
    have hz2 := hc_length (dHash (seed.l ++ [UInt8.ofNat i]))
    have hz3 : (((keysOf i seed).map hc).flatten).length = i * 32 := by rw [keysC_len, keysOf_len]
    have ho := oneCells_hc (dHash (seed.l ++ [UInt8.ofNat i]))
    generalize dHash (seed.l ++ [UInt8.ofNat i]) = H at *
    refine Wp.seq (Wsr (Ls (Rdo.move rfl) (Ls (Rdo.move rfl) (Ls (Rdo.max rfl rfl) (Ls (Rdo.min rfl rfl) (Ls (Rdo.lti rfl rfl) (Lnt (cK rfl (Wp.skip (Thn.n (Wp.seq (Wp.block ?_))))))))))))
    refine Wp.draw (by kernel_rfl) ?_
    refine Qt (i := 0) rfl (Rdo.move rfl) (Qt (i := 1) rfl (Rdo.move rfl) (Qt (i := 2) rfl (Rdo.nilCheck rfl) (Qt (i := 3) rfl (Rdo.fieldAddr0 rfl) (Qt (i := 6) rfl (Rdo.move rfl) (Qt (i := 7) rfl (Rdo.convInt rfl) ?_)))))
    refine WpR.phaseT (m := 1) #[true, true, true, true, true, true, true, true, true, true, true, true, true, true, false] 8 _ (by kernel_rfl) (Tk.cons (Pk.next Pk.here) (Tk.cons (Pk.next Pk.here) Tk.nil)) ?_
    refine At (i := 4) rfl (Rdo.load rfl (Lds.one rfl)) (At (i := 5) rfl (Rdo.load rfl (Lds.next Li)) ?_)
    (refine WpA.one (i := 8) rfl (by kernel_rfl) (Stp.sliceV rfl rfl (VCs.cons (VC.i _ _) (by first | rfl | assumption | (simp <;> done)) VCs.nil) (by simp only [List.cons_append, List.nil_append, List.append_nil]; exact rfl) rfl rfl ?_); intro nb25)
    refine WpA.one (i := 9) rfl (by kernel_rfl) (Sc (s1 _) rfl ?_)
    rintro _ _ ⟨rfl, rfl⟩
    refine WpA.lst (by simp only [List.cons_append, List.nil_append]; exact rfl) ?_
    (refine WpA.one (i := 10) rfl (by kernel_rfl) (Stp.sliceV rfl rfl (VCs.cons (VC.ag _) (by first | rfl | assumption | (simp <;> done)) VCs.nil) (by simp only [List.cons_append, List.nil_append, List.append_nil]; exact rfl) rfl rfl ?_); intro nb29)
    (refine WpA.one (i := 11) rfl (by kernel_rfl) (Stp.appendP rfl rfl (Pk.next (Pk.next Pk.here)) (Src.cel (by first | rfl | (simp <;> done) | (simp <;> omega))) (by first | rfl | assumption | (simp <;> done) | (simp <;> omega)) (by first | assumption | exact oneCells1 rfl | exact oneCells1 (by assumption) | exact oneCells_bytesC _ | exact oneCells_votesC _ | (simp [oneCells, Value.oneCell'] <;> done)) (by first | omega | (simp <;> omega)) (by first | omega | (simp <;> omega)) rfl (by first | rfl | (simp <;> done)) ?_); intro na30 nc30)
    refine At (i := 12) rfl (Rdo.nilCheck rfl) (At (i := 13) rfl (Rdo.fieldAddr0 rfl) ?_)
    refine WpA.stop (by kernel_rfl) ?_
    refine Ql ?_
    refine Qo (i := 14) rfl (Stp.storeV rfl rfl (VC.sl _ _ _) rfl (Sp (oneCells1 rfl)) ?_)
    refine WpR.done (by kernel_rfl) ?_
    refine Blk.n (Thn.n (Wp.region (Ls (Rdo.move rfl) ?_)))
    refine Ls (Rdo.succ rfl rfl (by omega)) ?_
    refine Ls (Rdo.assign rfl) (Lnt ?_)
    refine ⟨k - 1, _, _, by omega, ⟨i + 1, .slice na30 (i + 1) nc30, by omega, rfl, rfl⟩, (by repeat (first | exact trivial | refine ⟨rfl, ?_⟩)), ?_⟩
    rw [e2]
    exact Gk
  · obtain rfl : i = N := by omega
    have hlt : ¬ (i : Int) < (if 10 < if 1 > n then 1 else n then 10 else if 1 > n then 1 else n) := by omega
    refine Wp.seq (Wsr (Ls (Rdo.move rfl) (Ls (Rdo.move rfl) (Ls (Rdo.max rfl rfl) (Ls (Rdo.min rfl rfl) (Ls (Rdo.lti rfl rfl) (Lnt (cL rfl ?_))))))))
    refine Wp.exit ?_
    refine Thn.x ?_
    refine Thn.x ?_
    refine Blk.here ?_
    refine Thn.n (Wsr (Ls (Rdo.move rfl) (Ls (Rdo.assign rfl) (Lnt (Wp.ret ?_)))))
    refine Ret.now (ResV.tmp rfl ResV.nil) ?_ ⟨_, ⟨rfl, rfl⟩⟩
    have hk : (keysOf i seed).length = i := keysOf_len _ _
    refine Gh.trans (Gh.ice Pk.here) (Gh.trans (Gh.front (Pk.next Pk.here)) (Gh.trans (Gh.iceCel Pk.here) (Gh.trans (Gh.icelImp (Ψ := fun g => CellsAt g nb9 0 [.slice a i c]) Pk.here (fun g h => h)) (Gh.trans (Gh.fzAnd (CellsAt.mono _ _ _) (RdRow.mono _ _ _ _) Pk.here Pk.here) (Gh.trans (Gh.fzImp (Ψ := fun g => RdRing g nb9 (keysOf i seed)) Pk.here fun g h => ⟨_, h.1, by rw [hk]; exact h.2⟩) Gk)))))
theorem rSeal_ok (rb : Nat) (keys : List Hash) (i : Int) (a : Option Addr) (c : Nat) (p : List UInt8) (hl : p.length ≤ 1000000) (hk : keys.length ≤ 10) :
    Trip Tryz.prog 25 [vp rb 0, vi i, .slice a p.length c] [ringF rb keys, fz (fun g => RdBytes g (.slice a p.length c) p)] (fun r l => r = .agg (hc (sealH keys i p)).toArray ∧ l = [ringF rb keys]) := by
  by_cases h0 : i < 0
  · have hs : sealH keys i p = hash0 := by unfold sealH; rw [if_neg (by omega)]
    rw [hs]
    refine Trip.of_body Tryz.func25 rfl Tryz.ntmps25 Tryz.results25 rfl ?_
    refine Wsr ?_
    (refine WpL.step (Stp.alloc rfl ?_); intro nb2)
    refine Lnt (Wp.seq (Wsr (Ls (Rdo.move rfl) (Ls (Rdo.lti rfl rfl) (Ls (Rdo.move rfl) (Lg rfl rfl (Lp rfl rfl (Lp rfl rfl (Lp rfl rfl (Lp rfl rfl (Lp rfl rfl (Lp rfl rfl (Lp rfl rfl ?_)))))))))))))
    refine Ls (Rdo.pick_t rfl rfl) (Lnt ?_)
    refine Wp.condT rfl ?_
    refine Wsr (Ls (Rdo.bldArr0) ?_)
    refine WpL.step (St rfl rfl (VC.ag _) ?_)
    refine Lnt (Wp.ret ?_)
    refine Thn.r ?_
    refine Rt (ResV.cell rfl (by repeat (first | exact Lds.one rfl | (apply Lds.all; (first | rfl | assumption | (simp <;> fail))) | exact Lds.ione0 | exact Lds.ione rfl | (apply Lds.iall; (first | rfl | assumption | (simp <;> fail))) | apply Lds.next)) ResV.nil) ⟨rfl, rfl⟩
  · obtain ⟨j, rfl⟩ : ∃ j : Nat, i = j := ⟨i.toNat, by omega⟩
    refine Trip.ghE ring_open ?_
    rintro ⟨ra, rc⟩ _
    simp only
    by_cases h1 : (j : Int) ≥ keys.length
    · have hs : sealH keys j p = hash0 := by
        unfold sealH
        rw [if_pos (by omega), Int.toNat_natCast, List.getElem?_eq_none (by omega)]
      rw [hs]
      refine Trip.of_body Tryz.func25 rfl Tryz.ntmps25 Tryz.results25 rfl ?_
      refine Wsr ?_
      (refine WpL.step (Stp.alloc rfl ?_); intro nb2)
      refine Lnt (Wp.seq (Wsr (Ls (Rdo.move rfl) (Ls (Rdo.lti rfl rfl) (Ls (Rdo.move rfl) (Lw rfl rfl (Rdo.move rfl) (Lw rfl rfl (Rdo.move rfl) (Lw rfl rfl (Rdo.nilCheck rfl) (Lw rfl rfl (Rdo.fieldAddr0 rfl) ?_)))))))))
      refine Lw rfl rfl (Rdo.load rfl (Lds.next Lds.ione0)) ?_
      refine Lw rfl rfl (Rdo.lenSlice rfl) (Lw rfl rfl (Rdo.gei rfl rfl) (Ls (Rdo.pick_f rfl rfl) (Lnt (cK rfl (Wsr (Ls (Rdo.bldArr0) ?_))))))
      refine WpL.step (St rfl rfl (VC.ag _) ?_)
      refine Lnt (Wp.ret ?_)
      refine Thn.r ?_
      refine Rt (ResV.cell rfl (by repeat (first | exact Lds.one rfl | (apply Lds.all; (first | rfl | assumption | (simp <;> fail))) | exact Lds.ione0 | exact Lds.ione rfl | (apply Lds.iall; (first | rfl | assumption | (simp <;> fail))) | apply Lds.next)) ResV.nil) ⟨rfl, rfl⟩
    · obtain ⟨k, hkk⟩ : ∃ k, keys[j]? = some k := ⟨keys[j]'(by omega), List.getElem?_eq_getElem (by omega)⟩
      have hs : sealH keys j p = dMac k.l p := by
        unfold sealH
        rw [if_pos (by omega), Int.toNat_natCast, hkk]
      rw [hs]
      have hj : (j : Int) < keys.length := by omega
      refine Trip.get (Pk.next Pk.here) (row_some (by omega)) ?_
      rintro ⟨kb, ko, rfl⟩
      refine Trip.gh (Gh.fzAlso (Ψ := fun g => CellsAt g kb (ko + j * 32) (hc k)) (Pk.next Pk.here) (fun g h => key_cells h hkk)) ?_
      refine Trip.gh (Gh.toIcel Pk.here) ?_
      have s2 := fun kv => rMac_ok k a c kv p (by omega)
      have hz := hc_length (dMac k.l p)
      have hz2 := hc_length k
      have ho := oneCells_hc k
      generalize dMac k.l p = H at *
      refine Trip.of_body Tryz.func25 rfl Tryz.ntmps25 Tryz.results25 rfl ?_
      refine Wsr ?_
      (refine WpL.step (Stp.alloc rfl ?_); intro nb2)
      refine Lnt (Wp.seq (Wsr (Ls (Rdo.move rfl) (Ls (Rdo.lti rfl rfl) (Ls (Rdo.move rfl) (Lw rfl rfl (Rdo.move rfl) (Lw rfl rfl (Rdo.move rfl) (Lw rfl rfl (Rdo.nilCheck rfl) (Lw rfl rfl (Rdo.fieldAddr0 rfl) ?_)))))))))
      refine Lw rfl rfl (Rdo.load rfl (Lds.next (Lds.next (Lds.next Lds.ione0)))) ?_
      refine Lw rfl rfl (Rdo.lenSlice rfl) (Lw rfl rfl (Rdo.gei rfl rfl) (Ls (Rdo.pick_f rfl rfl) (Lnt (cL rfl (Wp.skip (Thn.n (Wsr (Ls (Rdo.move rfl) (Ls (Rdo.nilCheck rfl) (Ls (Rdo.fieldAddr0 rfl) ?_))))))))))
      refine Ls (Rdo.load rfl (Lds.next (Lds.next (Lds.next Lds.ione0)))) ?_
      refine Ls (Rdo.move rfl) ?_
      refine Ls (Rdo.indexSlice rfl rfl (by omega)) ?_
      refine Ls (Rdo.load rfl (Lds.next Li)) ?_
      (refine WpL.step (Stp.alloc rfl ?_); intro nb33)
      refine WpL.step (St rfl rfl (VC.ag _) ?_)
      refine Lnt (Wsr (Ls (Rdo.slArr rfl) (Ls (Rdo.move rfl) ?_)))
      refine WpL.step (Sc (s2 _) rfl ?_)
      rintro _ _ ⟨rfl, rfl⟩
      refine Ll ?_
      refine WpL.step (St rfl rfl (VC.ag _) ?_)
      refine Lnt (Wp.ret ?_)
      refine Rt (ResV.cell rfl (by repeat (first | exact Lds.one rfl | (apply Lds.all; (first | rfl | assumption | (simp <;> fail))) | exact Lds.ione0 | exact Lds.ione rfl | (apply Lds.iall; (first | rfl | assumption | (simp <;> fail))) | apply Lds.next)) ResV.nil) ⟨rfl, rfl⟩
end Go.Proofs.YtomijhgicennbaaGreat
namespace Go.Proofs.YtomijhgicennbaaGreat
open Go
set_option maxHeartbeats 4000000
set_option linter.unusedSimpArgs false
set_option linter.unusedVariables false
set_option maxRecDepth 20000
theorem Gh.iceB {l rest : List HP} {t : TypeId} {v : Value} {n : Nat} {bs : List UInt8} (hp : Pk l (rowA t 1 v n (bytesC bs)) rest) (hn : n = bs.length) : Gh l (fz (fun g => RdBytes g v bs) :: rest) := by
  subst hn
  exact Gh.ice hp
theorem rBody_ok (m : Msg) (x : PX) (hv : m.value.length ≤ 100000) (hn : m.votes.length ≤ 1000) :
    Trip Tryz.prog 26 [.agg (msgCs m x).toArray] [bsF x.1 m.value, vsF x.2 m.votes]
      (fun r l => ∃ a c, r = .slice a (msgBody m).length c ∧ l = [bsF (a, c) (msgBody m), bsF x.1 m.value, vsF x.2 m.votes]) := by
  obtain ⟨⟨x1, x2⟩, ⟨x3, x4⟩⟩ := x
  have n1 : ∀ nb, Trip Tryz.prog 60 [.slice (some ⟨nb, 0, none⟩) 5 5] [cel nb 3 [vi 4, vi m.kind, vi m.from_, vi m.slot, vi m.view]] _ := fun nb => numsAny_ok nb [4, m.kind, m.from_, m.slot, m.view] (by simp)
  have n2 := rBytes_ok x1 x2 m.value (by omega)
  have n3 := rVotes_ok (.slice x3 m.votes.length x4) m.votes (by omega)
  have k1 := numsB_len [4, m.kind, m.from_, m.slot, m.view]
  simp only [List.length_cons, List.length_nil] at k1
  have k2 : (rowB m.value).length ≤ 9 + m.value.length := by
    have := numB_len 8 m.value.length (by omega)
    simp only [rowB, List.length_append]
    omega
  have k3 : (votesB m.votes).length ≤ 9 + 100 * m.votes.length := by
    have h1 := numB_len 8 m.votes.length (by omega)
    have h2 := votesAll_len m.votes
    simp only [votesB, List.length_append]
    omega
  have e0 : msgBody m = numsB [4, m.kind, m.from_, m.slot, m.view] ++ rowB m.value ++ votesB m.votes := rfl
  generalize numsB [4, m.kind, m.from_, m.slot, m.view] = N at *
  generalize rowB m.value = R at *
  generalize votesB m.votes = V at *
  rw [e0]
  have e1 : (N ++ R ++ V).length = N.length + R.length + V.length := by simp; omega
  have e2 : bytesC N ++ bytesC R ++ bytesC V = bytesC (N ++ R ++ V) := by simp [bytesC]
  simp only [bsF, vsF] at *
  rw [e1]
  refine Trip.of_body Tryz.func26 rfl Tryz.ntmps26 Tryz.results26 rfl ?_
  refine Wsr ?_
  (refine WpL.step (Stp.boxV rfl (VC.ag _) rfl ?_); intro nb2)
  refine Ls (Rdo.assign rfl) (Lnt (Wsr (Ls (Rdo.fieldAddr0 rfl) (Ls (Rdo.load rfl (Lds.one rfl)) (Ls (Rdo.fieldAddr0 rfl) (Ls (Rdo.load rfl (Lds.one rfl)) (Ls (Rdo.fieldAddr0 rfl) (Ls (Rdo.load rfl (Lds.one rfl)) (Ls (Rdo.fieldAddr0 rfl) (Ls (Rdo.load rfl (Lds.one rfl)) ?_))))))))))
  (refine WpL.step (Stp.sliceV rfl rfl (VCs.cons (VC.i _ _) (by first | rfl | assumption | (simp <;> done)) (VCs.cons (VC.i _ _) (by first | rfl | assumption | (simp <;> done)) (VCs.cons (VC.i _ _) (by first | rfl | assumption | (simp <;> done)) (VCs.cons (VC.i _ _) (by first | rfl | assumption | (simp <;> done)) (VCs.cons (VC.i _ _) (by first | rfl | assumption | (simp <;> done)) VCs.nil))))) (by simp only [List.cons_append, List.nil_append, List.append_nil]; exact rfl) rfl rfl ?_); intro nb16)
  refine WpL.step (Sc (n1 _) rfl ?_)
  rintro _ _ ⟨v18_0, ⟨v18_1, ⟨rfl, rfl⟩⟩⟩
  refine Ll ?_
  refine Ls (Rdo.assign rfl) (Lnt (Wp.seq ?_))
  refine Wp.draw (by kernel_rfl) ?_
  refine Qt (i := 0) rfl (Rdo.move rfl) (Qt (i := 1) rfl (Rdo.fieldAddr0 rfl) (Qt (i := 5) rfl (Rdo.fieldAddr0 rfl) ?_))
  refine WpR.load (i := 2) [6] rfl (by kernel_rfl) (by kernel_rfl) (by kernel_rfl) (by kernel_rfl) (by kernel_rfl) rfl Tk.rfl_ (Harm.rd rfl (Rdo.load rfl (Lds.next (Lds.one rfl))) Harm.nil) (Rdo.load rfl (Lds.next (Lds.one rfl))) rfl ?_
  refine WpR.phaseL (m := 0) #[true, true, true, true, true, true, true, true, true, true] 6 _ rfl (by kernel_rfl) (Tk.cons (Pk.next Pk.here) Tk.nil) ?_
  refine At (i := 6) rfl (Rdo.load rfl (Lds.one rfl)) ?_
  refine WpA.one (i := 3) rfl (by kernel_rfl) (Sc (n2) rfl ?_)
  rintro _ _ ⟨v32_0, ⟨v32_1, ⟨rfl, rfl⟩⟩⟩
  refine WpA.lst (by simp only [List.cons_append, List.nil_append]; exact rfl) ?_
  (refine WpA.one (i := 4) rfl (by kernel_rfl) (Stp.appendP rfl rfl (Pk.next (Pk.next Pk.here)) Src.row (by first | rfl | assumption | (simp <;> done) | (simp <;> omega)) (by first | assumption | exact oneCells1 rfl | exact oneCells1 (by assumption) | exact oneCells_bytesC _ | exact oneCells_votesC _ | (simp [oneCells, Value.oneCell'] <;> done)) (by first | omega | (simp <;> omega)) (by first | omega | (simp <;> omega)) rfl (by first | rfl | (simp <;> done)) ?_); intro na34 nc34)
  refine WpA.one (i := 7) rfl (by kernel_rfl) (Sc (n3) rfl ?_)
  rintro _ _ ⟨v36_0, ⟨v36_1, ⟨rfl, rfl⟩⟩⟩
  refine WpA.lst (by simp only [List.cons_append, List.nil_append]; exact rfl) ?_
  (refine WpA.one (i := 8) rfl (by kernel_rfl) (Stp.appendP rfl rfl (Pk.next (Pk.next Pk.here)) Src.row (by first | rfl | assumption | (simp <;> done) | (simp <;> omega)) (by first | assumption | exact oneCells1 rfl | exact oneCells1 (by assumption) | exact oneCells_bytesC _ | exact oneCells_votesC _ | (simp [oneCells, Value.oneCell'] <;> done)) (by first | omega | (simp <;> omega)) (by first | omega | (simp <;> omega)) rfl (by first | rfl | (simp <;> done)) ?_); intro na38 nc38)
  refine At (i := 9) rfl (Rdo.assign rfl) ?_
  refine WpA.stop (by kernel_rfl) ?_
  refine Ql ?_
  refine WpR.done (by kernel_rfl) ?_
  refine Thn.n (Wp.ret ?_)
  rw [e2]
  refine Ret.now (ResV.tmp rfl ResV.nil) ?_ ⟨_, ⟨_, ⟨rfl, rfl⟩⟩⟩
  exact Gh.trans (Gh.iceB (bs := N ++ R ++ V) (by repeat (first | exact Pk.here | apply Pk.next)) e1.symm) Gk
theorem rVoteBody_ok (v : Vote) : Trip Tryz.prog 73 [.agg (voteC v).toArray] [] (fun r l => ∃ a c, r = .slice a (voteBody v).length c ∧ l = [fz (fun g => RdBytes g (.slice a (voteBody v).length c) (voteBody v))]) := by
  have h35 := voteC_from v
  have hz := hc_length v.sum
  have n1 : ∀ nb, Trip Tryz.prog 60 [.slice (some ⟨nb, 0, none⟩) 4 4] [cel nb 3 [vi 5, vi v.kind, vi v.slot, vi v.view]] _ := fun nb => numsAny_ok nb [5, v.kind, v.slot, v.view] (by simp)
  have n2 := numAny_ok v.from_
  have k1 := numsB_len [5, v.kind, v.slot, v.view]
  have k2 := numB_clamp_len v.from_
  simp only [List.length_cons, List.length_nil] at k1
  have e1 : (voteBody v).length = (numsB [5, v.kind, v.slot, v.view]).length + 32 + (numB (clampN v.from_)).length := by
    simp [voteBody, numsB, v.sum.h]
    omega
  have e2 : bytesC (numsB [5, v.kind, v.slot, v.view]) ++ hc v.sum ++ bytesC (numB (clampN v.from_)) = bytesC (voteBody v) := by simp [voteBody, numsB, bytesC, hc]
  rw [e1]
  generalize voteBody v = B at *
  generalize numsB [5, v.kind, v.slot, v.view] = N at *
  generalize numB (clampN v.from_) = M at *
  refine Trip.of_body Tryz.func73 rfl Tryz.ntmps73 Tryz.results73 rfl ?_
  refine Wsr ?_
  (refine WpL.step (Stp.boxV rfl (VC.ag _) rfl ?_); intro nb2)
  refine Ls (Rdo.assign rfl) (Lnt (Wp.seq ?_))
  refine Wp.draw (by kernel_rfl) ?_
  refine Qt (i := 0) rfl (Rdo.fieldAddr0 rfl) (Qt (i := 2) rfl (Rdo.fieldAddr0 rfl) (Qt (i := 4) rfl (Rdo.fieldAddr0 rfl) (Qt (i := 8) rfl (Rdo.fieldAddr0 rfl) (Qt (i := 9) rfl (Rdo.slArr rfl) ?_))))
  refine WpR.load (i := 1) [3, 5] rfl (by kernel_rfl) (by kernel_rfl) (by kernel_rfl) (by kernel_rfl) (by kernel_rfl) rfl Tk.rfl_ (Harm.rd rfl (Rdo.load rfl (Lds.one rfl)) (Harm.rd rfl (Rdo.load rfl (Lds.one rfl)) Harm.nil)) (Rdo.load rfl (Lds.one rfl)) rfl ?_
  refine WpR.load (i := 3) [5] rfl (by kernel_rfl) (by kernel_rfl) (by kernel_rfl) (by kernel_rfl) (by kernel_rfl) rfl Tk.rfl_ (Harm.rd rfl (Rdo.load rfl (Lds.one rfl)) Harm.nil) (Rdo.load rfl (Lds.one rfl)) rfl ?_
  refine Qo (i := 5) rfl (Stp.rd (Rdo.load rfl (Lds.one rfl)) rfl ?_)
  (refine Qo (i := 6) rfl (Stp.sliceV rfl rfl (VCs.cons (VC.i _ _) (by first | rfl | assumption | (simp <;> done)) (VCs.cons (VC.i _ _) (by first | rfl | assumption | (simp <;> done)) (VCs.cons (VC.i _ _) (by first | rfl | assumption | (simp <;> done)) (VCs.cons (VC.i _ _) (by first | rfl | assumption | (simp <;> done)) VCs.nil)))) (by simp only [List.cons_append, List.nil_append, List.append_nil]; exact rfl) rfl rfl ?_); intro nb16)
  refine Qo (i := 7) rfl (Sc (n1 _) rfl ?_)
  rintro _ _ ⟨v18_0, ⟨v18_1, ⟨rfl, rfl⟩⟩⟩
  refine Ql ?_
  (refine Qo (i := 10) rfl (Stp.appendP rfl rfl Pk.here Src.vsum (by first | rfl | assumption | (simp <;> done) | (simp <;> omega)) (by first | assumption | exact oneCells1 rfl | exact oneCells1 (by assumption) | exact oneCells_bytesC _ | exact oneCells_votesC _ | (simp [oneCells, Value.oneCell'] <;> done)) (by first | omega | (simp <;> omega)) (by first | omega | (simp <;> omega)) rfl (by first | rfl | (simp <;> done)) ?_); intro na20 nc20)
  refine Qt (i := 11) rfl (Rdo.assign rfl) ?_
  refine WpR.done (by kernel_rfl) ?_
  refine Thn.n (Wsr (Ls (Rdo.move rfl) (Ls (Rdo.fieldAddr0 rfl) ?_)))
  refine Ls (Rdo.load rfl (Lds.next (Lds.one (by assumption)))) ?_
  refine WpL.step (Sc (n2) rfl ?_)
  rintro _ _ ⟨v30_0, ⟨v30_1, ⟨rfl, rfl⟩⟩⟩
  refine Ll ?_
  (refine WpL.step (Stp.appendP rfl rfl (Pk.next Pk.here) Src.row (by first | rfl | assumption | (simp <;> done) | (simp <;> omega)) (by first | assumption | exact oneCells1 rfl | exact oneCells1 (by assumption) | exact oneCells_bytesC _ | exact oneCells_votesC _ | (simp [oneCells, Value.oneCell'] <;> done)) (by first | omega | (simp <;> omega)) (by first | omega | (simp <;> omega)) rfl (by first | rfl | (simp <;> done)) ?_); intro na32 nc32)
  refine Ls (Rdo.assign rfl) (Lnt (Wp.ret ?_))
  rw [e2]
  refine Ret.now (ResV.tmp rfl ResV.nil) ?_ ⟨_, ⟨_, ⟨rfl, rfl⟩⟩⟩
  exact Gh.trans (Gh.iceB (bs := B) (by repeat (first | exact Pk.here | apply Pk.next)) e1.symm) Gk
theorem rCast_ok (rb : Nat) (keys : List Hash) (kind slot view : Int) (sum : Hash) (from_ : Int) (hk : keys.length ≤ 10) :
    Trip Tryz.prog 35 [vp rb 0, vi kind, vi slot, vi view, .agg (hc sum).toArray, vi from_] [ringF rb keys] (fun r l => r = .agg (voteC (castV keys kind slot view sum from_)).toArray ∧ l = [ringF rb keys]) := by
  have s1 : Trip Tryz.prog 73 [.agg ([vi kind, vi slot, vi view] ++ (hc sum ++ (vi from_ :: List.replicate 32 (.int .u8 0)))).toArray] [] _ := rVoteBody_ok ⟨kind, slot, view, sum, from_, hash0⟩
  have s2 := fun a c => rSeal_ok rb keys from_ a c (voteBody ⟨kind, slot, view, sum, from_, hash0⟩) (by have := voteBody_len ⟨kind, slot, view, sum, from_, hash0⟩; omega) hk
  have hz := hc_length sum
  have hz2 := hc_length (sealH keys from_ (voteBody ⟨kind, slot, view, sum, from_, hash0⟩))
  unfold castV
  simp only [voteC]
  generalize sealH keys from_ (voteBody ⟨kind, slot, view, sum, from_, hash0⟩) = H at *
  refine Trip.of_body Tryz.func35 rfl Tryz.ntmps35 Tryz.results35 rfl ?_
  refine Wsr ?_
  (refine WpL.step (Stp.boxV rfl (VC.ag _) rfl ?_); intro nb2)
  (refine WpL.step (Stp.alloc rfl ?_); intro nb3)
  refine Lnt (Wsr (Ls (Rdo.move rfl) (Ls (Rdo.move rfl) (Ls (Rdo.move rfl) ?_))))
  refine Ls (Rdo.load rfl (Lds.next Ld)) ?_
  refine Ls (Rdo.move rfl) ?_
  refine Ls (Rdo.bld rfl (BldL.cons rfl (VC.i _ _) (by first | rfl | assumption | (simp <;> done)) (by repeat (first | exact LPut.nil _ | (refine LPut.seg ?_; first | assumption | (simp <;> done)) | (refine LPut.segEnd ?_; first | assumption | (simp <;> done)) | (with_reducible apply LPut.here) | apply LPut.hereL | apply LPut.here | (apply LPut.over32; focus (first | assumption | (simp <;> done))) | (with_reducible apply LPut.next) | apply LPut.nextL | apply LPut.next)) (BldL.cons rfl (VC.i _ _) (by first | rfl | assumption | (simp <;> done)) (by repeat (first | exact LPut.nil _ | (refine LPut.seg ?_; first | assumption | (simp <;> done)) | (refine LPut.segEnd ?_; first | assumption | (simp <;> done)) | (with_reducible apply LPut.here) | apply LPut.hereL | apply LPut.here | (apply LPut.over32; focus (first | assumption | (simp <;> done))) | (with_reducible apply LPut.next) | apply LPut.nextL | apply LPut.next)) (BldL.cons rfl (VC.i _ _) (by first | rfl | assumption | (simp <;> done)) (by repeat (first | exact LPut.nil _ | (refine LPut.seg ?_; first | assumption | (simp <;> done)) | (refine LPut.segEnd ?_; first | assumption | (simp <;> done)) | (with_reducible apply LPut.here) | apply LPut.hereL | apply LPut.here | (apply LPut.over32; focus (first | assumption | (simp <;> done))) | (with_reducible apply LPut.next) | apply LPut.nextL | apply LPut.next)) (BldL.cons rfl (VC.ag _) (by first | rfl | assumption | (simp <;> done)) (by repeat (first | exact LPut.nil _ | (refine LPut.seg ?_; first | assumption | (simp <;> done)) | (refine LPut.segEnd ?_; first | assumption | (simp <;> done)) | (with_reducible apply LPut.here) | apply LPut.hereL | apply LPut.here | (apply LPut.over32; focus (first | assumption | (simp <;> done))) | (with_reducible apply LPut.next) | apply LPut.nextL | apply LPut.next)) (BldL.cons rfl (VC.i _ _) (by first | rfl | assumption | (simp <;> done)) (by repeat (first | exact LPut.nil _ | (refine LPut.seg ?_; first | assumption | (simp <;> done)) | (refine LPut.segEnd ?_; first | assumption | (simp <;> done)) | (with_reducible apply LPut.here) | apply LPut.hereL | apply LPut.here | (apply LPut.over32; focus (first | assumption | (simp <;> done))) | (with_reducible apply LPut.next) | apply LPut.nextL | apply LPut.next)) (BldL.nil _))))))) ?_
  (refine WpL.step (Stp.alloc rfl ?_); intro nb14)
  refine WpL.step (St rfl rfl (VC.ag _) ?_)
  refine Lnt (Wsr (Ls (Rdo.move rfl) (Ls (Rdo.move rfl) ?_)))
  refine Ls (Rdo.load rfl Ld) ?_
  refine WpL.step (Sc (s1) rfl ?_)
  rintro _ _ ⟨v24_0, ⟨v24_1, ⟨rfl, rfl⟩⟩⟩
  refine Ll ?_
  refine WpL.step (Sc (s2 _ _) rfl ?_)
  rintro _ _ ⟨rfl, rfl⟩
  refine Ll ?_
  refine Ls (Rdo.fieldAddr0 rfl) ?_
  refine WpL.step (St rfl rfl (VC.ag _) ?_)
  refine Lnt (Wsr ?_)
  refine Ls (Rdo.load rfl (Lds.next Ld)) ?_
  refine WpL.step (St rfl rfl (VC.ag _) ?_)
  refine Lnt (Wp.ret ?_)
  refine Rt (ResV.cell rfl (by repeat (first | exact Lds.one rfl | (apply Lds.all; (first | rfl | assumption | (simp <;> fail))) | exact Lds.ione0 | exact Lds.ione rfl | (apply Lds.iall; (first | rfl | assumption | (simp <;> fail))) | apply Lds.next)) ResV.nil) ⟨rfl, rfl⟩
theorem rValueSum_ok (v : Value) (bs : List UInt8) (hl : bs.length ≤ 1000000000) :
    Trip Tryz.prog 24 [v] [fz (fun g => RdBytes g v bs)] (fun r l => r = .agg (hc (dHash bs)).toArray ∧ l = [fz (fun g => RdBytes g v bs)]) := by
  have s1 := rSumH_ok v bs hl
  have hz := hc_length (dHash bs)
  generalize dHash bs = H at *
  refine Trip.of_body Tryz.func24 rfl Tryz.ntmps24 Tryz.results24 rfl ?_
  refine Wsr ?_
  (refine WpL.step (Stp.alloc rfl ?_); intro nb2)
  refine Lnt (Wsr (Ls (Rdo.move rfl) ?_))
  refine WpL.step (Sc (s1) rfl ?_)
  rintro _ _ ⟨rfl, rfl⟩
  refine Ll ?_
  refine WpL.step (St rfl rfl (VC.ag _) ?_)
  refine Lnt (Wp.ret ?_)
  refine Rt (ResV.cell rfl (by repeat (first | exact Lds.one rfl | (apply Lds.all; (first | rfl | assumption | (simp <;> fail))) | exact Lds.ione0 | exact Lds.ione rfl | (apply Lds.iall; (first | rfl | assumption | (simp <;> fail))) | apply Lds.next)) ResV.nil) ⟨rfl, rfl⟩
/-- A message that is sealed by whom it says. -/
def tagM (keys : List Hash) (m : Msg) : Msg := { m with tag := sealH keys m.from_ (msgBody m) }
theorem lawSealed_ok (rb : Nat) (keys : List Hash) (m : Msg) (x : PX) (hk : keys.length ≤ 10) (hv : m.value.length ≤ 100000) (hn : m.votes.length ≤ 1000) :
    Trip Tryz.prog 23 [vp rb 0, .agg (msgCs m x).toArray] [ringF rb keys, bsF x.1 m.value, vsF x.2 m.votes]
      (fun r l => r = .agg (msgCs (tagM keys m) x).toArray ∧ l = [ringF rb keys, bsF x.1 m.value, vsF x.2 m.votes]) := by
  obtain ⟨⟨x1, x2⟩, ⟨x3, x4⟩⟩ := x
  have s1 := rBody_ok m ((x1, x2), (x3, x4)) hv hn
  have s2 := fun a c => rSeal_ok rb keys m.from_ a c (msgBody m) (msgBody_len m hv hn) hk
  have hz := hc_length m.tag
  have hz2 := hc_length (sealH keys m.from_ (msgBody m))
  unfold tagM
  generalize sealH keys m.from_ (msgBody m) = H at *
  simp only [bsF, vsF] at *
  refine Trip.of_body Tryz.func23 rfl Tryz.ntmps23 Tryz.results23 rfl ?_
  refine Wsr ?_
  (refine WpL.step (Stp.boxV rfl (VC.ag _) rfl ?_); intro nb2)
  (refine WpL.step (Stp.alloc rfl ?_); intro nb3)
  refine Lnt (Wp.seq ?_)
  refine Wp.draw (by kernel_rfl) ?_
  refine Qt (i := 0) rfl (Rdo.move rfl) (Qt (i := 1) rfl (Rdo.fieldAddr0 rfl) ?_)
  refine WpR.load (i := 3) [2] rfl (by kernel_rfl) (by kernel_rfl) (by kernel_rfl) (by kernel_rfl) (by kernel_rfl) rfl Tk.rfl_ (Harm.rd rfl (Rdo.load rfl (Lds.next (Lds.one rfl))) Harm.nil) (Rdo.load rfl (Lds.next Ld)) rfl ?_
  refine WpR.phaseL (m := 1) #[true, true, true, true, true, true, true, false] 4 _ rfl (by kernel_rfl) (Tk.cons (Pk.next Pk.here) Tk.nil) ?_
  refine At (i := 2) rfl (Rdo.load rfl (Lds.one rfl)) ?_
  refine WpA.one (i := 4) rfl (by kernel_rfl) (Sc (s1) rfl ?_)
  rintro _ _ ⟨v14_0, ⟨v14_1, ⟨rfl, rfl⟩⟩⟩
  refine WpA.lst (by simp only [List.cons_append, List.nil_append]; exact rfl) ?_
  refine WpA.one (i := 5) rfl (by kernel_rfl) (Sc (s2 _ _) rfl ?_)
  rintro _ _ ⟨rfl, rfl⟩
  refine WpA.lst (by simp only [List.cons_append, List.nil_append]; exact rfl) ?_
  refine At (i := 6) rfl (Rdo.fieldAddr0 rfl) ?_
  refine WpA.stop (by kernel_rfl) ?_
  refine Ql ?_
  refine Qo (i := 7) rfl (St rfl rfl (VC.ag _) ?_)
  refine WpR.done (by kernel_rfl) ?_
  refine Thn.n (Wsr ?_)
  refine Ls (Rdo.load rfl Ld) ?_
  refine WpL.step (St rfl rfl (VC.ag _) ?_)
  refine Lnt (Wp.ret ?_)
  refine Rt (ResV.cell rfl (by repeat (first | exact Lds.one rfl | (apply Lds.all; (first | rfl | assumption | (simp <;> fail))) | exact Lds.ione0 | exact Lds.ione rfl | (apply Lds.iall; (first | rfl | assumption | (simp <;> fail))) | apply Lds.next)) ResV.nil) ⟨rfl, rfl⟩
end Go.Proofs.YtomijhgicennbaaGreat
namespace Go.Proofs.YtomijhgicennbaaGreat
open Go
set_option maxHeartbeats 4000000
set_option linter.unusedSimpArgs false
set_option linter.unusedVariables false
set_option maxRecDepth 20000
theorem Take_ok (b : Nat) (x : RouS) (m : RouM) (N : Nat) (ho : RouOK x N) (hN : N ≤ 80000) (y : PX) (M : Msg) (hn : M.votes.length ≤ 100000) :
    Trip Tryz.prog 22 [vp b 0, .agg (msgCs M y).toArray] (rouL b x m ++ [msF y M]) (fun r l => ∃ (m' : RouM) (q : Option Addr × Nat), r = .slice q.1 (x.Take M).1.length q.2 ∧ l = rouL b (x.Take M).2 m' ++ [mrF q (x.Take M).1]) := by
  by_cases h : x.decided = true ∨ x.mine M = false
  · exact Take_no b x m N ho y M hn h
  · exact Take_yes b x m N ho hN y M hn (by simp at h; exact h.1) (by simp at h; exact h.2)
theorem keys4 (n : UInt8) : (keysOf (min (max (4 : Int) 1) 10).toNat (h1 n)).length = 4 := by rw [keysOf_len]; rfl
/-- The same, of a message's parts, which stay. -/
theorem TakeP_ok (b : Nat) (x : RouS) (m : RouM) (N : Nat) (ho : RouOK x N) (hN : N ≤ 80000) (y : PX) (M : Msg) (hn : M.votes.length ≤ 100000) :
    Trip Tryz.prog 22 [vp b 0, .agg (msgCs M y).toArray] (rouL b x m ++ [bsF y.1 M.value, vsF y.2 M.votes]) (fun r l => ∃ (m' : RouM) (q : Option Addr × Nat), r = .slice q.1 (x.Take M).1.length q.2 ∧ l = rouL b (x.Take M).2 m' ++ [mrF q (x.Take M).1, bsF y.1 M.value, vsF y.2 M.votes]) := by
  have h := Take_ok b x m N ho hN y M hn
  simp only [rouL, List.cons_append, List.nil_append] at h ⊢
  refine Trip.gh (ms_makeK (x := y) (m := M) (by repeat (first | exact Pk.here | apply Pk.next)) (by repeat (first | exact Pk.here | apply Pk.next))) (Trip.via h (rest := [bsF y.1 M.value, vsF y.2 M.votes]) (by repeat (first | exact Tk.nil | apply Tk.cons (by repeat (first | exact Pk.here | apply Pk.next)))) ?_)
  rintro r l ⟨m', q, rfl, rfl⟩
  exact ⟨_, ⟨m', q, rfl, rfl⟩, Gk⟩
theorem Take_OK {x : RouS} {N : Nat} {M : Msg} (h : RouOK x N) : RouOK (x.Take M).2 (N + 6) := by
  unfold RouS.Take
  split
  · exact h.le (by omega)
  · rename_i hn
    have hm : x.mine M = true := by simp at hn; exact hn.2
    exact (steps_OK 5 (heard_OK h (mine_msg hm).1)).1
end Go.Proofs.YtomijhgicennbaaGreat
namespace Go.Proofs.YtomijhgicennbaaGreat
open Go
set_option maxHeartbeats 4000000
set_option linter.unusedSimpArgs false
set_option linter.unusedVariables false
set_option maxRecDepth 20000
theorem quorum4 : quorum 4 = 3 := by decide
end Go.Proofs.YtomijhgicennbaaGreat
namespace Go.Proofs.YtomijhgicennbaaGreat
open Go
set_option maxHeartbeats 4000000
set_option linter.unusedSimpArgs false
set_option linter.unusedVariables false
set_option maxRecDepth 20000
theorem sealOk_self (keys : List Hash) (i : Int) (h : 0 ≤ i ∧ i < keys.length) (p : List UInt8) : sealOk keys i p (sealH keys i p) = true := by unfold sealOk; simp [h.1, h.2]
end Go.Proofs.YtomijhgicennbaaGreat
namespace Go.Proofs.YtomijhgicennbaaGreat
open Go
set_option maxHeartbeats 4000000
set_option linter.unusedSimpArgs false
set_option linter.unusedVariables false
set_option maxRecDepth 20000
theorem Tick_ok (b : Nat) (x : RouS) (m : RouM) (N : Nat) (ho : RouOK x N) (hN : N ≤ 90000) :
    Trip Tryz.prog 19 [vp b 0] (rouL b x m) (fun r l => ∃ (m' : RouM) (q : Option Addr × Nat), r = .slice q.1 (x.Tick).1.length q.2 ∧ l = rouL b (x.Tick).2 m' ++ [mrF q (x.Tick).1]) := by
  by_cases h : x.decided = true ∨ 8 ≤ x.view
  · exact Tick_no b x m h
  · have hd : x.decided = false := by cases hh : x.decided with
      | true => exact absurd (.inl hh) h
      | false => rfl
    have hv : ¬ 8 ≤ x.view := fun hh => h (.inr hh)
    by_cases hl : leader x.slot x.ticked.view x.keys.length = x.me
    · exact Tick_me b x m N ho hN hd hv hl
    · exact Tick_other b x m N ho hN hd hv hl
theorem Tick_OK {x : RouS} {N : Nat} (h : RouOK x N) : RouOK (x.Tick).2 (N + 5) ∧ (x.Tick).1.length ≤ 51 := by
  unfold RouS.Tick
  split
  · exact ⟨h.le (by omega), by simp⟩
  · rename_i hc
    have hv : ¬ 8 ≤ x.view := fun hh => hc (.inr hh)
    split
    · have h1 : RouOK (x.ticked.status (x.ticked.sealed (statM x.ticked) x.me)) N := status_OK (ticked_OK h hv) h.lock h.me
      have := steps_OK 5 h1
      exact ⟨this.1, by have := this.2; omega⟩
    · have := steps_OK 5 (ticked_OK h hv)
      exact ⟨this.1, by simp only [List.length_cons]; have := this.2; omega⟩
structure TI (x : RouS) (me slot i : Int) : Prop where
  keys : x.keys.length = 4
  me_ : x.me = me
  slot_ : x.slot = slot
  view_ : x.view = i
  comm : x.comm = []
  props : x.props = []
  vals : x.values = []
  dec : x.decided = false
  stats : ∀ w, x.view < w → alook x.stats w = none
theorem TI_new (keys : List Hash) (hk : keys.length = 4) (me slot : Int) : TI (RouS.new keys me slot) me slot 0 := ⟨hk, rfl, rfl, rfl, rfl, rfl, rfl, rfl, fun w _ => rfl⟩
theorem leader4i (slot i : Int) (h : 0 ≤ slot) (hi : 0 ≤ i) : leader slot i 4 = (slot + i) % 4 := by
  unfold leader
  rw [if_neg (by omega)]
  show (slot % 4 + i % 4) % 4 = (slot + i) % 4
  omega
theorem tick_8 {x : RouS} {me slot : Int} (h : TI x me slot 8) : x.Tick = ([], x) := by
  unfold RouS.Tick
  rw [if_pos (.inr (by rw [h.view_]; exact Int.le_refl _))]
theorem tick_lt {x : RouS} {me slot i : Int} (h : TI x me slot i) (hs : 0 ≤ slot) (hi : 0 ≤ i) (h8 : i < 8) :
    TI (x.Tick).2 me slot (i + 1) ∧ ((slot + (i + 1)) % 4 = me → (x.Tick).1 = []) ∧ (¬ (slot + (i + 1)) % 4 = me → ∃ M, (x.Tick).1 = [M] ∧ M.to = (slot + (i + 1)) % 4 ∧ M.kind = 4 ∧ M.view = i + 1) := by
  obtain ⟨k1, k2, k3, k4, k5, k6, k7, k8, k9⟩ := h
  have hlead : leader x.slot x.ticked.view x.keys.length = (slot + (i + 1)) % 4 := by
    show leader x.slot (x.view + 1) x.keys.length = _
    rw [k1, k3, k4]
    exact leader4i slot (i + 1) hs (by omega)
  have hsc : ∀ y : RouS, y.comm = [] → y.settles = none := fun y hy => by simp [RouS.settles, hy, sortT]
  have hpr : ∀ y : RouS, y.props = [] → y.prepares = none := fun y hy => by unfold RouS.prepares; rw [hy]; rfl
  have hco : ∀ y : RouS, y.values = [] → y.commits = none := fun y hy => by unfold RouS.commits RouS.enough; rw [hy]; simp
  unfold RouS.Tick
  rw [if_neg (by rw [k8, k4]; simp; omega), hlead, k2]
  by_cases hl : (slot + (i + 1)) % 4 = me
  · rw [if_pos hl]
    obtain ⟨M, hM⟩ : ∃ M, M = x.ticked.sealed (statM x.ticked) me := ⟨_, rfl⟩
    rw [← hM]
    have hMv : M.view = x.view + 1 := by rw [hM]; rfl
    have hlz : RouS.leads x.ticked x.ticked.me M.view = true := by
      unfold RouS.leads
      rw [hMv, decide_eq_true_eq]
      exact (by rw [k2]; exact hl.symm : x.me = (slot + (i + 1)) % 4).trans hlead.symm
    obtain ⟨z, hz⟩ : ∃ z, z = { x.ticked with stats := aset x.stats (x.view + 1) [(M.from_, M)] } := ⟨_, rfl⟩
    have hst : x.ticked.status M = z := by
      unfold RouS.status
      rw [if_neg (by rw [hlz]; simp), hz, hMv]
      have : alook x.ticked.stats (x.view + 1) = none := k9 _ (by omega)
      simp only [this, Option.getD_none]
      rfl
    rw [hst]
    have hstep : z.step = none := by
      have a1 := hsc z (by rw [hz]; exact k5)
      have a2 := hpr z (by rw [hz]; exact k6)
      have a3 := hco z (by rw [hz]; exact k7)
      have a4 : z.proposes = none := by
        unfold RouS.proposes
        split
        · rfl
        · have hch : z.chosen = none := by
            unfold RouS.chosen
            have hzv : z.view = x.view + 1 := by rw [hz]
            have hzs : alook z.stats z.view = some [(M.from_, M)] := by rw [hzv, hz]; simp [alook_aset]
            rw [if_pos ⟨by rw [hzv, k4]; omega, .inr (.inr (by
              rw [hzs, show z.keys.length = 4 by rw [hz]; exact k1, quorum4]
              simp))⟩]
          rw [hch]
      unfold RouS.step
      rw [a1, a2, a3, a4]
      rfl
    rw [steps_none _ hstep]
    refine ⟨⟨by rw [hz]; exact k1, by rw [hz]; exact k2, by rw [hz]; exact k3, by rw [hz]; show x.view + 1 = _; rw [k4], by rw [hz]; exact k5, by rw [hz]; exact k6, by rw [hz]; exact k7, by rw [hz]; exact k8, fun w hw => ?_⟩, fun _ => rfl, fun hc => absurd hl hc⟩
    have hw' : x.view + 1 < w := by rw [hz] at hw; exact hw
    rw [hz]
    show alook (aset x.stats (x.view + 1) _) w = none
    rw [alook_aset, if_neg (by omega)]
    exact k9 w (by omega)
  · rw [if_neg hl]
    have hstep : x.ticked.step = none := by
      have a1 := hsc x.ticked k5
      have a2 := hpr x.ticked k6
      have a3 := hco x.ticked k7
      have a4 : x.ticked.proposes = none := by
        unfold RouS.proposes
        rw [if_pos (.inl (by
          unfold RouS.leads
          rw [decide_eq_false_iff_not]
          intro hh
          apply hl
          rw [← hlead]
          exact (hh.symm.trans k2)))]
      unfold RouS.step
      rw [a1, a2, a3, a4]
      rfl
    rw [steps_none _ hstep]
    refine ⟨⟨k1, k2, k3, by show x.view + 1 = _; rw [k4], k5, k6, k7, k8, fun w hw => k9 w (by have : x.view + 1 < w := hw; omega)⟩, fun hc => absurd hc hl, fun _ => ⟨_, rfl, rfl, rfl, ?_⟩⟩
    show x.view + 1 = i + 1
    rw [k4]
end Go.Proofs.YtomijhgicennbaaGreat
namespace Go.Proofs.YtomijhgicennbaaGreat
open Go
set_option maxHeartbeats 4000000
set_option linter.unusedSimpArgs false
set_option linter.unusedVariables false
set_option maxRecDepth 20000
/-- Nothing is to be done. -/
theorem tick_step {x : RouS} {me slot i : Int} (h : TI x me slot i) (hs : 0 ≤ slot) (hi : 0 ≤ i) (h8 : i < 8) : (x.Tick).2.step = none ∧ (x.Tick).2.keys = x.keys := by
  obtain ⟨k1, k2, k3, k4, k5, k6, k7, k8, k9⟩ := h
  have hlead : leader x.slot x.ticked.view x.keys.length = (slot + (i + 1)) % 4 := by
    show leader x.slot (x.view + 1) x.keys.length = _
    rw [k1, k3, k4]
    exact leader4i slot (i + 1) hs (by omega)
  have hsc : ∀ y : RouS, y.comm = [] → y.settles = none := fun y hy => by simp [RouS.settles, hy, sortT]
  have hpr : ∀ y : RouS, y.props = [] → y.prepares = none := fun y hy => by unfold RouS.prepares; rw [hy]; rfl
  have hco : ∀ y : RouS, y.values = [] → y.commits = none := fun y hy => by unfold RouS.commits RouS.enough; rw [hy]; simp
  unfold RouS.Tick
  rw [if_neg (by rw [k8, k4]; simp; omega), hlead, k2]
  by_cases hl : (slot + (i + 1)) % 4 = me
  · rw [if_pos hl]
    obtain ⟨M, hM⟩ : ∃ M, M = x.ticked.sealed (statM x.ticked) me := ⟨_, rfl⟩
    rw [← hM]
    have hMv : M.view = x.view + 1 := by rw [hM]; rfl
    have hlz : RouS.leads x.ticked x.ticked.me M.view = true := by
      unfold RouS.leads
      rw [hMv, decide_eq_true_eq]
      exact (by rw [k2]; exact hl.symm : x.me = (slot + (i + 1)) % 4).trans hlead.symm
    obtain ⟨z, hz⟩ : ∃ z, z = { x.ticked with stats := aset x.stats (x.view + 1) [(M.from_, M)] } := ⟨_, rfl⟩
    have hst : x.ticked.status M = z := by
      unfold RouS.status
      rw [if_neg (by rw [hlz]; simp), hz, hMv]
      have : alook x.ticked.stats (x.view + 1) = none := k9 _ (by omega)
      simp only [this, Option.getD_none]
      rfl
    rw [hst]
    have hstep : z.step = none := by
      have a1 := hsc z (by rw [hz]; exact k5)
      have a2 := hpr z (by rw [hz]; exact k6)
      have a3 := hco z (by rw [hz]; exact k7)
      have a4 : z.proposes = none := by
        unfold RouS.proposes
        split
        · rfl
        · have hch : z.chosen = none := by
            unfold RouS.chosen
            have hzv : z.view = x.view + 1 := by rw [hz]
            have hzs : alook z.stats z.view = some [(M.from_, M)] := by rw [hzv, hz]; simp [alook_aset]
            rw [if_pos ⟨by rw [hzv, k4]; omega, .inr (.inr (by
              rw [hzs, show z.keys.length = 4 by rw [hz]; exact k1, quorum4]
              simp))⟩]
          rw [hch]
      unfold RouS.step
      rw [a1, a2, a3, a4]
      rfl
    rw [steps_none _ hstep]
    exact ⟨hstep, by rw [hz]⟩
  · rw [if_neg hl]
    have hstep : x.ticked.step = none := by
      have a1 := hsc x.ticked k5
      have a2 := hpr x.ticked k6
      have a3 := hco x.ticked k7
      have a4 : x.ticked.proposes = none := by
        unfold RouS.proposes
        rw [if_pos (.inl (by
          unfold RouS.leads
          rw [decide_eq_false_iff_not]
          intro hh
          apply hl
          rw [← hlead]
          exact (hh.symm.trans k2)))]
      unfold RouS.step
      rw [a1, a2, a3, a4]
      rfl
    rw [steps_none _ hstep]
    exact ⟨hstep, rfl⟩
theorem TI_new_step (keys : List Hash) (me slot : Int) : (RouS.new keys me slot).step = none := by
  have a1 : (RouS.new keys me slot).settles = none := by simp [RouS.settles, RouS.new, sortT]
  have a2 : (RouS.new keys me slot).prepares = none := by unfold RouS.prepares; simp [RouS.new, alook]
  have a3 : (RouS.new keys me slot).commits = none := by simp [RouS.commits, RouS.new, RouS.enough]
  have a4 : (RouS.new keys me slot).proposes = none := by
    unfold RouS.proposes
    split
    · rfl
    · simp [RouS.chosen, RouS.new]
  unfold RouS.step
  rw [a1, a2, a3, a4]
  rfl
/-- Behind so many ticks. -/
structure TJ (x : RouS) (keys : List Hash) (me slot : Int) : Prop where
  ti : ∃ i, 0 ≤ i ∧ i ≤ 8 ∧ TI x me slot i
  step : x.step = none
  kk : x.keys = keys
theorem TJ_new (keys : List Hash) (hk : keys.length = 4) (me slot : Int) : TJ (RouS.new keys me slot) keys me slot := ⟨⟨0, by omega, by omega, TI_new keys hk me slot⟩, TI_new_step keys me slot, rfl⟩
/-- Votes that are cast by the first n. -/
def castN (keys : List Hash) (slot view : Int) (sum : Hash) (n : Nat) : List Vote := (List.range n).map fun i : Nat => castV keys 2 slot view sum i
theorem castN_succ (keys : List Hash) (slot view : Int) (sum : Hash) (n : Nat) : castN keys slot view sum (n + 1) = castN keys slot view sum n ++ [castV keys 2 slot view sum n] := by simp [castN, List.range_succ]
theorem castN_len (keys : List Hash) (slot view : Int) (sum : Hash) (n : Nat) : (castN keys slot view sum n).length = n := by simp [castN]
theorem goodV_cast (keys : List Hash) (kind slot view : Int) (sum : Hash) (i : Int) (hi : 0 ≤ i ∧ i < keys.length) : goodV keys (castV keys kind slot view sum i) = true := by
  unfold goodV
  have h : voteBody (castV keys kind slot view sum i) = voteBody ⟨kind, slot, view, sum, i, hash0⟩ := rfl
  rw [h]
  exact sealOk_self keys i hi _
theorem onV_castN (keys : List Hash) (hk : keys.length = 4) (slot view : Int) (sum : Hash) (n : Nat) (hn : n ≤ 4) : onV keys (castN keys slot view sum n) 2 slot view sum = (List.range n).map fun i : Nat => (i : Int) := by
  unfold onV
  rw [List.take_of_length_le (by rw [castN_len]; omega), List.filter_eq_self.2 ?_]
  · simp only [castN, List.map_map]
    rfl
  · intro v hv
    obtain ⟨i, hi, rfl⟩ := List.mem_map.1 hv
    have hlt := List.mem_range.1 hi
    rw [goodV_cast keys 2 slot view sum i (by omega)]
    simp [castV]
theorem meets_castN (keys : List Hash) (hk : keys.length = 4) (slot view : Int) (sum : Hash) (n : Nat) (hn : n ≤ 4) : meetsV keys (castN keys slot view sum n) 2 slot view sum = decide (3 ≤ n) := by
  unfold meetsV
  rw [onV_castN keys hk slot view sum n hn, hk, quorum4]
  have : n = 0 ∨ n = 1 ∨ n = 2 ∨ n = 3 ∨ n = 4 := by omega
  rcases this with rfl | rfl | rfl | rfl | rfl <;> decide
abbrev decideM (keys : List Hash) (view : Int) (n : Nat) (b : List UInt8) : Msg := tagM keys ⟨5, 1, 2, 5, 0, b, castN keys 5 view (dHash b) n, hash0⟩
theorem told4 {x : RouS} {keys : List Hash} (hk : keys.length = 4) (hj : TJ x keys 2 5) (view : Int) (hv : 0 ≤ view ∧ view ≤ 8) (n : Nat) (hn : n ≤ 4) (b : List UInt8) (hb : b.length ≤ 200) :
    x.Take (decideM keys view n b) = ([], if 3 ≤ n then x.decides b (castN keys 5 view (dHash b) n) else x) := by
  obtain ⟨⟨i, _, _, hT⟩, hs, hkk⟩ := hj
  have hmine : x.mine (decideM keys view n b) = true := by
    unfold RouS.mine
    have h1 : isMsg (decideM keys view n b) := by
      unfold isMsg
      show (1 ≤ (5 : Int) ∧ (5 : Int) ≤ 6) ∧ (0 ≤ (1 : Int) ∧ (1 : Int) ≤ 9) ∧ (0 ≤ (2 : Int) ∧ (2 : Int) ≤ 9) ∧ (0 ≤ (5 : Int) ∧ (5 : Int) ≤ 63) ∧ (0 ≤ (0 : Int) ∧ (0 : Int) ≤ 8) ∧ b.length ≤ 200 ∧ (castN keys 5 view (dHash b) n).length ≤ 10 ∧ ∀ v ∈ castN keys 5 view (dHash b) n, isVote v
      refine ⟨by omega, by omega, by omega, by omega, by omega, hb, by rw [castN_len]; omega, fun v hv' => ?_⟩
      obtain ⟨j, hj, rfl⟩ := List.mem_map.1 hv'
      have hlt := List.mem_range.1 hj
      unfold isVote
      show (1 ≤ (2 : Int) ∧ (2 : Int) ≤ 3) ∧ (0 ≤ (5 : Int) ∧ (5 : Int) ≤ 63) ∧ (0 ≤ view ∧ view ≤ 8) ∧ (0 ≤ (j : Int) ∧ (j : Int) ≤ 9)
      omega
    have h2 : sealOk x.keys (decideM keys view n b).from_ (msgBody (decideM keys view n b)) (decideM keys view n b).tag = true := by
      rw [hkk]
      exact sealOk_self keys 1 (by omega) _
    rw [decide_eq_true h1, h2, hT.me_, hT.slot_]
    have h3 : (decideM keys view n b).from_ ≠ 2 := by show (1 : Int) ≠ 2; omega
    have h4 : (decideM keys view n b).slot = 5 := rfl
    simp [h3, h4]
  unfold RouS.Take
  rw [if_neg (by rw [hmine, hT.dec]; simp)]
  have hh : x.heard (decideM keys view n b) = if 3 ≤ n then x.decides b (castN keys 5 view (dHash b) n) else x := by
    unfold RouS.heard
    have hkind : (decideM keys view n b).kind = 5 := rfl
    rw [if_neg (by rw [hkind]; decide), if_neg (by rw [hkind]; decide), if_neg (by rw [hkind]; decide), if_pos hkind]
    unfold RouS.decision
    show (match castN keys 5 view (dHash b) n with | [] => x | v :: _ => if meetsV x.keys (castN keys 5 view (dHash b) n) 2 x.slot v.view (dHash b) = true then x.decides b (castN keys 5 view (dHash b) n) else x) = _
    rw [hkk, hT.slot_]
    cases n with
    | zero => rw [if_neg (by omega)]; rfl
    | succ n =>
      have e : castN keys 5 view (dHash b) (n + 1) = castV keys 2 5 view (dHash b) (0 : Nat) :: (List.range' 1 n).map fun i : Nat => castV keys 2 5 view (dHash b) i := by
        unfold castN
        rw [List.range_eq_range', List.range'_succ, List.map_cons]
      have hm := meets_castN keys hk 5 view (dHash b) (n + 1) (by omega)
      rw [e] at hm ⊢
      simp only
      rw [show (castV keys 2 5 view (dHash b) (0 : Nat)).view = view from rfl, hm]
      simp only [decide_eq_true_eq]
  rw [hh]
  split
  · rw [steps_done _ rfl]
  · rw [steps_none _ hs]
theorem TJ_tick {x : RouS} {keys : List Hash} (hj : TJ x keys 2 5) : TJ (x.Tick).2 keys 2 5 := by
  obtain ⟨⟨i, h0, h8, hT⟩, hs, hkk⟩ := hj
  by_cases h : i = 8
  · subst h
    rw [tick_8 hT]
    exact ⟨⟨8, by omega, by omega, hT⟩, hs, hkk⟩
  · refine ⟨⟨i + 1, by omega, by omega, (tick_lt hT (by omega) h0 (by omega)).1⟩, (tick_step hT (by omega) h0 (by omega)).1, ?_⟩
    rw [(tick_step hT (by omega) h0 (by omega)).2, hkk]
end Go.Proofs.YtomijhgicennbaaGreat
namespace Go.Proofs.YtomijhgicennbaaGreat
open Go
set_option maxHeartbeats 4000000
set_option linter.unusedSimpArgs false
set_option linter.unusedVariables false
set_option maxRecDepth 20000
end Go.Proofs.YtomijhgicennbaaGreat
namespace Go.Proofs.YtomijhgicennbaaGreat
open Go
set_option maxHeartbeats 4000000
set_option linter.unusedSimpArgs false
set_option linter.unusedVariables false
theorem rdBytes_of {W : World} {a : Addr} {len cap : Nat} {zs : List Int} (hl : len ≤ zs.length) (hc : len ≤ cap) (hcell : ∀ i, i < zs.length → W.cell? (a.add i) = some (.int .u8 (zs.getD i 0))) (hwf : ∀ n ∈ zs, (Lit.int .u8 n).wf = true) :
    ∃ bs : List UInt8, bs.length = len ∧ RdBytes (fun b => W.heap[b]?) (.slice (some a) len cap) bs := by
  refine ⟨(zs.take len).map fun z => UInt8.ofNat z.toNat, by simp [hl], ?_⟩
  have hlen : ((zs.take len).map fun z => UInt8.ofNat z.toNat).length = len := by simp [hl]
  refine ⟨by simp [bytesC], some a, cap, by rw [hlen], ?_⟩
  rw [hlen]
  rcases Nat.eq_zero_or_pos len with h0 | h0
  · exact .inl h0
  right
  have hc0 := hcell 0 (by omega)
  unfold World.cell? at hc0
  split at hc0
  · rename_i arr t fr hb
    split at hc0
    · cases hc0
    · rename_i hs
      obtain ⟨b, o, sp⟩ := a
      have hsp : sp = none := by
        cases sp with
        | none => rfl
        | some x => simp [Addr.add] at hs
      subst hsp
      refine ⟨b, o, rfl, ⟨arr, t, fr, by simpa [Addr.add] using hb, fun j v hj => ?_⟩, hc⟩
      have hj2 : j < len := by
        have := (List.getElem?_eq_some_iff.1 hj).1
        simpa [bytesC, hl] using this
      have hadd : ∀ j, (⟨b, o, none⟩ : Addr).add j = ⟨b, o + j, none⟩ := fun j => by
        unfold Addr.add
        split
        · rename_i h; simp [h]
        · rfl
      have h1 := hcell j (by omega)
      rw [hadd] at h1 hb
      unfold World.cell? at h1
      simp only at h1 hb
      rw [hb] at h1
      simp only [Option.isSome_none, Bool.false_eq_true, if_false] at h1
      rw [h1]
      have hz : zs[j]? = some (zs.getD j 0) := by
        rw [List.getD_eq_getElem?_getD, List.getElem?_eq_getElem (by omega)]
        rfl
      have hw := hwf (zs.getD j 0) (List.mem_of_getElem? hz)
      simp only [bytesC, List.getElem?_map, List.getElem?_take, if_pos hj2, hz, Option.map_some, Option.some.injEq] at hj
      rw [← hj]
      simp only [u8c, Value.int.injEq, true_and, Option.some.injEq]
      have hb2 := bounds_u8 hw
      clear hw h1 hz hj
      generalize zs.getD j 0 = z at hb2 ⊢
      simp only [UInt8.toNat_ofNat']
      omega
  · cases hc0
end Go.Proofs.YtomijhgicennbaaGreat
namespace Go.Proofs.YtomijhgicennbaaGreat
open Go
set_option maxHeartbeats 4000000
set_option linter.unusedSimpArgs false
set_option linter.unusedVariables false
set_option maxRecDepth 20000
abbrev toE1 (view : Int) (n T : Nat) (v : Value) (rb xb i : Nat) : Env := [(0, vi view), (1, vi n), (2, vi T), (3, v), (9, vp rb 0), (10, vp xb 0), (11, vi i)]
abbrev toE2 (view : Int) (n : Nat) (v : Value) (rb xb mb i : Nat) : Env := [(0, vi view), (1, vi n), (3, v), (9, vp rb 0), (10, vp xb 0), (12, vp mb 0), (13, vi i)]
abbrev toC (v w : Value) : List Value := [vi 5, vi 1, vi 2, vi 5, vi 0, v, w] ++ List.replicate 32 (Value.int .u8 0)
theorem Gh.iceV {l rest : List HP} {t : TypeId} {v : Value} {n : Nat} {bs : List Vote} (hp : Pk l (rowA t 68 v n (votesC bs)) rest) (hn : n = bs.length) : Gh l (fz (fun g => RdVotes g v bs) :: rest) := by
  subst hn
  exact Gh.ice hp
theorem ltoLaw_ok (view n0 ticks : Int) (v : Value) (bs : List UInt8) : Trip Tryz.prog 10 [vi view, vi n0, vi ticks, v] [fz (fun g => RdBytes g v bs)] (fun r l => r = vb true) := by
  refine Trip.get Pk.here shape_bytes ?_
  rintro ⟨a, c, rfl⟩
  by_cases g1 : view < 0
  · refine Trip.of_body Tryz.func10 rfl Tryz.ntmps10 Tryz.results10 rfl ?_
    refine Wsr (Ls (Rdo.assign rfl) (Lnt (Wp.seq (Wsr (Ls (Rdo.move rfl) (Ls (Rdo.lti rfl rfl) (Ls (Rdo.move rfl) (Lg rfl rfl (Lp rfl rfl (Lp rfl rfl (Ls (Rdo.pick_t rfl rfl) (Ls (Rdo.move rfl) (Lp rfl rfl ?_)))))))))))))
    refine Lp rfl rfl (Ls (Rdo.pick_t rfl rfl) (Ls (Rdo.move rfl) (Lp rfl rfl (Lp rfl rfl (Ls (Rdo.pick_t rfl rfl) (Ls (Rdo.move rfl) (Lp rfl rfl (Lp rfl rfl (Ls (Rdo.pick_t rfl rfl) (Ls (Rdo.move rfl) (Lp rfl rfl (Lp rfl rfl (Ls (Rdo.pick_t rfl rfl) ?_)))))))))))))
    refine Ls (Rdo.move rfl) (Lp rfl rfl (Lp rfl rfl (Lp rfl rfl (Ls (Rdo.pick_t rfl rfl) (Lnt ?_)))))
    refine Wp.condT rfl ?_
    refine Wsr (Ls (Rdo.assign rfl) (Lnt (Wp.ret ?_)))
    refine Thn.r ?_
    refine Rt (ResV.tmp rfl ResV.nil) rfl
  by_cases g2 : 8 < view
  · refine Trip.of_body Tryz.func10 rfl Tryz.ntmps10 Tryz.results10 rfl ?_
    refine Wsr (Ls (Rdo.assign rfl) (Lnt (Wp.seq (Wsr (Ls (Rdo.move rfl) (Ls (Rdo.lti rfl rfl) (Ls (Rdo.move rfl) (Lf rfl rfl (Lw rfl rfl (Rdo.move rfl) (Lw rfl rfl (Rdo.gti rfl rfl) (Ls (Rdo.pick_f rfl rfl) (Ls (Rdo.move rfl) (Lg rfl rfl ?_)))))))))))))
    refine Lp rfl rfl (Lp rfl rfl (Ls (Rdo.pick_t rfl rfl) (Ls (Rdo.move rfl) (Lp rfl rfl (Lp rfl rfl (Ls (Rdo.pick_t rfl rfl) (Ls (Rdo.move rfl) (Lp rfl rfl (Lp rfl rfl (Ls (Rdo.pick_t rfl rfl) (Ls (Rdo.move rfl) (Lp rfl rfl (Lp rfl rfl ?_)))))))))))))
    refine Ls (Rdo.pick_t rfl rfl) (Ls (Rdo.move rfl) (Lp rfl rfl (Lp rfl rfl (Lp rfl rfl (Ls (Rdo.pick_t rfl rfl) (Lnt ?_))))))
    refine Wp.condT rfl ?_
    refine Wsr (Ls (Rdo.assign rfl) (Lnt (Wp.ret ?_)))
    refine Thn.r ?_
    refine Rt (ResV.tmp rfl ResV.nil) rfl
  by_cases g3 : n0 < 0
  · refine Trip.of_body Tryz.func10 rfl Tryz.ntmps10 Tryz.results10 rfl ?_
    refine Wsr (Ls (Rdo.assign rfl) (Lnt (Wp.seq (Wsr (Ls (Rdo.move rfl) (Ls (Rdo.lti rfl rfl) (Ls (Rdo.move rfl) (Lf rfl rfl (Lw rfl rfl (Rdo.move rfl) (Lw rfl rfl (Rdo.gti rfl rfl) (Ls (Rdo.pick_f rfl rfl) (Ls (Rdo.move rfl) (Lf rfl rfl ?_)))))))))))))
    refine Lw rfl rfl (Rdo.move rfl) (Lw rfl rfl (Rdo.lti rfl rfl) (Ls (Rdo.pick_f rfl rfl) (Ls (Rdo.move rfl) (Lg rfl rfl (Lp rfl rfl (Lp rfl rfl (Ls (Rdo.pick_t rfl rfl) (Ls (Rdo.move rfl) (Lp rfl rfl (Lp rfl rfl (Ls (Rdo.pick_t rfl rfl) (Ls (Rdo.move rfl) (Lp rfl rfl ?_)))))))))))))
    refine Lp rfl rfl (Ls (Rdo.pick_t rfl rfl) (Ls (Rdo.move rfl) (Lp rfl rfl (Lp rfl rfl (Lp rfl rfl (Ls (Rdo.pick_t rfl rfl) (Lnt ?_)))))))
    refine Wp.condT rfl ?_
    refine Wsr (Ls (Rdo.assign rfl) (Lnt (Wp.ret ?_)))
    refine Thn.r ?_
    refine Rt (ResV.tmp rfl ResV.nil) rfl
  by_cases g4 : 4 < n0
  · refine Trip.of_body Tryz.func10 rfl Tryz.ntmps10 Tryz.results10 rfl ?_
    refine Wsr (Ls (Rdo.assign rfl) (Lnt (Wp.seq (Wsr (Ls (Rdo.move rfl) (Ls (Rdo.lti rfl rfl) (Ls (Rdo.move rfl) (Lf rfl rfl (Lw rfl rfl (Rdo.move rfl) (Lw rfl rfl (Rdo.gti rfl rfl) (Ls (Rdo.pick_f rfl rfl) (Ls (Rdo.move rfl) (Lf rfl rfl ?_)))))))))))))
    refine Lw rfl rfl (Rdo.move rfl) (Lw rfl rfl (Rdo.lti rfl rfl) (Ls (Rdo.pick_f rfl rfl) (Ls (Rdo.move rfl) (Lf rfl rfl (Lw rfl rfl (Rdo.move rfl) (Lw rfl rfl (Rdo.gti rfl rfl) (Ls (Rdo.pick_f rfl rfl) (Ls (Rdo.move rfl) (Lg rfl rfl (Lp rfl rfl (Lp rfl rfl (Ls (Rdo.pick_t rfl rfl) (Ls (Rdo.move rfl) ?_)))))))))))))
    refine Lp rfl rfl (Lp rfl rfl (Ls (Rdo.pick_t rfl rfl) (Ls (Rdo.move rfl) (Lp rfl rfl (Lp rfl rfl (Lp rfl rfl (Ls (Rdo.pick_t rfl rfl) (Lnt ?_))))))))
    refine Wp.condT rfl ?_
    refine Wsr (Ls (Rdo.assign rfl) (Lnt (Wp.ret ?_)))
    refine Thn.r ?_
    refine Rt (ResV.tmp rfl ResV.nil) rfl
  by_cases g5 : ticks < 0
  · refine Trip.of_body Tryz.func10 rfl Tryz.ntmps10 Tryz.results10 rfl ?_
    refine Wsr (Ls (Rdo.assign rfl) (Lnt (Wp.seq (Wsr (Ls (Rdo.move rfl) (Ls (Rdo.lti rfl rfl) (Ls (Rdo.move rfl) (Lf rfl rfl (Lw rfl rfl (Rdo.move rfl) (Lw rfl rfl (Rdo.gti rfl rfl) (Ls (Rdo.pick_f rfl rfl) (Ls (Rdo.move rfl) (Lf rfl rfl ?_)))))))))))))
    refine Lw rfl rfl (Rdo.move rfl) (Lw rfl rfl (Rdo.lti rfl rfl) (Ls (Rdo.pick_f rfl rfl) (Ls (Rdo.move rfl) (Lf rfl rfl (Lw rfl rfl (Rdo.move rfl) (Lw rfl rfl (Rdo.gti rfl rfl) (Ls (Rdo.pick_f rfl rfl) (Ls (Rdo.move rfl) (Lf rfl rfl (Lw rfl rfl (Rdo.move rfl) (Lw rfl rfl (Rdo.lti rfl rfl) (Ls (Rdo.pick_f rfl rfl) (Ls (Rdo.move rfl) ?_)))))))))))))
    refine Lg rfl rfl (Lp rfl rfl (Lp rfl rfl (Ls (Rdo.pick_t rfl rfl) (Ls (Rdo.move rfl) (Lp rfl rfl (Lp rfl rfl (Lp rfl rfl (Ls (Rdo.pick_t rfl rfl) (Lnt ?_)))))))))
    refine Wp.condT rfl ?_
    refine Wsr (Ls (Rdo.assign rfl) (Lnt (Wp.ret ?_)))
    refine Thn.r ?_
    refine Rt (ResV.tmp rfl ResV.nil) rfl
  by_cases g6 : 8 < ticks
  · refine Trip.of_body Tryz.func10 rfl Tryz.ntmps10 Tryz.results10 rfl ?_
    refine Wsr (Ls (Rdo.assign rfl) (Lnt (Wp.seq (Wsr (Ls (Rdo.move rfl) (Ls (Rdo.lti rfl rfl) (Ls (Rdo.move rfl) (Lf rfl rfl (Lw rfl rfl (Rdo.move rfl) (Lw rfl rfl (Rdo.gti rfl rfl) (Ls (Rdo.pick_f rfl rfl) (Ls (Rdo.move rfl) (Lf rfl rfl ?_)))))))))))))
    refine Lw rfl rfl (Rdo.move rfl) (Lw rfl rfl (Rdo.lti rfl rfl) (Ls (Rdo.pick_f rfl rfl) (Ls (Rdo.move rfl) (Lf rfl rfl (Lw rfl rfl (Rdo.move rfl) (Lw rfl rfl (Rdo.gti rfl rfl) (Ls (Rdo.pick_f rfl rfl) (Ls (Rdo.move rfl) (Lf rfl rfl (Lw rfl rfl (Rdo.move rfl) (Lw rfl rfl (Rdo.lti rfl rfl) (Ls (Rdo.pick_f rfl rfl) (Ls (Rdo.move rfl) ?_)))))))))))))
    refine Lf rfl rfl (Lw rfl rfl (Rdo.move rfl) (Lw rfl rfl (Rdo.gti rfl rfl) (Ls (Rdo.pick_f rfl rfl) (Ls (Rdo.move rfl) (Lg rfl rfl (Lp rfl rfl (Lp rfl rfl (Lp rfl rfl (Ls (Rdo.pick_t rfl rfl) (Lnt ?_))))))))))
    refine Wp.condT rfl ?_
    refine Wsr (Ls (Rdo.assign rfl) (Lnt (Wp.ret ?_)))
    refine Thn.r ?_
    refine Rt (ResV.tmp rfl ResV.nil) rfl
  by_cases g7 : (200 : Int) < bs.length
  · refine Trip.of_body Tryz.func10 rfl Tryz.ntmps10 Tryz.results10 rfl ?_
    refine Wsr (Ls (Rdo.assign rfl) (Lnt (Wp.seq (Wsr (Ls (Rdo.move rfl) (Ls (Rdo.lti rfl rfl) (Ls (Rdo.move rfl) (Lf rfl rfl (Lw rfl rfl (Rdo.move rfl) (Lw rfl rfl (Rdo.gti rfl rfl) (Ls (Rdo.pick_f rfl rfl) (Ls (Rdo.move rfl) (Lf rfl rfl ?_)))))))))))))
    refine Lw rfl rfl (Rdo.move rfl) (Lw rfl rfl (Rdo.lti rfl rfl) (Ls (Rdo.pick_f rfl rfl) (Ls (Rdo.move rfl) (Lf rfl rfl (Lw rfl rfl (Rdo.move rfl) (Lw rfl rfl (Rdo.gti rfl rfl) (Ls (Rdo.pick_f rfl rfl) (Ls (Rdo.move rfl) (Lf rfl rfl (Lw rfl rfl (Rdo.move rfl) (Lw rfl rfl (Rdo.lti rfl rfl) (Ls (Rdo.pick_f rfl rfl) (Ls (Rdo.move rfl) ?_)))))))))))))
    refine Lf rfl rfl (Lw rfl rfl (Rdo.move rfl) (Lw rfl rfl (Rdo.gti rfl rfl) (Ls (Rdo.pick_f rfl rfl) (Ls (Rdo.move rfl) (Lf rfl rfl (Lw rfl rfl (Rdo.move rfl) (Lw rfl rfl (Rdo.lenSlice rfl) (Lw rfl rfl (Rdo.gti rfl rfl) (Ls (Rdo.pick_f rfl rfl) (Lnt (cK rfl (Wsr (Ls (Rdo.assign rfl) ?_)))))))))))))
    refine Lnt (Wp.ret ?_)
    refine Thn.r ?_
    refine Rt (ResV.tmp rfl ResV.nil) rfl
  obtain ⟨n, rfl⟩ : ∃ n : Nat, n0 = n := ⟨n0.toNat, by omega⟩
  obtain ⟨T, rfl⟩ : ∃ n : Nat, ticks = n := ⟨ticks.toNat, by omega⟩
  have s1 : Trip Tryz.prog 16 [vi 4, .agg (hc (h1 1)).toArray] [] _ := newRing_ok 4 (h1 1)
  have s2 : Trip Tryz.prog 21 [vi 4, .agg (hc (h1 1)).toArray] [] _ := rNewRing_ok 4 (h1 1)
  have hk := keys4 1
  generalize keysOf (min (max (4 : Int) 1) 10).toNat (h1 1) = keys at *
  have s3 := fun rb => New_ok rb keys 2 5
  have hO := new_OK keys (by omega) 2 5 (by omega)
  have hJ := TJ_new keys hk 2 5
  simp only [rouL, List.cons_append, List.nil_append] at s3
  refine Trip.of_body Tryz.func10 rfl Tryz.ntmps10 Tryz.results10 rfl ?_
  refine Wsr (Ls (Rdo.assign rfl) (Lnt (Wp.seq (Wsr (Ls (Rdo.move rfl) (Ls (Rdo.lti rfl rfl) (Ls (Rdo.move rfl) (Lf rfl rfl (Lw rfl rfl (Rdo.move rfl) (Lw rfl rfl (Rdo.gti rfl rfl) (Ls (Rdo.pick_f rfl rfl) (Ls (Rdo.move rfl) (Lf rfl rfl ?_)))))))))))))
  refine Lw rfl rfl (Rdo.move rfl) (Lw rfl rfl (Rdo.lti rfl rfl) (Ls (Rdo.pick_f rfl rfl) (Ls (Rdo.move rfl) (Lw rfl rfl (Rdo.move rfl) (Lw rfl rfl (Rdo.gti rfl rfl) (Ls (Rdo.pick_f rfl rfl) (Ls (Rdo.move rfl) (Lf rfl rfl (Lw rfl rfl (Rdo.move rfl) (Lw rfl rfl (Rdo.lti rfl rfl) (Ls (Rdo.pick_f rfl rfl) (Ls (Rdo.move rfl) (Lw rfl rfl (Rdo.move rfl) ?_)))))))))))))
  refine Lw rfl rfl (Rdo.gti rfl rfl) (Ls (Rdo.pick_f rfl rfl) (Ls (Rdo.move rfl) (Lf rfl rfl (Lw rfl rfl (Rdo.move rfl) (Lw rfl rfl (Rdo.lenSlice rfl) (Lw rfl rfl (Rdo.gti rfl rfl) (Ls (Rdo.pick_f rfl rfl) (Lnt (cL rfl (Wp.skip (Thn.n (Wsr (Ls (Rdo.bldArr1 rfl rfl) ?_)))))))))))))
  refine WpL.step (Sc (s2) rfl ?_)
  rintro _ _ ⟨v48_0, ⟨rfl, rfl⟩⟩
  refine Ll ?_
  refine Ls (Rdo.assign rfl) (Lnt (Wsr (Ls (Rdo.bldArr1 rfl rfl) ?_)))
  refine WpL.step (Sc (s1) rfl ?_)
  rintro _ _ ⟨v57_0, ⟨rfl, rfl⟩⟩
  refine Ll ?_
  refine WpL.step (Sc (s3 _) rfl ?_)
  rintro _ _ ⟨v60_0, ⟨v60_1, ⟨rfl, rfl⟩⟩⟩
  refine Ll ?_
  refine Ls (Rdo.assign rfl) (Lnt (Wp.seq (Wsr (Ls (Rdo.move rfl) (Ls (Rdo.eqnil rfl rfl) (Lnt ?_))))))
  refine Wp.condF rfl ?_
  refine Wp.skip (Thn.n (Wp.seq (Wsr (Ls (Rdo.assign rfl) (Lnt (Wp.block ?_))))))
  refine Wp.loopE (fun k e h => ∃ (i : Nat) (x : RouS) (m : RouM), i + k = T ∧ TJ x keys 2 5 ∧ RouOK x (5 * i) ∧ e = toE1 view n T (.slice a bs.length c) v48_0 v60_0 i ∧ h = rouL v60_0 x m ++ [ringF v48_0 keys, fz (fun g => RdBytes g (.slice a bs.length c) bs)]) T
    (e0 := toE1 view n T (.slice a bs.length c) v48_0 v60_0 (0 : Nat)) (l0 := rouL v60_0 (RouS.new keys 2 5) v60_1 ++ [ringF v48_0 keys, fz (fun g => RdBytes g (.slice a bs.length c) bs)]) (by repeat (first | exact trivial | refine ⟨rfl, ?_⟩)) (by repeat (first | exact trivial | refine ⟨rfl, ?_⟩)) Gk ⟨0, _, _, by omega, hJ, hO, rfl, rfl⟩ ?_
  rintro k e h ⟨i, x, m, hik, hJx, hOx, rfl, rfl⟩
  clear hO hJ s1 s2 s3
  by_cases hi : i < T
  · have hi' : (i : Int) < T := by omega
    have hOy := (Tick_OK hOx).1
    have s4 := Tick_ok v60_0 x m (5 * i) hOx (by omega)
    have hJy := TJ_tick hJx
    simp only [rouL, List.cons_append, List.nil_append] at *
    refine Wp.seq (Wsr (Ls (Rdo.move rfl) (Ls (Rdo.move rfl) (Ls (Rdo.lti rfl rfl) (Lnt (cK rfl (Wp.skip (Thn.n (Wp.seq (Wp.block (Wp.region (Ls (Rdo.move rfl) ?_))))))))))))
    refine WpL.step (Sc (s4) rfl ?_)
    rintro _ _ ⟨v16_0, ⟨v16_1, ⟨rfl, rfl⟩⟩⟩
    refine Ll ?_
    refine WpL.nil (Blk.n (Thn.n (Wp.region (Ls (Rdo.move rfl) ?_))))
    refine Ls (Rdo.succ rfl rfl (by omega)) ?_
    refine Ls (Rdo.assign rfl) (Lnt ?_)
    exact ⟨k - 1, _, _, by omega, ⟨i + 1, _, _, by omega, hJy, hOy, rfl, rfl⟩, (by repeat (first | exact trivial | refine ⟨rfl, ?_⟩)), Gk⟩
  · obtain rfl : i = T := by omega
    simp only [rouL, List.cons_append, List.nil_append] at *
    refine Wp.seq (Wsr (Ls (Rdo.move rfl) (Ls (Rdo.move rfl) (Ls (Rdo.lti rfl rfl) (Lnt (cL rfl ?_))))))
    refine Wp.exit ?_
    refine Thn.x ?_
    refine Thn.x ?_
    refine Blk.here ?_
    refine Thn.n (Wsr (Ls (Rdo.move rfl) ?_))
    refine Ls (Rdo.bld rfl (BldL.cons rfl (VC.i _ _) (by first | rfl | assumption | (simp <;> done)) (by repeat (first | exact LPut.nil _ | (refine LPut.seg ?_; first | assumption | (simp <;> done)) | (refine LPut.segEnd ?_; first | assumption | (simp <;> done)) | (with_reducible apply LPut.here) | apply LPut.hereL | apply LPut.here | (apply LPut.over32; focus (first | assumption | (simp <;> done))) | (with_reducible apply LPut.next) | apply LPut.nextL | apply LPut.next)) (BldL.cons rfl (VC.i _ _) (by first | rfl | assumption | (simp <;> done)) (by repeat (first | exact LPut.nil _ | (refine LPut.seg ?_; first | assumption | (simp <;> done)) | (refine LPut.segEnd ?_; first | assumption | (simp <;> done)) | (with_reducible apply LPut.here) | apply LPut.hereL | apply LPut.here | (apply LPut.over32; focus (first | assumption | (simp <;> done))) | (with_reducible apply LPut.next) | apply LPut.nextL | apply LPut.next)) (BldL.cons rfl (VC.i _ _) (by first | rfl | assumption | (simp <;> done)) (by repeat (first | exact LPut.nil _ | (refine LPut.seg ?_; first | assumption | (simp <;> done)) | (refine LPut.segEnd ?_; first | assumption | (simp <;> done)) | (with_reducible apply LPut.here) | apply LPut.hereL | apply LPut.here | (apply LPut.over32; focus (first | assumption | (simp <;> done))) | (with_reducible apply LPut.next) | apply LPut.nextL | apply LPut.next)) (BldL.cons rfl (VC.i _ _) (by first | rfl | assumption | (simp <;> done)) (by repeat (first | exact LPut.nil _ | (refine LPut.seg ?_; first | assumption | (simp <;> done)) | (refine LPut.segEnd ?_; first | assumption | (simp <;> done)) | (with_reducible apply LPut.here) | apply LPut.hereL | apply LPut.here | (apply LPut.over32; focus (first | assumption | (simp <;> done))) | (with_reducible apply LPut.next) | apply LPut.nextL | apply LPut.next)) (BldL.cons rfl (VC.sl _ _ _) (by first | rfl | assumption | (simp <;> done)) (by repeat (first | exact LPut.nil _ | (refine LPut.seg ?_; first | assumption | (simp <;> done)) | (refine LPut.segEnd ?_; first | assumption | (simp <;> done)) | (with_reducible apply LPut.here) | apply LPut.hereL | apply LPut.here | (apply LPut.over32; focus (first | assumption | (simp <;> done))) | (with_reducible apply LPut.next) | apply LPut.nextL | apply LPut.next)) (BldL.nil _))))))) ?_
    (refine WpL.step (Stp.alloc rfl ?_); intro nb18)
    refine WpL.step (St rfl rfl (VC.ag _) ?_)
    refine Lnt (Wp.seq (Wsr (Ls (Rdo.assign rfl) (Lnt (Wp.block ?_)))))
    refine Wp.loopE (fun k e h => ∃ (j : Nat) (a' : Option Addr) (c' : Nat) (V : List Vote), j + k = n ∧ V = castN keys 5 view (dHash bs) j ∧ e = toE2 view n (.slice a bs.length c) v48_0 v60_0 nb18 j ∧ h = rowA 44 68 (.slice a' V.length c') V.length (votesC V) :: cel nb18 34 (toC (.slice a bs.length c) (.slice a' V.length c')) :: rouL v60_0 x m ++ [ringF v48_0 keys, bsF (a, c) bs]) n
      (e0 := toE2 view n (.slice a bs.length c) v48_0 v60_0 nb18 (0 : Nat)) (l0 := rowA 44 68 (.slice none 0 0) 0 (votesC []) :: cel nb18 34 (toC (.slice a bs.length c) (.slice none 0 0)) :: rouL v60_0 x m ++ [ringF v48_0 keys, bsF (a, c) bs]) (by repeat (first | exact trivial | refine ⟨rfl, ?_⟩)) (by repeat (first | exact trivial | refine ⟨rfl, ?_⟩)) (Gh.trans (Gh.nil 44 68) Gk) ⟨0, none, 0, [], by omega, rfl, rfl, rfl⟩ ?_
    clear hik hi
    rintro k e h ⟨j, a', c', V, hjk, hV, rfl, rfl⟩
    have hVl : V.length = j := by rw [hV, castN_len]
    by_cases hj : j < n
    · have hj' : (j : Int) < n := by omega
      have s5 := rValueSum_ok (.slice a bs.length c) bs (by omega)
      have s6 := rCast_ok v48_0 keys 2 5 view (dHash bs) j (by omega)
      have e1 : V ++ [castV keys 2 5 view (dHash bs) j] = castN keys 5 view (dHash bs) (j + 1) := by rw [hV, castN_succ]
      have hz := hc_length (dHash bs)
      obtain ⟨cv, hcv⟩ : ∃ cv, cv = castV keys 2 5 view (dHash bs) j := ⟨_, rfl⟩
      rw [← hcv] at s6 e1
      clear hcv
      generalize dHash bs = H at *
      have hvl := voteC_length cv
      have hvo := oneCells_voteC cv
      simp only [rouL, List.cons_append, List.nil_append, toC] at *
      refine Wp.seq (Wsr (Ls (Rdo.move rfl) (Ls (Rdo.move rfl) (Ls (Rdo.lti rfl rfl) (Lnt (cK rfl (Wp.skip (Thn.n (Wp.seq (Wp.block ?_))))))))))
      refine Wp.draw (by kernel_rfl) ?_
      refine Qt (i := 0) rfl (Rdo.fieldAddr0 rfl) (Qt (i := 2) rfl (Rdo.move rfl) (Qt (i := 3) rfl (Rdo.move rfl) (Qt (i := 4) rfl (Rdo.move rfl) (Qt (i := 6) rfl (Rdo.move rfl) ?_))))
      refine WpR.phaseL (m := 1) #[true, true, true, true, true, true, true, true, true, true, true, false] 6 _ rfl (by kernel_rfl) (Tk.cons (Pk.next Pk.here) Tk.nil) ?_
      refine At (i := 1) rfl (Rdo.load rfl (Lds.one rfl)) ?_
      refine WpA.one (i := 5) rfl (by kernel_rfl) (Sc (s5) rfl ?_)
      rintro _ _ ⟨rfl, rfl⟩
      refine WpA.lst (by simp only [List.cons_append, List.nil_append]; exact rfl) ?_
      refine WpA.one (i := 7) rfl (by kernel_rfl) (Sc (s6) rfl ?_)
      rintro _ _ ⟨rfl, rfl⟩
      refine WpA.lst (by simp only [List.cons_append, List.nil_append]; exact rfl) ?_
      (refine WpA.one (i := 8) rfl (by kernel_rfl) (Stp.sliceV rfl rfl (VCs.cons (VC.ag _) (by first | rfl | assumption | (simp <;> done)) VCs.nil) (by simp only [List.cons_append, List.nil_append, List.append_nil]; exact rfl) rfl rfl ?_); intro nb27)
      (refine WpA.one (i := 9) rfl (by kernel_rfl) (Stp.appendP rfl rfl (Pk.next (Pk.next (Pk.next Pk.here))) (Src.cel (by first | rfl | (simp <;> done) | (simp <;> omega))) (by first | rfl | assumption | (simp <;> done) | (simp <;> omega)) (by first | assumption | exact oneCells1 rfl | exact oneCells1 (by assumption) | exact oneCells_bytesC _ | exact oneCells_votesC _ | (simp [oneCells, Value.oneCell'] <;> done)) (by first | omega | (simp <;> omega)) (by first | omega | (simp <;> omega)) rfl (by first | rfl | (simp <;> done)) ?_); intro na28 nc28)
      refine At (i := 10) rfl (Rdo.fieldAddr0 rfl) ?_
      refine WpA.stop (by kernel_rfl) ?_
      refine Ql ?_
      refine Qo (i := 11) rfl (Stp.storeV rfl rfl (VC.sl _ _ _) rfl (Sp (oneCells1 rfl)) ?_)
      refine WpR.done (by kernel_rfl) ?_
      refine Blk.n (Thn.n (Wp.region (Ls (Rdo.move rfl) ?_)))
      refine Ls (Rdo.succ rfl rfl (by omega)) ?_
      refine Ls (Rdo.assign rfl) (Lnt ?_)
      have e2 : V.length + 1 = (castN keys 5 view H (j + 1)).length := by rw [← e1, List.length_append]; rfl
      have e3 : votesC V ++ voteC cv = votesC (castN keys 5 view H (j + 1)) := by rw [← e1]; simp [votesC]
      rw [e2, e3]
      exact ⟨k - 1, _, _, by omega, ⟨j + 1, _, _, _, by omega, rfl, rfl, rfl⟩, (by repeat (first | exact trivial | refine ⟨rfl, ?_⟩)), Gk⟩
    · obtain rfl : j = n := by omega
      have hJ0 := told4 hk hJx view (by omega) j (by omega) bs (by omega)
      obtain ⟨M, hM⟩ : ∃ M, M = decideM keys view j bs := ⟨_, rfl⟩
      have e1 : M.value = bs ∧ M.votes = V := by rw [hM, hV]; exact ⟨rfl, rfl⟩
      have s7 : Trip Tryz.prog 23 [vp v48_0 0, .agg (toC (.slice a bs.length c) (.slice a' V.length c')).toArray] [ringF v48_0 keys, bsF (a, c) bs, vsF (a', c') V] _ := lawSealed_ok v48_0 keys ⟨5, 1, 2, 5, 0, bs, V, hash0⟩ ((a, c), (a', c')) (by omega) (by simp only; omega) (by simp only; omega)
      have e2 : tagM keys ⟨5, 1, 2, 5, 0, bs, V, hash0⟩ = M := by rw [hM, hV]
      rw [e2] at s7
      have s8 := TakeP_ok v60_0 x m (5 * i) hOx (by omega) ((a, c), (a', c')) M (by rw [e1.2]; omega)
      rw [← hM] at hJ0
      have hOy := Take_OK (M := M) hOx
      rw [hJ0, e1.1, e1.2] at s8
      rw [hJ0] at hOy
      clear hM e2 e1 hJ0
      refine Wp.gh (Gh.iceV (bs := V) Pk.here rfl) ?_
      by_cases h3 : 3 ≤ j
      · rw [if_pos h3] at s8 hOy
        have h3' : ¬ (j : Int) < 3 := by omega
        have s9 := fun m' => Decided_ok v60_0 (x.decides bs (castN keys 5 view (dHash bs) j)) m' (by have := hOy.value; simp only at this ⊢; omega) (by have := hOy.why; simp only at this ⊢; omega)
        rw [← hV] at s8 s9
        have s10 := fun y1 y2 => votesSame_ok (.slice y1 V.length y2) (.slice a' V.length c') V V (by omega) (by omega)
        simp only [rouL, List.cons_append, List.nil_append, toC, RouS.decides] at *
        refine Wp.seq (Wsr (Ls (Rdo.move rfl) (Ls (Rdo.move rfl) (Ls (Rdo.lti rfl rfl) (Lnt (cL rfl ?_))))))
        refine Wp.exit ?_
        refine Thn.x ?_
        refine Thn.x ?_
        refine Blk.here ?_
        refine Thn.n (Wsr (Ls (Rdo.move rfl) (Ls (Rdo.move rfl) ?_)))
        refine Ls (Rdo.load rfl (Lds.next Ld)) ?_
        refine WpL.step (Sc (s7) rfl ?_)
        rintro _ _ ⟨rfl, rfl⟩
        refine Ll ?_
        refine WpL.step (Sc (s8) rfl ?_)
        rintro _ _ ⟨v23_0, ⟨v23_1, ⟨rfl, rfl⟩⟩⟩
        refine Ll ?_
        refine Lnt (Wsr (Ls (Rdo.move rfl) ?_))
        refine WpL.step (Sc (s9 _) rfl ?_)
        rintro _ _ ⟨v31_0, ⟨rfl, rfl⟩⟩
        refine Ll ?_
        refine Ls (Rdo.move rfl) (Ls (Rdo.extract rfl rfl) (Ls (Rdo.extract rfl rfl) (Ls (Rdo.extract rfl rfl) (Ls (Rdo.assign rfl) (Ls (Rdo.assign rfl) (Ls (Rdo.assign rfl) (Lnt (Wp.seq (Wsr (Ls (Rdo.move rfl) (Ls (Rdo.lti rfl rfl) (Lnt (cL rfl ?_)))))))))))))
        refine Wp.skip (Thn.n (Wsr (Ls (Rdo.move rfl) (Ls (Rdo.move rfl) (Lw rfl rfl (Rdo.move rfl) (Lw rfl rfl (Rdo.bytesStr rfl (Src.next (Src.next (Src.next Src.frozen)))) (Lw rfl rfl (Rdo.move rfl) (Lw rfl rfl (Rdo.bytesStr rfl (Src.next (Src.next (Src.next (Src.next (Src.next (Src.next (Src.next (Src.next (Src.next (Src.next (Src.next (Src.next (Src.next (Src.next (Src.next (Src.next Src.frozen))))))))))))))))) (Lw rfl rfl (Rdo.eqVs rfl rfl) (Ls (Rdo.pick_t rfl rfl) (Ls (Rdo.move rfl) (Lg rfl rfl (Lw rfl rfl (Rdo.move rfl) ?_)))))))))))))
        refine Lw rfl rfl (Rdo.fieldAddr0 rfl) (Lw rfl rfl (Rdo.load rfl (Lds.next (Lds.next (Lds.next (Lds.next (Lds.next (Lds.next (Lds.next (Lds.next (Lds.next (Lds.next (Lds.next (Lds.next (Lds.next (Lds.next (Lds.next (Lds.next (Lds.next (Lds.next (Lds.next (Lds.one rfl))))))))))))))))))))) ?_)
        refine WpL.want rfl rfl rfl (Sc (s10 _ _) rfl ?_)
        rintro _ _ ⟨rfl, rfl⟩
        refine Ll ?_
        refine Ls (Rdo.pick_t rfl rfl) (Ls (Rdo.move rfl) ?_)
        refine WpL.want rfl rfl rfl (Sc (known_ok) rfl ?_)
        rintro _ _ ⟨rfl, rfl⟩
        refine Ll ?_
        refine Ls (Rdo.pick_t rfl rfl) (Ls (Rdo.assign rfl) (Lnt (Wp.ret ?_)))
        refine Rt (ResV.tmp rfl ResV.nil) rfl
      · rw [if_neg h3] at s8 hOy
        have h3' : (j : Int) < 3 := by omega
        have hd : x.decided = false := by obtain ⟨⟨_, _, _, hT⟩, _⟩ := hJx; exact hT.dec
        have s9 := fun m' => Decided_ok v60_0 x m' (by have := hOy.value; simp only at this ⊢; omega) (by have := hOy.why; simp only at this ⊢; omega)
        simp only [rouL, List.cons_append, List.nil_append, toC] at *
        refine Wp.seq (Wsr (Ls (Rdo.move rfl) (Ls (Rdo.move rfl) (Ls (Rdo.lti rfl rfl) (Lnt (cL rfl ?_))))))
        refine Wp.exit ?_
        refine Thn.x ?_
        refine Thn.x ?_
        refine Blk.here ?_
        refine Thn.n (Wsr (Ls (Rdo.move rfl) (Ls (Rdo.move rfl) ?_)))
        refine Ls (Rdo.load rfl (Lds.next Ld)) ?_
        refine WpL.step (Sc (s7) rfl ?_)
        rintro _ _ ⟨rfl, rfl⟩
        refine Ll ?_
        refine WpL.step (Sc (s8) rfl ?_)
        rintro _ _ ⟨v23_0, ⟨v23_1, ⟨rfl, rfl⟩⟩⟩
        refine Ll ?_
        refine Lnt (Wsr (Ls (Rdo.move rfl) ?_))
        refine WpL.step (Sc (s9 _) rfl ?_)
        rintro _ _ ⟨v31_0, ⟨rfl, rfl⟩⟩
        refine Ll ?_
        refine Ls (Rdo.move rfl) (Ls (Rdo.extract rfl rfl) (Ls (Rdo.extract rfl rfl) (Ls (Rdo.extract rfl rfl) (Ls (Rdo.assign rfl) (Ls (Rdo.assign rfl) (Ls (Rdo.assign rfl) (Lnt (Wp.seq (Wsr (Ls (Rdo.move rfl) (Ls (Rdo.lti rfl rfl) (Lnt (cK rfl ?_)))))))))))))
        refine Wsr (Ls (Rdo.move rfl) (Ls (Rdo.not rfl) (Ls (Rdo.move rfl) (Lg rfl rfl ?_))))
        refine WpL.want rfl rfl rfl (Sc (known_ok) rfl ?_)
        rintro _ _ ⟨rfl, rfl⟩
        refine Ll ?_
        refine Ls (Rdo.pick_t rfl rfl) (Ls (Rdo.assign rfl) (Lnt (Wp.ret ?_)))
        refine Thn.r ?_
        refine Rt (ResV.tmp rfl ResV.nil) rfl
theorem lto_walk (a0 a1 a2 : Int) (v : Value) (bs : List UInt8) (w : World) (_ : (Lit.int .i64 a0).wf = true) (_ : (Lit.int .i64 a1).wf = true) (_ : (Lit.int .i64 a2).wf = true) (h : RdBytes (fun b => w.heap[b]?) v bs) :
    Calls Tryz.prog 10 #[.int .i64 a0, .int .i64 a1, .int .i64 a2, v] w fun e w' => e = .returned (.bool true) ∧ Go.RowKit.Below w.heap.size w w' :=
  Trip.top (args := [vi a0, vi a1, vi a2, v]) (Φ := fun g => RdBytes g v bs) (post := fun r _ => r = vb true) h (fun _ _ h => h) (ltoLaw_ok a0 a1 a2 v bs)
end Go.Proofs.YtomijhgicennbaaGreat
