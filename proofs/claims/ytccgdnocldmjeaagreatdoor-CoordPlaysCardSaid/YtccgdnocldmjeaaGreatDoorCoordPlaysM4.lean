/- Walks, rules and plain laws on which the claim stands, joined: the program's functions as they compute, one after the other. -/
import Derived.Orders
import Derived.Below
import Derived.Tactics
import Derived.Laws.AppendOwn
import Derived.Laws.CopyRow
import Derived.Laws.ResultCell
import Derived.Laws.Slices
import Derived.Laws.Small
import Derived.Laws.StructEq
import Derived.Laws.Pointers
import Derived.Laws.Unary
import Derived.Laws.Cells
import Derived.OrdersIn
import Derived.RangeFuncRecord
import Derived.RangeFuncIn
import Derived.RangeFuncCalls
import Derived.RangeFuncNested
import Derived.Laws.Cover3
import Derived.Laws.BytesString
import Derived.Laws.Strings
import Derived.Test.YtccgdnocldmjeaaGreatDoorProg
import Derived.KernelRfl
import Derived.DeepKeys
import Derived.Laws.IdiomStrings
import Derived.OpenShut
import Derived.ChangeSlices
import Derived.DataElems
import Derived.Handed
import Derived.Laws.Shifts
import Derived.Laws.BitsAllLaws
import Derived.Test.YtccgdnocldmjeaaGreatDoorRows
import Derived.WalkKit
import Derived.ProofKit
import Derived.ShutString
import Derived.ChangeOld
import Derived.Lay
import Derived.MakeChecks
import Derived.SevenTiedAt
import Derived.Test.YtccgdnocldmjeaaGreatDoorCoordPlaysM3
namespace Go.Proofs.YtccgdnocldmjeaaGreatDoor
open Go
set_option maxHeartbeats 4000000
set_option linter.unusedSimpArgs false
set_option linter.unusedVariables false
set_option maxRecDepth 20000
structure RfM where
  pv : Value
  mv : Value
  dv : Value
  vs : List Value
def RdPs (g : FH) (ps : List Prod) (vs : List Value) : Prop := vs.length = ps.length ∧ ∀ (i : Nat) (p : Prod) (v : Value), ps[i]? = some p → vs[i]? = some v → RdInts g v p.parts
theorem RdPs.mono (ps : List Prod) (vs : List Value) : Mono fun g => RdPs g ps vs := fun g g' hle ⟨h1, h2⟩ => ⟨h1, fun i p v hp hv => RdRow.mono _ _ _ _ g g' hle (h2 i p v hp hv)⟩
abbrev doneC (x : (Int × Int) × Rep) : List Value := [vi x.1.1, vi x.1.2, vi x.2.err, vi x.2.producer, vi x.2.epoch]
abbrev rdA (v : Value) (ds : List ((Int × Int) × Rep)) : HP := rowA 59 5 v ds.length (ds.map doneC).flatten
abbrev rfX (x : Nat) (c : CoS) (m : RfM) : List HP := [cel x 31 (rcC m.pv m.mv m.dv c.now), rowA 92 6 m.pv c.prods.length (rpsC c.prods m.vs), markA m.mv c.marks, rdA m.dv c.answers, fz (fun g => RdPs g c.prods m.vs)]
def rfA (x : Nat) (c : CoS) : HP := exH fun m : RfM => starH (rfX x c m)
theorem ps_len {ps : List Prod} {vs : List Value} (r : Res) (h : fz (fun g => RdPs g ps vs) r) : vs.length = ps.length := by
  unfold fz at h
  exact h.1
theorem ps_shape {ps : List Prod} {vs : List Value} {i : Nat} {p : Prod} {v : Value} (hp : ps[i]? = some p) (hv : vs[i]? = some v) (r : Res) (h : fz (fun g => RdPs g ps vs) r) : ∃ a c, v = .slice a p.parts.length c := by
  unfold fz at h
  obtain ⟨_, a, c, h2, _⟩ := h.2 i p v hp hv
  exact ⟨a, c, h2⟩
theorem rfA_open {l : List HP} {x : Nat} {c : CoS} : GhE (rfA x c :: l) (fun m : RfM => m.vs.length = c.prods.length) (fun m => rfX x c m ++ l) := by
  refine GhE.mk fun F w hl => ?_
  unfold rfA at hl
  obtain ⟨m, -, h⟩ := (GhE.open_ (f := rfX x c) Pk.here).use hl
  have hf := Holds.fact ps_len (h.perm (show List.Perm _ (fz (fun g => RdPs g c.prods m.vs) :: (cel x 31 (rcC m.pv m.mv m.dv c.now) :: rowA 92 6 m.pv c.prods.length (rpsC c.prods m.vs) :: markA m.mv c.marks :: rdA m.dv c.answers :: l)) from by
    simp only [rfX, List.cons_append, List.nil_append]
    exact List.perm_middle (l₁ := [_, _, _, _])))
  exact ⟨m, hf, h⟩
theorem rfA_shut {l : List HP} {x : Nat} {c : CoS} (m : RfM) : Gh (cel x 31 (rcC m.pv m.mv m.dv c.now) :: rowA 92 6 m.pv c.prods.length (rpsC c.prods m.vs) :: markA m.mv c.marks :: rdA m.dv c.answers :: fz (fun g => RdPs g c.prods m.vs) :: l) (rfA x c :: l) := by
  unfold rfA
  exact Gh.shut (f := rfX x c) m (Tk.cons Pk.here (Tk.cons Pk.here (Tk.cons Pk.here (Tk.cons Pk.here (Tk.cons Pk.here (Tk.mk fun F w h => h))))))
theorem RdPs.cut {g : FH} {ps : List Prod} {vs : List Value} (h : RdPs g ps vs) {i : Nat} {q : Prod} (hq : q.parts = []) : RdPs g (ps.set i q) (vs.set i vnil) := by
  refine ⟨by simp [h.1], fun j p v hp hv => ?_⟩
  by_cases e : i = j
  · subst e
    have h1 := (List.getElem?_eq_some_iff.1 hp).1
    have h2 := (List.getElem?_eq_some_iff.1 hv).1
    rw [List.length_set] at h1 h2
    rw [List.getElem?_set_self h1] at hp
    rw [List.getElem?_set_self h2] at hv
    cases hp
    cases hv
    rw [hq]
    exact ⟨rfl, none, 0, rfl, .inl rfl⟩
  · rw [List.getElem?_set_ne e] at hp hv
    exact h.2 j p v hp hv
theorem rps_cut {ps : List Prod} {vs : List Value} {i : Nat} {p : Prod} {v : Value} (hp : ps[i]? = some p) (hv : vs[i]? = some v) : ∃ A B, rpsC ps vs = A ++ (prodC p v ++ B) ∧ A.length = i * 6 := by
  have h := rpsL_at hp hv
  obtain ⟨hi, he⟩ := List.getElem?_eq_some_iff.1 h
  refine ⟨((rpsL ps vs).take i).flatten, ((rpsL ps vs).drop (i + 1)).flatten, ?_, ?_⟩
  · unfold rpsC
    conv => lhs; rw [← List.take_append_drop i (rpsL ps vs), List.drop_eq_getElem_cons hi, he]
    simp
  · rw [flat_lt (sz := 6) (fun c hc => rpsL_6 ps vs c (List.mem_of_mem_take hc)), List.length_take]
    omega
/-- Marks that decide are the marks that are there. -/
def DecOk (c : CoS) : Prop := ∀ m : Mark, m.kind ≠ 1 → (m ∈ c.decided ↔ m ∈ c.marks)
abbrev clE (x nb : Nat) (K : Int) (j : Nat) : Env := [(0, vp x 0), (3, vp nb 0), (5, vi K), (7, vi j)]
abbrev clL (x nb : Nat) (c : CoS) (o : Go.Proofs.YtccgdnocldmjeaaGreatDoor.Op) (m : RfM) : List HP := cel nb 38 (opC o) :: rfX x c m
theorem marks_cut {ms : List Mark} {i : Nat} {m : Mark} (h : ms[i]? = some m) : (ms.map markC).flatten = ((ms.take i).map markC).flatten ++ (markC m ++ ((ms.drop (i + 1)).map markC).flatten) := by
  obtain ⟨hi, he⟩ := List.getElem?_eq_some_iff.1 h
  conv => lhs; rw [← List.take_append_drop i ms, List.drop_eq_getElem_cons hi, he]
  simp
theorem ends_shut {x : Nat} {c : CoS} {l : List HP} {pv mv dv : Value} {i : Nat} {p : Prod} {K : Int} {vs' : List Value} {n : Nat} (hn : n = c.prods.length) :
    Gh (cel x 31 (rcC pv mv dv c.now) :: rowA 92 6 pv n (rpsC (c.prods.set i { p with opn := false, parts := [] }) vs') :: markA mv (c.marks ++ [(⟨K, i, p.epoch, p.last⟩ : Mark)]) :: rdA dv c.answers :: fz (fun g => RdPs g (c.prods.set i { p with opn := false, parts := [] }) vs') :: l) (rfA x (c.decide i p K) :: l) := by
  subst hn
  have h := rfA_shut (l := l) (x := x) (c := c.decide i p K) ⟨pv, mv, dv, vs'⟩
  simp only [CoS.decide, List.length_set] at h
  exact h
theorem kindOf_ne (cm : Bool) : kindOf cm ≠ 1 := by cases cm <;> decide
theorem rclose_ok (x : Nat) (c : CoS) (o : Go.Proofs.YtccgdnocldmjeaaGreatDoor.Op) (i : Nat) (p : Prod) (ho : o.producer = i) (hp : c.prods[i]? = some p) (hd : DecOk c) (hm : c.marks.length ≤ 100000) :
    Trip Tryz.prog 39 [vp x 0, .agg (opC o).toArray] [rfA x c] (fun r l => r = vi (c.ends o i p).1 ∧ l = [rfA x (c.ends o i p).2.2]) := by
  have hi : i < c.prods.length := (List.getElem?_eq_some_iff.1 hp).1
  have hi' : (i : Int) < c.prods.length := by omega
  obtain ⟨k0, cl, sq, nm, pr, ep, tx, pa, cm⟩ := o
  simp only at ho
  subst ho
  refine Trip.ghE rfA_open ?_
  rintro ⟨pv, mv, dv, vs⟩ hvl
  simp only [rfX, List.cons_append, List.nil_append] at hvl ⊢
  obtain ⟨v, hv⟩ : ∃ v, vs[i]? = some v := ⟨vs[i]'(by omega), List.getElem?_eq_getElem (by omega)⟩
  refine Trip.get (Pk.next Pk.here) (fun r => rowA_at i hi) ?_
  rintro ⟨pb, po, pc, rfl⟩
  refine Trip.get (Pk.next (Pk.next (Pk.next (Pk.next Pk.here)))) (ps_shape hp hv) ?_
  rintro ⟨va, vc, rfl⟩
  obtain ⟨A, B, f1, f2⟩ := rps_cut hp hv
  refine Trip.get (Pk.next (Pk.next Pk.here)) (fun r => rowA_shape) ?_
  rintro ⟨ma, mc, rfl⟩
  have hm' : c.marks.length ≤ 1000000 := by omega
  have s1 := fun kind => rend_op x (.slice (some ⟨pb, po, none⟩) c.prods.length pc) (.slice ma c.marks.length mc) dv c.now c.prods vs c.marks kind i p _ hp hv hvl hm'
  refine Trip.of_body Tryz.func39 rfl Tryz.ntmps39 Tryz.results39 rfl ?_
  refine Wsr ?_
  (refine WpL.step (Stp.boxV rfl (VC.ag _) rfl ?_); intro nb2)
  refine Ls (Rdo.assign rfl) (Lnt (Wsr (Ls (Rdo.assign rfl) (Lnt (Wp.seq (Wsr (Ls (Rdo.fieldAddr0 rfl) (Ls (Rdo.load rfl (Lds.one rfl)) (Lnt ?_)))))))))
  refine Wp.mono (Q := fun x' e' l' => x' = .normal ∧ EnvSub [(0, vp x 0), (3, vp nb2 0), (5, vi (kindOf cm))] e' ∧ Gh l' (cel nb2 38 (opC ⟨k0, cl, sq, nm, i, ep, tx, pa, cm⟩) :: rfX x c ⟨.slice (some ⟨pb, po, none⟩) c.prods.length pc, .slice ma c.marks.length mc, dv, vs⟩)) ?_ ?_
  · cases cm
    · refine Wp.condF rfl ?_
      refine Wp.skip ?_
      exact ⟨rfl, (by repeat (first | exact trivial | refine ⟨rfl, ?_⟩)), Gk⟩
    · refine Wp.condT rfl ?_
      refine Wp.region (Ls (Rdo.assign rfl) (WpL.nil ?_))
      exact ⟨rfl, (by repeat (first | exact trivial | refine ⟨rfl, ?_⟩)), Gk⟩
  · rintro x' e' l' ⟨rfl, he, hg⟩
    refine Thn.n (Wp.gh hg (Wp.sub he ?_))
    have s1 := s1 (kindOf cm)
    have hK := kindOf_ne cm
    simp only [rfX]
    unfold CoS.ends
    simp only
    generalize kindOf cm = K at *
    by_cases hop : p.opn = true ∧ tx = p.last
    · rw [if_pos hop]
      obtain ⟨h1, h2⟩ := hop
      refine Wp.seq ?_
      refine Wp.draw (by kernel_rfl) ?_
      refine Qt (i := 0) rfl (Rdo.move rfl) (Qt (i := 1) rfl (Rdo.nilCheck rfl) (Qt (i := 2) rfl (Rdo.fieldAddr0 rfl) (Qt (i := 4) rfl (Rdo.fieldAddr0 rfl) ?_)))
      refine WpR.load (i := 3) [5, 8] rfl (by kernel_rfl) (by kernel_rfl) (by kernel_rfl) (by kernel_rfl) (by kernel_rfl) rfl Tk.rfl_ (Harm.rd rfl (Rdo.load rfl (Lds.one rfl)) (Harm.al rfl inferInstance Harm.nil)) (Rdo.load rfl (Lds.next (Lds.one rfl))) rfl ?_
      refine WpR.load (i := 5) [8] rfl (by kernel_rfl) (by kernel_rfl) (by kernel_rfl) (by kernel_rfl) (by kernel_rfl) rfl Tk.rfl_ (Harm.al rfl inferInstance Harm.nil) (Rdo.load rfl (Lds.one rfl)) rfl ?_
      refine Qt (i := 6) rfl (Rdo.indexSlice rfl rfl (by omega)) ?_
      refine WpR.load (i := 7) [8] rfl (by kernel_rfl) (by kernel_rfl) (by kernel_rfl) (by kernel_rfl) (by kernel_rfl) rfl Tk.rfl_ (Harm.al rfl inferInstance Harm.nil) (Rdo.load rfl (Lds.next (Lds.next (Lds.row (by assumption) (by first | assumption | omega | (simp <;> omega)) (by first | assumption | rfl))))) rfl ?_
      (refine Qo (i := 8) rfl (Stp.alloc rfl ?_); intro nb10)
      refine Qo (i := 9) rfl (St rfl rfl (VC.ag _) ?_)
      refine WpR.done (by kernel_rfl) ?_
      refine Thn.n (Wp.seq (Wsr (Ls (Rdo.fieldAddr0 rfl) (Ls (Rdo.load rfl (Lds.one rfl)) (Ls (Rdo.move rfl) (Lg rfl rfl (Lw rfl rfl (Rdo.fieldAddr0 rfl) (Lw rfl rfl (Rdo.load rfl (Lds.next (Lds.one rfl))) (Lw rfl rfl (Rdo.fieldAddr0 rfl) (Lw rfl rfl (Rdo.load rfl (Lds.one rfl)) (Lw rfl rfl (Rdo.eqi rfl rfl) (Ls (Rdo.pick_t rfl rfl) (Lnt ?_)))))))))))))
      refine cK rfl (Wsr (Ls (Rdo.move rfl) (Ls (Rdo.fieldAddr0 rfl) (Ls (Rdo.load rfl (Lds.next (Lds.one rfl))) (Ls (Rdo.move rfl) ?_)))))
      refine WpL.step (Sc (s1) rfl ?_)
      rintro _ _ ⟨v37_0, ⟨v37_1, ⟨rfl, rfl⟩⟩⟩
      refine Ll ?_
      refine Lnt (Wsr (Ls (Rdo.assign rfl) (Lnt (Wp.ret ?_))))
      refine Thn.r ?_
      exact Ret.now (by repeat (first | exact ResV.nil | apply ResV.tmp rfl | apply ResV.cell rfl (by repeat (first | exact Lds.one rfl | (apply Lds.all; (first | rfl | assumption | (simp <;> fail))) | exact Lds.ione0 | exact Lds.ione rfl | (apply Lds.iall; (first | rfl | assumption | (simp <;> fail))) | apply Lds.next)))) (Gh.trans (Gh.fzImp (Φ := fun g => RdPs g c.prods vs) (Ψ := fun g => RdPs g (c.prods.set i { p with opn := false, parts := [] }) (vs.set i vnil)) (by repeat (first | exact Pk.here | apply Pk.next)) (fun g h => RdPs.cut h rfl)) (Gh.trans Gk (ends_shut (l := []) (x := x) (c := c) (i := i) (p := p) (K := K) (vs' := vs.set i vnil) rfl))) ⟨rfl, rfl⟩
    · rw [if_neg hop]
      by_cases ho : p.opn = true
      · have htx : ¬ tx = p.last := fun h => hop ⟨ho, h⟩
        refine Wp.seq ?_
        refine Wp.draw (by kernel_rfl) ?_
        refine Qt (i := 0) rfl (Rdo.move rfl) (Qt (i := 1) rfl (Rdo.nilCheck rfl) (Qt (i := 2) rfl (Rdo.fieldAddr0 rfl) (Qt (i := 4) rfl (Rdo.fieldAddr0 rfl) ?_)))
        refine WpR.load (i := 3) [5, 8] rfl (by kernel_rfl) (by kernel_rfl) (by kernel_rfl) (by kernel_rfl) (by kernel_rfl) rfl Tk.rfl_ (Harm.rd rfl (Rdo.load rfl (Lds.one rfl)) (Harm.al rfl inferInstance Harm.nil)) (Rdo.load rfl (Lds.next (Lds.one rfl))) rfl ?_
        refine WpR.load (i := 5) [8] rfl (by kernel_rfl) (by kernel_rfl) (by kernel_rfl) (by kernel_rfl) (by kernel_rfl) rfl Tk.rfl_ (Harm.al rfl inferInstance Harm.nil) (Rdo.load rfl (Lds.one rfl)) rfl ?_
        refine Qt (i := 6) rfl (Rdo.indexSlice rfl rfl (by omega)) ?_
        refine WpR.load (i := 7) [8] rfl (by kernel_rfl) (by kernel_rfl) (by kernel_rfl) (by kernel_rfl) (by kernel_rfl) rfl Tk.rfl_ (Harm.al rfl inferInstance Harm.nil) (Rdo.load rfl (Lds.next (Lds.next (Lds.row (by assumption) (by first | assumption | omega | (simp <;> omega)) (by first | assumption | rfl))))) rfl ?_
        (refine Qo (i := 8) rfl (Stp.alloc rfl ?_); intro nb10)
        refine Qo (i := 9) rfl (St rfl rfl (VC.ag _) ?_)
        refine WpR.done (by kernel_rfl) ?_
        refine Thn.n (Wp.seq (Wsr (Ls (Rdo.fieldAddr0 rfl) (Ls (Rdo.load rfl (Lds.one rfl)) (Ls (Rdo.move rfl) (Lg rfl rfl (Lw rfl rfl (Rdo.fieldAddr0 rfl) (Lw rfl rfl (Rdo.load rfl (Lds.next (Lds.one rfl))) (Lw rfl rfl (Rdo.fieldAddr0 rfl) (Lw rfl rfl (Rdo.load rfl (Lds.one rfl)) (Lw rfl rfl (Rdo.eqi rfl rfl) (Ls (Rdo.pick_t rfl rfl) (Lnt ?_)))))))))))))
        refine cL rfl (Wp.skip (Thn.n (Wp.seq (Wsr (Ls (Rdo.assign rfl) (Lnt (Wp.block ?_)))))))
        refine Wp.loopE (fun k e h => ∃ j : Nat, j + k = c.marks.length ∧ (∀ m ∈ c.marks.take j, m ≠ ⟨K, i, ep, tx⟩) ∧ e = clE x nb2 K j ∧ h = clL x nb2 c ⟨k0, cl, sq, nm, i, ep, tx, pa, cm⟩ ⟨.slice (some ⟨pb, po, none⟩) c.prods.length pc, .slice ma c.marks.length mc, dv, vs⟩) c.marks.length
          (e0 := clE x nb2 K 0) (l0 := clL x nb2 c ⟨k0, cl, sq, nm, i, ep, tx, pa, cm⟩ ⟨.slice (some ⟨pb, po, none⟩) c.prods.length pc, .slice ma c.marks.length mc, dv, vs⟩) (by repeat (first | exact trivial | refine ⟨rfl, ?_⟩)) (by repeat (first | exact trivial | refine ⟨rfl, ?_⟩)) Gk ⟨0, by omega, by simp, rfl, rfl⟩ ?_
        rintro k e h ⟨j, hjk, hno, rfl, rfl⟩
        by_cases hj : j < c.marks.length
        · have hj' : (j : Int) < c.marks.length := by omega
          have hM : c.marks[j]? = some c.marks[j] := List.getElem?_eq_getElem hj
          have hmem : c.marks[j] ∈ c.marks := List.getElem_mem hj
          have hsp := marks_cut hM
          have hpl : (((c.marks.take j).map markC).flatten).length = j * 4 := by rw [marksC_length, List.length_take, Nat.min_eq_left (by omega)]
          have htk : c.marks.take (j + 1) = c.marks.take j ++ [c.marks[j]] := by rw [List.take_add_one, hM]; rfl
          generalize c.marks[j] = M at *
          refine Wp.get (Pk.next (Pk.next (Pk.next Pk.here))) (fun r => rowA_at j hj) ?_
          rintro ⟨b1, o1, d1, hv1⟩
          simp only [Value.slice.injEq, true_and] at hv1
          obtain ⟨rfl, rfl⟩ := hv1
          by_cases hMT : M = ⟨K, i, ep, tx⟩
          · have hin : (⟨K, i, ep, tx⟩ : Mark) ∈ c.decided := (hd _ hK).2 (hMT ▸ hmem)
            have hc : markC M = markC ⟨K, i, ep, tx⟩ := by rw [hMT]
            rw [if_pos hin]
            refine Wp.seq (Wsr (Ls (Rdo.move rfl) (Ls (Rdo.move rfl) (Ls (Rdo.nilCheck rfl) (Ls (Rdo.fieldAddr0 rfl) (Ls (Rdo.load rfl (Lds.next (Lds.one rfl))) (Ls (Rdo.lenSlice rfl) (Ls (Rdo.lti rfl rfl) (Lnt (cK rfl (Wp.skip (Thn.n (Wp.seq ?_)))))))))))))
            refine Wp.block (Wp.seq ?_)
            refine Wp.draw (by kernel_rfl) ?_
            refine Qt (i := 0) rfl (Rdo.move rfl) (Qt (i := 1) rfl (Rdo.nilCheck rfl) (Qt (i := 2) rfl (Rdo.fieldAddr0 rfl) (Qt (i := 4) rfl (Rdo.move rfl) (Qt (i := 7) rfl (Rdo.move rfl) (Qt (i := 8) rfl (Rdo.fieldAddr0 rfl) (Qt (i := 10) rfl (Rdo.fieldAddr0 rfl) (Qt (i := 12) rfl (Rdo.fieldAddr0 rfl) ?_)))))))
            refine WpR.phaseL (m := 0) #[true, true, true, true, true, true, true, true, true, true, true, true, true, true, true, true] 8 _ rfl (by kernel_rfl) (Tk.cons Pk.here (Tk.cons Pk.here (Tk.cons (Pk.next Pk.here) Tk.nil))) ?_
            refine At (i := 3) rfl (Rdo.load rfl (Lds.next (Lds.one rfl))) ?_
            refine At (i := 5) rfl (Rdo.indexSlice rfl rfl (by omega)) ?_
            refine At (i := 6) rfl (Rdo.load rfl (Lds.next (Lds.next (Lds.row (by assumption) (by first | assumption | omega | (simp <;> omega)) (by first | assumption | rfl))))) ?_
            refine At (i := 9) rfl (Rdo.load rfl (Lds.one rfl)) (At (i := 11) rfl (Rdo.load rfl (Lds.one rfl)) (At (i := 13) rfl (Rdo.load rfl (Lds.one rfl)) ?_))
            refine At (i := 14) rfl (Rdo.bld rfl (BldL.cons rfl (VC.i _ _) (by first | rfl | assumption | (simp <;> done)) (by repeat (first | exact LPut.nil _ | apply LPut.here | apply LPut.next)) (BldL.cons rfl (VC.i _ _) (by first | rfl | assumption | (simp <;> done)) (by repeat (first | exact LPut.nil _ | apply LPut.here | apply LPut.next)) (BldL.cons rfl (VC.i _ _) (by first | rfl | assumption | (simp <;> done)) (by repeat (first | exact LPut.nil _ | apply LPut.here | apply LPut.next)) (BldL.cons rfl (VC.i _ _) (by first | rfl | assumption | (simp <;> done)) (by repeat (first | exact LPut.nil _ | apply LPut.here | apply LPut.next)) (BldL.nil _)))))) ?_
            refine At (i := 15) rfl (Rdo.eqagg rfl rfl (by first | rfl | exact oks_hc _ | exact oks_voteC _ | assumption) (by first | rfl | exact oks_hc _ | exact oks_voteC _ | assumption)) ?_
            refine WpA.stop (by kernel_rfl) ?_
            refine Ql ?_
            refine WpR.done (by kernel_rfl) ?_
            refine Thn.n (cK rfl (Wsr (Ls (Rdo.assign rfl) (Lnt (Wp.ret ?_)))))
            refine Blk.r ?_
            refine Thn.r ?_
            refine Thn.r ?_
            refine Blk.r ?_
            refine Thn.r ?_
            exact Ret.now (by repeat (first | exact ResV.nil | apply ResV.tmp rfl | apply ResV.cell rfl (by repeat (first | exact Lds.one rfl | (apply Lds.all; (first | rfl | assumption | (simp <;> fail))) | exact Lds.ione0 | exact Lds.ione rfl | (apply Lds.iall; (first | rfl | assumption | (simp <;> fail))) | apply Lds.next)))) (Gh.trans Gk (rfA_shut (l := []) (c := c) ⟨_, _, _, vs⟩)) ⟨rfl, rfl⟩
          · have hc : ¬ markC M = markC ⟨K, i, ep, tx⟩ := fun h => hMT ((markC_inj _ _).1 h)
            refine Wp.seq (Wsr (Ls (Rdo.move rfl) (Ls (Rdo.move rfl) (Ls (Rdo.nilCheck rfl) (Ls (Rdo.fieldAddr0 rfl) (Ls (Rdo.load rfl (Lds.next (Lds.one rfl))) (Ls (Rdo.lenSlice rfl) (Ls (Rdo.lti rfl rfl) (Lnt (cK rfl (Wp.skip (Thn.n (Wp.seq ?_)))))))))))))
            refine Wp.block (Wp.seq ?_)
            refine Wp.draw (by kernel_rfl) ?_
            refine Qt (i := 0) rfl (Rdo.move rfl) (Qt (i := 1) rfl (Rdo.nilCheck rfl) (Qt (i := 2) rfl (Rdo.fieldAddr0 rfl) (Qt (i := 4) rfl (Rdo.move rfl) (Qt (i := 7) rfl (Rdo.move rfl) (Qt (i := 8) rfl (Rdo.fieldAddr0 rfl) (Qt (i := 10) rfl (Rdo.fieldAddr0 rfl) (Qt (i := 12) rfl (Rdo.fieldAddr0 rfl) ?_)))))))
            refine WpR.phaseL (m := 0) #[true, true, true, true, true, true, true, true, true, true, true, true, true, true, true, true] 8 _ rfl (by kernel_rfl) (Tk.cons Pk.here (Tk.cons Pk.here (Tk.cons (Pk.next Pk.here) Tk.nil))) ?_
            refine At (i := 3) rfl (Rdo.load rfl (Lds.next (Lds.one rfl))) ?_
            refine At (i := 5) rfl (Rdo.indexSlice rfl rfl (by omega)) ?_
            refine At (i := 6) rfl (Rdo.load rfl (Lds.next (Lds.next (Lds.row (by assumption) (by first | assumption | omega | (simp <;> omega)) (by first | assumption | rfl))))) ?_
            refine At (i := 9) rfl (Rdo.load rfl (Lds.one rfl)) (At (i := 11) rfl (Rdo.load rfl (Lds.one rfl)) (At (i := 13) rfl (Rdo.load rfl (Lds.one rfl)) ?_))
            refine At (i := 14) rfl (Rdo.bld rfl (BldL.cons rfl (VC.i _ _) (by first | rfl | assumption | (simp <;> done)) (by repeat (first | exact LPut.nil _ | apply LPut.here | apply LPut.next)) (BldL.cons rfl (VC.i _ _) (by first | rfl | assumption | (simp <;> done)) (by repeat (first | exact LPut.nil _ | apply LPut.here | apply LPut.next)) (BldL.cons rfl (VC.i _ _) (by first | rfl | assumption | (simp <;> done)) (by repeat (first | exact LPut.nil _ | apply LPut.here | apply LPut.next)) (BldL.cons rfl (VC.i _ _) (by first | rfl | assumption | (simp <;> done)) (by repeat (first | exact LPut.nil _ | apply LPut.here | apply LPut.next)) (BldL.nil _)))))) ?_
            refine At (i := 15) rfl (Rdo.eqagg rfl rfl (by first | rfl | exact oks_hc _ | exact oks_voteC _ | assumption) (by first | rfl | exact oks_hc _ | exact oks_voteC _ | assumption)) ?_
            refine WpA.stop (by kernel_rfl) ?_
            refine Ql ?_
            refine WpR.done (by kernel_rfl) ?_
            refine Thn.n (cL rfl (Wp.skip (Blk.n (Thn.n (Wp.region (Ls (Rdo.move rfl) ?_))))))
            refine Ls (Rdo.succ rfl rfl (by omega)) ?_
            refine Ls (Rdo.assign rfl) (Lnt ?_)
            refine ⟨k - 1, _, _, by omega, ⟨j + 1, by omega, ?_, rfl, rfl⟩, (by repeat (first | exact trivial | refine ⟨rfl, ?_⟩)), Gk⟩
            intro m hm
            rw [htk] at hm
            rcases List.mem_append.1 hm with hm | hm
            · exact hno m hm
            · rw [List.mem_singleton.1 hm]
              exact hMT
        · have hall : c.marks.take j = c.marks := List.take_of_length_le (by omega)
          rw [hall] at hno
          have hout : ¬ (⟨K, i, ep, tx⟩ : Mark) ∈ c.decided := fun h => hno _ ((hd _ hK).1 h) rfl
          rw [if_neg hout]
          refine Wp.seq (Wsr (Ls (Rdo.move rfl) (Ls (Rdo.move rfl) (Ls (Rdo.nilCheck rfl) (Ls (Rdo.fieldAddr0 rfl) (Ls (Rdo.load rfl (Lds.next (Lds.one rfl))) (Ls (Rdo.lenSlice rfl) (Ls (Rdo.lti rfl rfl) (Lnt (cL rfl ?_))))))))))
          refine Wp.exit ?_
          refine Thn.x ?_
          refine Thn.x ?_
          refine Blk.here ?_
          refine Thn.n (Wsr (Ls (Rdo.assign rfl) (Lnt (Wp.ret ?_))))
          exact Ret.now (by repeat (first | exact ResV.nil | apply ResV.tmp rfl | apply ResV.cell rfl (by repeat (first | exact Lds.one rfl | (apply Lds.all; (first | rfl | assumption | (simp <;> fail))) | exact Lds.ione0 | exact Lds.ione rfl | (apply Lds.iall; (first | rfl | assumption | (simp <;> fail))) | apply Lds.next)))) (Gh.trans Gk (rfA_shut (l := []) (c := c) ⟨_, _, _, vs⟩)) ⟨rfl, rfl⟩
      · have ho' : p.opn = false := by simpa using ho
        refine Wp.seq ?_
        refine Wp.draw (by kernel_rfl) ?_
        refine Qt (i := 0) rfl (Rdo.move rfl) (Qt (i := 1) rfl (Rdo.nilCheck rfl) (Qt (i := 2) rfl (Rdo.fieldAddr0 rfl) (Qt (i := 4) rfl (Rdo.fieldAddr0 rfl) ?_)))
        refine WpR.load (i := 3) [5, 8] rfl (by kernel_rfl) (by kernel_rfl) (by kernel_rfl) (by kernel_rfl) (by kernel_rfl) rfl Tk.rfl_ (Harm.rd rfl (Rdo.load rfl (Lds.one rfl)) (Harm.al rfl inferInstance Harm.nil)) (Rdo.load rfl (Lds.next (Lds.one rfl))) rfl ?_
        refine WpR.load (i := 5) [8] rfl (by kernel_rfl) (by kernel_rfl) (by kernel_rfl) (by kernel_rfl) (by kernel_rfl) rfl Tk.rfl_ (Harm.al rfl inferInstance Harm.nil) (Rdo.load rfl (Lds.one rfl)) rfl ?_
        refine Qt (i := 6) rfl (Rdo.indexSlice rfl rfl (by omega)) ?_
        refine WpR.load (i := 7) [8] rfl (by kernel_rfl) (by kernel_rfl) (by kernel_rfl) (by kernel_rfl) (by kernel_rfl) rfl Tk.rfl_ (Harm.al rfl inferInstance Harm.nil) (Rdo.load rfl (Lds.next (Lds.next (Lds.row (by assumption) (by first | assumption | omega | (simp <;> omega)) (by first | assumption | rfl))))) rfl ?_
        (refine Qo (i := 8) rfl (Stp.alloc rfl ?_); intro nb10)
        refine Qo (i := 9) rfl (St rfl rfl (VC.ag _) ?_)
        refine WpR.done (by kernel_rfl) ?_
        refine Thn.n (Wp.seq (Wsr (Ls (Rdo.fieldAddr0 rfl) (Ls (Rdo.load rfl (Lds.one rfl)) (Ls (Rdo.move rfl) (Lf rfl rfl (Lp rfl rfl (Lp rfl rfl (Lp rfl rfl (Lp rfl rfl (Lp rfl rfl (Ls (Rdo.pick_f rfl rfl) (Lnt ?_)))))))))))))
        refine Wp.condF rfl ?_
        refine Wp.skip (Thn.n (Wp.seq (Wsr (Ls (Rdo.assign rfl) (Lnt (Wp.block ?_))))))
        refine Wp.loopE (fun k e h => ∃ j : Nat, j + k = c.marks.length ∧ (∀ m ∈ c.marks.take j, m ≠ ⟨K, i, ep, tx⟩) ∧ e = clE x nb2 K j ∧ h = clL x nb2 c ⟨k0, cl, sq, nm, i, ep, tx, pa, cm⟩ ⟨.slice (some ⟨pb, po, none⟩) c.prods.length pc, .slice ma c.marks.length mc, dv, vs⟩) c.marks.length
          (e0 := clE x nb2 K 0) (l0 := clL x nb2 c ⟨k0, cl, sq, nm, i, ep, tx, pa, cm⟩ ⟨.slice (some ⟨pb, po, none⟩) c.prods.length pc, .slice ma c.marks.length mc, dv, vs⟩) (by repeat (first | exact trivial | refine ⟨rfl, ?_⟩)) (by repeat (first | exact trivial | refine ⟨rfl, ?_⟩)) Gk ⟨0, by omega, by simp, rfl, rfl⟩ ?_
        rintro k e h ⟨j, hjk, hno, rfl, rfl⟩
        by_cases hj : j < c.marks.length
        · have hj' : (j : Int) < c.marks.length := by omega
          have hM : c.marks[j]? = some c.marks[j] := List.getElem?_eq_getElem hj
          have hmem : c.marks[j] ∈ c.marks := List.getElem_mem hj
          have hsp := marks_cut hM
          have hpl : (((c.marks.take j).map markC).flatten).length = j * 4 := by rw [marksC_length, List.length_take, Nat.min_eq_left (by omega)]
          have htk : c.marks.take (j + 1) = c.marks.take j ++ [c.marks[j]] := by rw [List.take_add_one, hM]; rfl
          generalize c.marks[j] = M at *
          refine Wp.get (Pk.next (Pk.next (Pk.next Pk.here))) (fun r => rowA_at j hj) ?_
          rintro ⟨b1, o1, d1, hv1⟩
          simp only [Value.slice.injEq, true_and] at hv1
          obtain ⟨rfl, rfl⟩ := hv1
          by_cases hMT : M = ⟨K, i, ep, tx⟩
          · have hin : (⟨K, i, ep, tx⟩ : Mark) ∈ c.decided := (hd _ hK).2 (hMT ▸ hmem)
            have hc : markC M = markC ⟨K, i, ep, tx⟩ := by rw [hMT]
            rw [if_pos hin]
            refine Wp.seq (Wsr (Ls (Rdo.move rfl) (Ls (Rdo.move rfl) (Ls (Rdo.nilCheck rfl) (Ls (Rdo.fieldAddr0 rfl) (Ls (Rdo.load rfl (Lds.next (Lds.one rfl))) (Ls (Rdo.lenSlice rfl) (Ls (Rdo.lti rfl rfl) (Lnt (cK rfl (Wp.skip (Thn.n (Wp.seq ?_)))))))))))))
            refine Wp.block (Wp.seq ?_)
            refine Wp.draw (by kernel_rfl) ?_
            refine Qt (i := 0) rfl (Rdo.move rfl) (Qt (i := 1) rfl (Rdo.nilCheck rfl) (Qt (i := 2) rfl (Rdo.fieldAddr0 rfl) (Qt (i := 4) rfl (Rdo.move rfl) (Qt (i := 7) rfl (Rdo.move rfl) (Qt (i := 8) rfl (Rdo.fieldAddr0 rfl) (Qt (i := 10) rfl (Rdo.fieldAddr0 rfl) (Qt (i := 12) rfl (Rdo.fieldAddr0 rfl) ?_)))))))
            refine WpR.phaseL (m := 0) #[true, true, true, true, true, true, true, true, true, true, true, true, true, true, true, true] 8 _ rfl (by kernel_rfl) (Tk.cons Pk.here (Tk.cons Pk.here (Tk.cons (Pk.next Pk.here) Tk.nil))) ?_
            refine At (i := 3) rfl (Rdo.load rfl (Lds.next (Lds.one rfl))) ?_
            refine At (i := 5) rfl (Rdo.indexSlice rfl rfl (by omega)) ?_
            refine At (i := 6) rfl (Rdo.load rfl (Lds.next (Lds.next (Lds.row (by assumption) (by first | assumption | omega | (simp <;> omega)) (by first | assumption | rfl))))) ?_
            refine At (i := 9) rfl (Rdo.load rfl (Lds.one rfl)) (At (i := 11) rfl (Rdo.load rfl (Lds.one rfl)) (At (i := 13) rfl (Rdo.load rfl (Lds.one rfl)) ?_))
            refine At (i := 14) rfl (Rdo.bld rfl (BldL.cons rfl (VC.i _ _) (by first | rfl | assumption | (simp <;> done)) (by repeat (first | exact LPut.nil _ | apply LPut.here | apply LPut.next)) (BldL.cons rfl (VC.i _ _) (by first | rfl | assumption | (simp <;> done)) (by repeat (first | exact LPut.nil _ | apply LPut.here | apply LPut.next)) (BldL.cons rfl (VC.i _ _) (by first | rfl | assumption | (simp <;> done)) (by repeat (first | exact LPut.nil _ | apply LPut.here | apply LPut.next)) (BldL.cons rfl (VC.i _ _) (by first | rfl | assumption | (simp <;> done)) (by repeat (first | exact LPut.nil _ | apply LPut.here | apply LPut.next)) (BldL.nil _)))))) ?_
            refine At (i := 15) rfl (Rdo.eqagg rfl rfl (by first | rfl | exact oks_hc _ | exact oks_voteC _ | assumption) (by first | rfl | exact oks_hc _ | exact oks_voteC _ | assumption)) ?_
            refine WpA.stop (by kernel_rfl) ?_
            refine Ql ?_
            refine WpR.done (by kernel_rfl) ?_
            refine Thn.n (cK rfl (Wsr (Ls (Rdo.assign rfl) (Lnt (Wp.ret ?_)))))
            refine Blk.r ?_
            refine Thn.r ?_
            refine Thn.r ?_
            refine Blk.r ?_
            refine Thn.r ?_
            exact Ret.now (by repeat (first | exact ResV.nil | apply ResV.tmp rfl | apply ResV.cell rfl (by repeat (first | exact Lds.one rfl | (apply Lds.all; (first | rfl | assumption | (simp <;> fail))) | exact Lds.ione0 | exact Lds.ione rfl | (apply Lds.iall; (first | rfl | assumption | (simp <;> fail))) | apply Lds.next)))) (Gh.trans Gk (rfA_shut (l := []) (c := c) ⟨_, _, _, vs⟩)) ⟨rfl, rfl⟩
          · have hc : ¬ markC M = markC ⟨K, i, ep, tx⟩ := fun h => hMT ((markC_inj _ _).1 h)
            refine Wp.seq (Wsr (Ls (Rdo.move rfl) (Ls (Rdo.move rfl) (Ls (Rdo.nilCheck rfl) (Ls (Rdo.fieldAddr0 rfl) (Ls (Rdo.load rfl (Lds.next (Lds.one rfl))) (Ls (Rdo.lenSlice rfl) (Ls (Rdo.lti rfl rfl) (Lnt (cK rfl (Wp.skip (Thn.n (Wp.seq ?_)))))))))))))
            refine Wp.block (Wp.seq ?_)
            refine Wp.draw (by kernel_rfl) ?_
            refine Qt (i := 0) rfl (Rdo.move rfl) (Qt (i := 1) rfl (Rdo.nilCheck rfl) (Qt (i := 2) rfl (Rdo.fieldAddr0 rfl) (Qt (i := 4) rfl (Rdo.move rfl) (Qt (i := 7) rfl (Rdo.move rfl) (Qt (i := 8) rfl (Rdo.fieldAddr0 rfl) (Qt (i := 10) rfl (Rdo.fieldAddr0 rfl) (Qt (i := 12) rfl (Rdo.fieldAddr0 rfl) ?_)))))))
            refine WpR.phaseL (m := 0) #[true, true, true, true, true, true, true, true, true, true, true, true, true, true, true, true] 8 _ rfl (by kernel_rfl) (Tk.cons Pk.here (Tk.cons Pk.here (Tk.cons (Pk.next Pk.here) Tk.nil))) ?_
            refine At (i := 3) rfl (Rdo.load rfl (Lds.next (Lds.one rfl))) ?_
            refine At (i := 5) rfl (Rdo.indexSlice rfl rfl (by omega)) ?_
            refine At (i := 6) rfl (Rdo.load rfl (Lds.next (Lds.next (Lds.row (by assumption) (by first | assumption | omega | (simp <;> omega)) (by first | assumption | rfl))))) ?_
            refine At (i := 9) rfl (Rdo.load rfl (Lds.one rfl)) (At (i := 11) rfl (Rdo.load rfl (Lds.one rfl)) (At (i := 13) rfl (Rdo.load rfl (Lds.one rfl)) ?_))
            refine At (i := 14) rfl (Rdo.bld rfl (BldL.cons rfl (VC.i _ _) (by first | rfl | assumption | (simp <;> done)) (by repeat (first | exact LPut.nil _ | apply LPut.here | apply LPut.next)) (BldL.cons rfl (VC.i _ _) (by first | rfl | assumption | (simp <;> done)) (by repeat (first | exact LPut.nil _ | apply LPut.here | apply LPut.next)) (BldL.cons rfl (VC.i _ _) (by first | rfl | assumption | (simp <;> done)) (by repeat (first | exact LPut.nil _ | apply LPut.here | apply LPut.next)) (BldL.cons rfl (VC.i _ _) (by first | rfl | assumption | (simp <;> done)) (by repeat (first | exact LPut.nil _ | apply LPut.here | apply LPut.next)) (BldL.nil _)))))) ?_
            refine At (i := 15) rfl (Rdo.eqagg rfl rfl (by first | rfl | exact oks_hc _ | exact oks_voteC _ | assumption) (by first | rfl | exact oks_hc _ | exact oks_voteC _ | assumption)) ?_
            refine WpA.stop (by kernel_rfl) ?_
            refine Ql ?_
            refine WpR.done (by kernel_rfl) ?_
            refine Thn.n (cL rfl (Wp.skip (Blk.n (Thn.n (Wp.region (Ls (Rdo.move rfl) ?_))))))
            refine Ls (Rdo.succ rfl rfl (by omega)) ?_
            refine Ls (Rdo.assign rfl) (Lnt ?_)
            refine ⟨k - 1, _, _, by omega, ⟨j + 1, by omega, ?_, rfl, rfl⟩, (by repeat (first | exact trivial | refine ⟨rfl, ?_⟩)), Gk⟩
            intro m hm
            rw [htk] at hm
            rcases List.mem_append.1 hm with hm | hm
            · exact hno m hm
            · rw [List.mem_singleton.1 hm]
              exact hMT
        · have hall : c.marks.take j = c.marks := List.take_of_length_le (by omega)
          rw [hall] at hno
          have hout : ¬ (⟨K, i, ep, tx⟩ : Mark) ∈ c.decided := fun h => hno _ ((hd _ hK).1 h) rfl
          rw [if_neg hout]
          refine Wp.seq (Wsr (Ls (Rdo.move rfl) (Ls (Rdo.move rfl) (Ls (Rdo.nilCheck rfl) (Ls (Rdo.fieldAddr0 rfl) (Ls (Rdo.load rfl (Lds.next (Lds.one rfl))) (Ls (Rdo.lenSlice rfl) (Ls (Rdo.lti rfl rfl) (Lnt (cL rfl ?_))))))))))
          refine Wp.exit ?_
          refine Thn.x ?_
          refine Thn.x ?_
          refine Blk.here ?_
          refine Thn.n (Wsr (Ls (Rdo.assign rfl) (Lnt (Wp.ret ?_))))
          exact Ret.now (by repeat (first | exact ResV.nil | apply ResV.tmp rfl | apply ResV.cell rfl (by repeat (first | exact Lds.one rfl | (apply Lds.all; (first | rfl | assumption | (simp <;> fail))) | exact Lds.ione0 | exact Lds.ione rfl | (apply Lds.iall; (first | rfl | assumption | (simp <;> fail))) | apply Lds.next)))) (Gh.trans Gk (rfA_shut (l := []) (c := c) ⟨_, _, _, vs⟩)) ⟨rfl, rfl⟩
end Go.Proofs.YtccgdnocldmjeaaGreatDoor
namespace Go.Proofs.YtccgdnocldmjeaaGreatDoor
open Go
set_option maxHeartbeats 4000000
set_option linter.unusedSimpArgs false
set_option linter.unusedVariables false
set_option maxRecDepth 20000
theorem rps_one {ps : List Prod} {vs : List Value} (r : Res) (h : fz (fun g => RdPs g ps vs) r) : oneCells (rpsC ps vs) := by
  unfold fz at h
  obtain ⟨hl, h⟩ := h
  intro u hu
  obtain ⟨c, hc, hu⟩ := List.mem_flatten.1 hu
  obtain ⟨i, hi, he⟩ := List.mem_iff_getElem.1 hc
  have h1 : i < ps.length := by simp [rpsL] at hi; omega
  have h2 : i < vs.length := by omega
  have h3 := rpsL_at (List.getElem?_eq_getElem h1) (List.getElem?_eq_getElem h2)
  rw [List.getElem?_eq_getElem hi, he] at h3
  obtain ⟨_, a, cp, hv, _⟩ := h i _ _ (List.getElem?_eq_getElem h1) (List.getElem?_eq_getElem h2)
  have h4 := Option.some.inj h3
  rw [h4, hv] at hu
  simp only [prodC, List.mem_cons, List.not_mem_nil, or_false] at hu
  rcases hu with rfl | rfl | rfl | rfl | rfl | rfl <;> rfl
theorem rps_snoc {ps : List Prod} {vs : List Value} (h : vs.length = ps.length) (p : Prod) (v : Value) : rpsC ps vs ++ prodC p v = rpsC (ps ++ [p]) (vs ++ [v]) := by
  unfold rpsC rpsL
  rw [List.zipWith_append h.symm]
  simp
theorem RdPs.snoc {g : FH} {ps : List Prod} {vs : List Value} (h : RdPs g ps vs) {q : Prod} (hq : q.parts = []) : RdPs g (ps ++ [q]) (vs ++ [vnil]) := by
  refine ⟨by simp [h.1], fun j p v hp hv => ?_⟩
  by_cases e : j < ps.length
  · rw [List.getElem?_append_left e] at hp
    rw [List.getElem?_append_left (by rw [h.1]; exact e)] at hv
    exact h.2 j p v hp hv
  · rw [List.getElem?_append_right (by omega)] at hp
    rw [List.getElem?_append_right (by rw [h.1]; omega), h.1] at hv
    obtain ⟨h1, h2⟩ := List.getElem?_eq_some_iff.1 hp
    simp only [List.length_cons, List.length_nil] at h1
    have e0 : j - ps.length = 0 := by omega
    rw [e0] at hp hv
    simp only [List.getElem?_cons_zero, Option.some.injEq] at hp hv
    subst hp hv
    rw [hq]
    exact ⟨rfl, none, 0, rfl, .inl rfl⟩
theorem RdPs.keep {g : FH} {ps : List Prod} {vs : List Value} (h : RdPs g ps vs) {i : Nat} {p q : Prod} (hp : ps[i]? = some p) (hq : q.parts = p.parts) : RdPs g (ps.set i q) vs := by
  refine ⟨by simp [h.1], fun j r v hr hv => ?_⟩
  by_cases e : i = j
  · subst e
    have h1 := (List.getElem?_eq_some_iff.1 hp).1
    rw [List.getElem?_set_self h1] at hr
    cases hr
    rw [hq]
    exact h.2 i p v hp hv
  · rw [List.getElem?_set_ne e] at hr
    exact h.2 j r v hr hv
theorem set_keep {α : Type} {l : List α} {i : Nat} {a : α} (h : l[i]? = some a) : l.set i a = l := by
  obtain ⟨hi, rfl⟩ := List.getElem?_eq_some_iff.1 h
  exact List.set_getElem_self hi
theorem rf_close {x n : Nat} {pv mv dv : Value} {ps : List Prod} {vs : List Value} {ms : List Mark} {ds : List ((Int × Int) × Rep)} {now : Int} {l : List HP} (c' : CoS) (h1 : c'.prods = ps) (h2 : c'.marks = ms) (h3 : c'.answers = ds) (h4 : c'.now = now) (hn : n = ps.length) :
    Gh (cel x 31 (rcC pv mv dv now) :: rowA 92 6 pv n (rpsC ps vs) :: markA mv ms :: rdA dv ds :: fz (fun g => RdPs g ps vs) :: l) (rfA x c' :: l) := by
  subst h1 h2 h3 h4 hn
  exact rfA_shut ⟨pv, mv, dv, vs⟩
theorem nameAt_none {ps : List Prod} {s : List UInt8} (h : ∀ p ∈ ps, p.name ≠ s) : nameAt ps s = none := by
  rw [List.findIdx?_eq_none_iff]
  intro p hp
  simpa using h p hp
theorem nameAt_some {ps : List Prod} {s : List UInt8} {i : Nat} {p : Prod} (hp : ps[i]? = some p) (hs : p.name = s) (h : ∀ q ∈ ps.take i, q.name ≠ s) : nameAt ps s = some i := by
  obtain ⟨hi, he⟩ := List.getElem?_eq_some_iff.1 hp
  rw [List.findIdx?_eq_some_iff_getElem]
  refine ⟨hi, by rw [he]; simpa using hs, fun j hj => ?_⟩
  have : ps[j] ∈ ps.take i := by
    rw [List.mem_take_iff_getElem]
    exact ⟨j, by omega, rfl⟩
  simpa using h _ this
abbrev bgE (x nb : Nat) (s : List UInt8) (j : Nat) : Env := [(0, vp x 0), (1, vs s), (4, vp nb 0), (5, vi j)]
abbrev bgL (x nb : Nat) (c : CoS) (m : RfM) : List HP := cel nb 34 [vi 0, vi 0, vi 0] :: rfX x c m
theorem rbegin_ok (x : Nat) (c : CoS) (s : List UInt8) (h8 : c.prods.length ≤ 8) (hm : c.marks.length ≤ 100000) (hpr : ∀ p ∈ c.prods, 0 ≤ p.epoch ∧ p.epoch ≤ 100) :
    Trip Tryz.prog 36 [vp x 0, vs s] [rfA x c] (fun r l => r = .agg (repC (c.begins s).1).toArray ∧ l = [rfA x (c.begins s).2.2]) := by
  refine Trip.ghE rfA_open ?_
  rintro ⟨pv, mv, dv, vs'⟩ hvl
  simp only [rfX, List.cons_append, List.nil_append] at hvl ⊢
  refine Trip.get (Pk.next Pk.here) (fun r => rowA_shape) ?_
  rintro ⟨pa, pc, rfl⟩
  refine Trip.get (Pk.next (Pk.next (Pk.next (Pk.next Pk.here)))) rps_one ?_
  intro hone
  have hlen := rpsC_len hvl
  refine Trip.of_body Tryz.func36 rfl Tryz.ntmps36 Tryz.results36 rfl ?_
  refine Wsr ?_
  (refine WpL.step (Stp.alloc rfl ?_); intro nb2)
  refine Lnt (Wsr (Ls (Rdo.assign rfl) (Lnt (Wp.seq (Wp.block ?_)))))
  refine Wp.loopE (fun k e h => ∃ j : Nat, j + k = c.prods.length ∧ (∀ q ∈ c.prods.take j, q.name ≠ s) ∧ e = bgE x nb2 s j ∧ h = bgL x nb2 c ⟨.slice pa c.prods.length pc, mv, dv, vs'⟩) c.prods.length
    (e0 := bgE x nb2 s 0) (l0 := bgL x nb2 c ⟨.slice pa c.prods.length pc, mv, dv, vs'⟩) (by repeat (first | exact trivial | refine ⟨rfl, ?_⟩)) (by repeat (first | exact trivial | refine ⟨rfl, ?_⟩)) Gk ⟨0, by omega, by simp, rfl, rfl⟩ ?_
  rintro k e h ⟨j, hjk, hno, rfl, rfl⟩
  by_cases hj : j < c.prods.length
  · have hj' : (j : Int) < c.prods.length := by omega
    have hp : c.prods[j]? = some c.prods[j] := List.getElem?_eq_getElem hj
    have hmem : c.prods[j] ∈ c.prods := List.getElem_mem hj
    have htk : c.prods.take (j + 1) = c.prods.take j ++ [c.prods[j]] := by rw [List.take_add_one, hp]; rfl
    generalize c.prods[j] = p at *
    refine Wp.get (Pk.next (Pk.next Pk.here)) (fun r => rowA_at j hj) ?_
    rintro ⟨pb, po, pc2, hv1⟩
    simp only [Value.slice.injEq, true_and] at hv1
    obtain ⟨rfl, rfl⟩ := hv1
    obtain ⟨v, hv⟩ : ∃ v, vs'[j]? = some v := ⟨vs'[j]'(by omega), List.getElem?_eq_getElem (by omega)⟩
    have f0 := rps_at (f := 0) hp hv rfl
    by_cases hs : p.name = s
    · have hna := nameAt_some hp hs hno
      have hb : c.begins s = c.again j p := by
        unfold CoS.begins
        rw [hna]
        simp only [List.getD_eq_getElem?_getD, hp, Option.getD_some]
      rw [hb]
      unfold CoS.again
      have f1 := rps_at (f := 1) hp hv rfl
      have f3 := rps_at (f := 3) hp hv rfl
      have hpe := hpr p hmem
      clear hb hna hno htk
      by_cases h100 : 100 ≤ p.epoch
      · have h100' : p.epoch ≥ 100 := h100
        rw [if_pos h100]
        refine Wp.seq (Wsr (Ls (Rdo.move rfl) (Ls (Rdo.move rfl) (Ls (Rdo.nilCheck rfl) (Ls (Rdo.fieldAddr0 rfl) (Ls (Rdo.load rfl (Lds.next (Lds.one rfl))) (Ls (Rdo.lenSlice rfl) (Ls (Rdo.lti rfl rfl) (Ls (Rdo.move rfl) (Lg rfl rfl (Lw rfl rfl (Rdo.move rfl) (Lw rfl rfl (Rdo.nilCheck rfl) (Lw rfl rfl (Rdo.fieldAddr0 rfl) ?_)))))))))))))
        refine Lw rfl rfl (Rdo.load rfl (Lds.next (Lds.one rfl))) (Lw rfl rfl (Rdo.move rfl) ?_)
        refine Lw rfl rfl (Rdo.indexSlice rfl rfl (by omega)) ?_
        refine Lw rfl rfl (Rdo.fieldAddr rfl) ?_
        refine Lw rfl rfl (Rdo.load rfl (Lds.next (Lds.next (Lds.rowF (by assumption))))) ?_
        refine Lw rfl rfl (Rdo.move rfl) (Lw rfl rfl (Rdo.neVs rfl rfl) (Ls (Rdo.pick_t rfl rfl) (Lnt (cL rfl ?_))))
        refine Wp.exit ?_
        refine Thn.x ?_
        refine Thn.x ?_
        refine Blk.here ?_
        refine Thn.n (Wp.seq (Wsr (Ls (Rdo.move rfl) (Ls (Rdo.move rfl) (Ls (Rdo.nilCheck rfl) (Ls (Rdo.fieldAddr0 rfl) (Ls (Rdo.load rfl (Lds.next (Lds.one rfl))) (Ls (Rdo.lenSlice rfl) (Ls (Rdo.eqi rfl rfl) (Lnt (cL rfl (Wp.seq (Wsr ?_)))))))))))))
        refine Ls (Rdo.move rfl) (Ls (Rdo.nilCheck rfl) (Ls (Rdo.fieldAddr0 rfl) (Ls (Rdo.load rfl (Lds.next (Lds.one rfl))) (Ls (Rdo.move rfl) ?_))))
        refine Ls (Rdo.indexSlice rfl rfl (by omega)) ?_
        refine Ls (Rdo.fieldAddr rfl) ?_
        refine Ls (Rdo.load rfl (Lds.next (Lds.next (Lds.rowF (by assumption))))) ?_
        refine Ls (Rdo.gei rfl rfl) (Lnt (cK rfl (Wsr ?_)))
        refine Ls (Rdo.bld rfl (BldL.cons rfl (VC.i _ _) (by first | rfl | assumption | (simp <;> done)) (by repeat (first | exact LPut.nil _ | apply LPut.here | apply LPut.next)) (BldL.nil _))) ?_
        refine WpL.step (St rfl rfl (VC.ag _) ?_)
        refine Lnt (Wp.ret ?_)
        refine Thn.r ?_
        refine Thn.r ?_
        exact Ret.now (by repeat (first | exact ResV.nil | apply ResV.tmp rfl | apply ResV.cell rfl (by repeat (first | exact Lds.one rfl | (apply Lds.all; (first | rfl | assumption | (simp <;> fail))) | exact Lds.ione0 | exact Lds.ione rfl | (apply Lds.iall; (first | rfl | assumption | (simp <;> fail))) | apply Lds.next)))) (Gh.trans Gk (rf_close (l := []) c rfl rfl rfl rfl rfl)) ⟨rfl, rfl⟩
      · have h100' : ¬ p.epoch ≥ 100 := h100
        rw [if_neg h100]
        by_cases ho : p.opn = true
        · rw [if_pos ho]
          have s1 := rend_op x (.slice (some ⟨pb, po, none⟩) c.prods.length pc) mv dv c.now c.prods vs' c.marks 3 j p v hp hv hvl (by omega)
          have hp2 := set_self_at hp { p with opn := false, parts := [] }
          have hv2 := set_self_at hv vnil
          have g1 := rps_at (f := 1) hp2 hv2 rfl
          have hL2 := rpsC_len (ps := c.prods.set j { p with opn := false, parts := [] }) (vs := vs'.set j vnil) (by simp [hvl])
          rw [List.length_set] at hL2
          obtain ⟨pB, hpB⟩ : ∃ q : Prod, q = { p with opn := false, parts := [], epoch := p.epoch + 1, last := 0 } := ⟨_, rfl⟩
          have e1 : (rpsC (c.prods.set j { p with opn := false, parts := [] }) (vs'.set j vnil)).set (j * 6 + 1) (vi (p.epoch + 1)) = rpsC (c.prods.set j { p with opn := false, parts := [], epoch := p.epoch + 1 }) (vs'.set j vnil) := by
            rw [rps_set (p' := { p with opn := false, parts := [], epoch := p.epoch + 1 }) (v' := vnil) hp2 hv2 (by omega) rfl, List.set_set, List.set_set]
          have e2 : (rpsC (c.prods.set j { p with opn := false, parts := [], epoch := p.epoch + 1 }) (vs'.set j vnil)).set (j * 6 + 2) (vi 0) = rpsC (c.prods.set j pB) (vs'.set j vnil) := by
            rw [rps_set (p' := pB) (v' := vnil) (set_self_at hp _) (set_self_at hv _) (by omega) (by rw [hpB]; rfl), List.set_set, List.set_set]
          have s2 := fun mv => rmark_op x (.slice (some ⟨pb, po, none⟩) c.prods.length pc) mv dv c.now (c.prods.set j pB) (vs'.set j vnil) (c.marks ++ [⟨3, j, p.epoch, p.last⟩]) 1 0 j pB vnil (set_self_at hp _) (set_self_at hv _) (by simp; omega)
          simp only [List.length_set] at s2
          have g2 := rps_at (f := 1) (set_self_at hp pB) (set_self_at hv vnil) rfl
          have hq : pB.epoch = p.epoch + 1 := by rw [hpB]
          have hq2 : pB.parts = [] := by rw [hpB]
          rw [hq] at s2 g2
          have hcl : ((c.decide j p 3).put j { p with opn := false, parts := [], epoch := p.epoch + 1, last := 0 }).prods = c.prods.set j pB := by simp only [CoS.decide, CoS.put, List.set_set, hpB]
          refine Wp.seq (Wsr (Ls (Rdo.move rfl) (Ls (Rdo.move rfl) (Ls (Rdo.nilCheck rfl) (Ls (Rdo.fieldAddr0 rfl) (Ls (Rdo.load rfl (Lds.next (Lds.one rfl))) (Ls (Rdo.lenSlice rfl) (Ls (Rdo.lti rfl rfl) (Ls (Rdo.move rfl) (Lg rfl rfl (Lw rfl rfl (Rdo.move rfl) (Lw rfl rfl (Rdo.nilCheck rfl) (Lw rfl rfl (Rdo.fieldAddr0 rfl) ?_)))))))))))))
          refine Lw rfl rfl (Rdo.load rfl (Lds.next (Lds.one rfl))) (Lw rfl rfl (Rdo.move rfl) ?_)
          refine Lw rfl rfl (Rdo.indexSlice rfl rfl (by omega)) ?_
          refine Lw rfl rfl (Rdo.fieldAddr rfl) ?_
          refine Lw rfl rfl (Rdo.load rfl (Lds.next (Lds.next (Lds.rowF (by assumption))))) ?_
          refine Lw rfl rfl (Rdo.move rfl) (Lw rfl rfl (Rdo.neVs rfl rfl) (Ls (Rdo.pick_t rfl rfl) (Lnt (cL rfl ?_))))
          refine Wp.exit ?_
          refine Thn.x ?_
          refine Thn.x ?_
          refine Blk.here ?_
          refine Thn.n (Wp.seq (Wsr (Ls (Rdo.move rfl) (Ls (Rdo.move rfl) (Ls (Rdo.nilCheck rfl) (Ls (Rdo.fieldAddr0 rfl) (Ls (Rdo.load rfl (Lds.next (Lds.one rfl))) (Ls (Rdo.lenSlice rfl) (Ls (Rdo.eqi rfl rfl) (Lnt (cL rfl (Wp.seq (Wsr ?_)))))))))))))
          refine Ls (Rdo.move rfl) (Ls (Rdo.nilCheck rfl) (Ls (Rdo.fieldAddr0 rfl) (Ls (Rdo.load rfl (Lds.next (Lds.one rfl))) (Ls (Rdo.move rfl) ?_))))
          refine Ls (Rdo.indexSlice rfl rfl (by omega)) ?_
          refine Ls (Rdo.fieldAddr rfl) ?_
          refine Ls (Rdo.load rfl (Lds.next (Lds.next (Lds.rowF (by assumption))))) ?_
          refine Ls (Rdo.gei rfl rfl) (Lnt (cL rfl (Wp.skip (Thn.n (Wp.seq (Wsr (Ls (Rdo.move rfl) (Ls (Rdo.nilCheck rfl) (Ls (Rdo.fieldAddr0 rfl) (Ls (Rdo.load rfl (Lds.next (Lds.one rfl))) (Ls (Rdo.move rfl) ?_)))))))))))
          refine Ls (Rdo.indexSlice rfl rfl (by omega)) ?_
          refine Ls (Rdo.fieldAddr rfl) ?_
          refine Ls (Rdo.load rfl (Lds.next (Lds.next (Lds.rowF (by assumption))))) ?_
          refine Lnt (cK rfl (Wp.region (Ls (Rdo.move rfl) (Ls (Rdo.move rfl) ?_))))
          refine WpL.step (Sc (s1) rfl ?_)
          rintro _ _ ⟨v79_0, ⟨v79_1, ⟨rfl, rfl⟩⟩⟩
          refine Ll ?_
          refine Lnt (Wsr (Ls (Rdo.move rfl) (Ls (Rdo.nilCheck rfl) (Ls (Rdo.fieldAddr0 rfl) (Ls (Rdo.load rfl (Lds.one rfl)) (Ls (Rdo.move rfl) ?_))))))
          refine Ls (Rdo.indexSlice rfl rfl (by omega)) ?_
          refine Ls (Rdo.fieldAddr rfl) ?_
          refine Ls (Rdo.load rfl (Lds.next (Lds.rowF (by assumption)))) ?_
          refine Ls (Rdo.add64 rfl rfl (by first | omega | (dsimp only; omega))) ?_
          refine Ls (Rdo.indexSlice rfl rfl (by omega)) ?_
          refine Ls (Rdo.fieldAddr rfl) ?_
          refine WpL.step (St rfl rfl (VC.i _ _) ?_)
          refine Lnt (Wp.region (Ls (Rdo.move rfl) (Ls (Rdo.nilCheck rfl) (Ls (Rdo.fieldAddr0 rfl) (Ls (Rdo.load rfl (Lds.one rfl)) (Ls (Rdo.move rfl) ?_))))))
          refine Ls (Rdo.indexSlice rfl rfl (by omega)) ?_
          refine Ls (Rdo.fieldAddr rfl) ?_
          refine WpL.step (St rfl rfl (VC.i _ _) ?_)
          refine Lnt (Wsr (Ls (Rdo.move rfl) (Ls (Rdo.move rfl) ?_)))
          rw [e1, e2]
          refine WpL.step (Sc (s2 _) rfl ?_)
          rintro _ _ ⟨v1_0, ⟨v1_1, ⟨rfl, rfl⟩⟩⟩
          refine Ll ?_
          refine Lnt (Wsr (Ls (Rdo.move rfl) (Ls (Rdo.move rfl) (Ls (Rdo.nilCheck rfl) (Ls (Rdo.fieldAddr0 rfl) (Ls (Rdo.load rfl (Lds.one rfl)) (Ls (Rdo.move rfl) ?_)))))))
          refine Ls (Rdo.indexSlice rfl rfl (by omega)) ?_
          refine Ls (Rdo.fieldAddr rfl) ?_
          refine Ls (Rdo.load rfl (Lds.next (Lds.rowF (by assumption)))) ?_
          refine Ls (Rdo.bld rfl (BldL.cons rfl (VC.i _ _) (by first | rfl | assumption | (simp <;> done)) (by repeat (first | exact LPut.nil _ | apply LPut.here | apply LPut.next)) (BldL.cons rfl (VC.i _ _) (by first | rfl | assumption | (simp <;> done)) (by repeat (first | exact LPut.nil _ | apply LPut.here | apply LPut.next)) (BldL.nil _)))) ?_
          refine WpL.step (St rfl rfl (VC.ag _) ?_)
          refine Lnt (Wp.ret ?_)
          exact Ret.now (by repeat (first | exact ResV.nil | apply ResV.tmp rfl | apply ResV.cell rfl (by repeat (first | exact Lds.one rfl | (apply Lds.all; (first | rfl | assumption | (simp <;> fail))) | exact Lds.ione0 | exact Lds.ione rfl | (apply Lds.iall; (first | rfl | assumption | (simp <;> fail))) | apply Lds.next)))) (Gh.trans (Gh.fzImp (Φ := fun g => RdPs g c.prods vs') (Ψ := fun g => RdPs g (c.prods.set j pB) (vs'.set j vnil)) (by repeat (first | exact Pk.here | apply Pk.next)) (fun g h => RdPs.cut h hq2)) (Gh.trans Gk (rf_close (l := []) (((c.decide j p 3).put j { p with opn := false, parts := [], epoch := p.epoch + 1, last := 0 }).lay ⟨1, j, p.epoch + 1, 0⟩) hcl rfl rfl rfl (by rw [List.length_set])))) ⟨rfl, rfl⟩
        · have ho' : p.opn = false := by simpa using ho
          rw [if_neg ho]
          obtain ⟨pB, hpB⟩ : ∃ q : Prod, q = { p with epoch := p.epoch + 1, last := 0 } := ⟨_, rfl⟩
          have e1 : (rpsC c.prods vs').set (j * 6 + 1) (vi (p.epoch + 1)) = rpsC (c.prods.set j { p with epoch := p.epoch + 1 }) vs' := by
            rw [rps_set (p' := { p with epoch := p.epoch + 1 }) (v' := v) hp hv (by omega) rfl, set_keep hv]
          have e2 : (rpsC (c.prods.set j { p with epoch := p.epoch + 1 }) vs').set (j * 6 + 2) (vi 0) = rpsC (c.prods.set j pB) vs' := by
            rw [rps_set (p' := pB) (v' := v) (set_self_at hp _) hv (by omega) (by rw [hpB]; rfl), List.set_set, set_keep hv]
          have s2 := rmark_op x (.slice (some ⟨pb, po, none⟩) c.prods.length pc) mv dv c.now (c.prods.set j pB) vs' c.marks 1 0 j pB v (set_self_at hp _) hv (by omega)
          simp only [List.length_set] at s2
          have g2 := rps_at (f := 1) (set_self_at hp pB) hv rfl
          have hq : pB.epoch = p.epoch + 1 := by rw [hpB]
          have hq2 : pB.parts = p.parts := by rw [hpB]
          rw [hq] at s2 g2
          have hcl : (c.put j { p with epoch := p.epoch + 1, last := 0 }).prods = c.prods.set j pB := by simp only [CoS.put, hpB]
          refine Wp.seq (Wsr (Ls (Rdo.move rfl) (Ls (Rdo.move rfl) (Ls (Rdo.nilCheck rfl) (Ls (Rdo.fieldAddr0 rfl) (Ls (Rdo.load rfl (Lds.next (Lds.one rfl))) (Ls (Rdo.lenSlice rfl) (Ls (Rdo.lti rfl rfl) (Ls (Rdo.move rfl) (Lg rfl rfl (Lw rfl rfl (Rdo.move rfl) (Lw rfl rfl (Rdo.nilCheck rfl) (Lw rfl rfl (Rdo.fieldAddr0 rfl) ?_)))))))))))))
          refine Lw rfl rfl (Rdo.load rfl (Lds.next (Lds.one rfl))) (Lw rfl rfl (Rdo.move rfl) ?_)
          refine Lw rfl rfl (Rdo.indexSlice rfl rfl (by omega)) ?_
          refine Lw rfl rfl (Rdo.fieldAddr rfl) ?_
          refine Lw rfl rfl (Rdo.load rfl (Lds.next (Lds.next (Lds.rowF (by assumption))))) ?_
          refine Lw rfl rfl (Rdo.move rfl) (Lw rfl rfl (Rdo.neVs rfl rfl) (Ls (Rdo.pick_t rfl rfl) (Lnt (cL rfl ?_))))
          refine Wp.exit ?_
          refine Thn.x ?_
          refine Thn.x ?_
          refine Blk.here ?_
          refine Thn.n (Wp.seq (Wsr (Ls (Rdo.move rfl) (Ls (Rdo.move rfl) (Ls (Rdo.nilCheck rfl) (Ls (Rdo.fieldAddr0 rfl) (Ls (Rdo.load rfl (Lds.next (Lds.one rfl))) (Ls (Rdo.lenSlice rfl) (Ls (Rdo.eqi rfl rfl) (Lnt (cL rfl (Wp.seq (Wsr ?_)))))))))))))
          refine Ls (Rdo.move rfl) (Ls (Rdo.nilCheck rfl) (Ls (Rdo.fieldAddr0 rfl) (Ls (Rdo.load rfl (Lds.next (Lds.one rfl))) (Ls (Rdo.move rfl) ?_))))
          refine Ls (Rdo.indexSlice rfl rfl (by omega)) ?_
          refine Ls (Rdo.fieldAddr rfl) ?_
          refine Ls (Rdo.load rfl (Lds.next (Lds.next (Lds.rowF (by assumption))))) ?_
          refine Ls (Rdo.gei rfl rfl) (Lnt (cL rfl (Wp.skip (Thn.n (Wp.seq (Wsr (Ls (Rdo.move rfl) (Ls (Rdo.nilCheck rfl) (Ls (Rdo.fieldAddr0 rfl) (Ls (Rdo.load rfl (Lds.next (Lds.one rfl))) (Ls (Rdo.move rfl) ?_)))))))))))
          refine Ls (Rdo.indexSlice rfl rfl (by omega)) ?_
          refine Ls (Rdo.fieldAddr rfl) ?_
          refine Ls (Rdo.load rfl (Lds.next (Lds.next (Lds.rowF (by assumption))))) ?_
          refine Lnt (cL rfl (Wp.skip (Thn.n (Wsr (Ls (Rdo.move rfl) (Ls (Rdo.nilCheck rfl) (Ls (Rdo.fieldAddr0 rfl) (Ls (Rdo.load rfl (Lds.next (Lds.one rfl))) (Ls (Rdo.move rfl) ?_)))))))))
          refine Ls (Rdo.indexSlice rfl rfl (by omega)) ?_
          refine Ls (Rdo.fieldAddr rfl) ?_
          refine Ls (Rdo.load rfl (Lds.next (Lds.next (Lds.rowF (by assumption))))) ?_
          refine Ls (Rdo.add64 rfl rfl (by first | omega | (dsimp only; omega))) ?_
          refine Ls (Rdo.indexSlice rfl rfl (by omega)) ?_
          refine Ls (Rdo.fieldAddr rfl) ?_
          refine WpL.step (St rfl rfl (VC.i _ _) ?_)
          refine Lnt (Wp.region (Ls (Rdo.move rfl) (Ls (Rdo.nilCheck rfl) (Ls (Rdo.fieldAddr0 rfl) (Ls (Rdo.load rfl (Lds.next (Lds.one rfl))) (Ls (Rdo.move rfl) ?_))))))
          refine Ls (Rdo.indexSlice rfl rfl (by omega)) ?_
          refine Ls (Rdo.fieldAddr rfl) ?_
          refine WpL.step (St rfl rfl (VC.i _ _) ?_)
          refine Lnt (Wsr (Ls (Rdo.move rfl) (Ls (Rdo.move rfl) ?_)))
          rw [e1, e2]
          refine WpL.step (Sc (s2) rfl ?_)
          rintro _ _ ⟨v1_0, ⟨v1_1, ⟨rfl, rfl⟩⟩⟩
          refine Ll ?_
          refine Lnt (Wsr (Ls (Rdo.move rfl) (Ls (Rdo.move rfl) (Ls (Rdo.nilCheck rfl) (Ls (Rdo.fieldAddr0 rfl) (Ls (Rdo.load rfl (Lds.one rfl)) (Ls (Rdo.move rfl) ?_)))))))
          refine Ls (Rdo.indexSlice rfl rfl (by omega)) ?_
          refine Ls (Rdo.fieldAddr rfl) ?_
          refine Ls (Rdo.load rfl (Lds.next (Lds.rowF (by assumption)))) ?_
          refine Ls (Rdo.bld rfl (BldL.cons rfl (VC.i _ _) (by first | rfl | assumption | (simp <;> done)) (by repeat (first | exact LPut.nil _ | apply LPut.here | apply LPut.next)) (BldL.cons rfl (VC.i _ _) (by first | rfl | assumption | (simp <;> done)) (by repeat (first | exact LPut.nil _ | apply LPut.here | apply LPut.next)) (BldL.nil _)))) ?_
          refine WpL.step (St rfl rfl (VC.ag _) ?_)
          refine Lnt (Wp.ret ?_)
          exact Ret.now (by repeat (first | exact ResV.nil | apply ResV.tmp rfl | apply ResV.cell rfl (by repeat (first | exact Lds.one rfl | (apply Lds.all; (first | rfl | assumption | (simp <;> fail))) | exact Lds.ione0 | exact Lds.ione rfl | (apply Lds.iall; (first | rfl | assumption | (simp <;> fail))) | apply Lds.next)))) (Gh.trans (Gh.fzImp (Φ := fun g => RdPs g c.prods vs') (Ψ := fun g => RdPs g (c.prods.set j pB) vs') (by repeat (first | exact Pk.here | apply Pk.next)) (fun g h => RdPs.keep h hp hq2)) (Gh.trans Gk (rf_close (l := []) ((c.put j { p with epoch := p.epoch + 1, last := 0 }).lay ⟨1, j, p.epoch + 1, 0⟩) hcl rfl rfl rfl (by rw [List.length_set])))) ⟨rfl, rfl⟩
    · refine Wp.seq (Wsr (Ls (Rdo.move rfl) (Ls (Rdo.move rfl) (Ls (Rdo.nilCheck rfl) (Ls (Rdo.fieldAddr0 rfl) (Ls (Rdo.load rfl (Lds.next (Lds.one rfl))) (Ls (Rdo.lenSlice rfl) (Ls (Rdo.lti rfl rfl) (Ls (Rdo.move rfl) (Lg rfl rfl (Lw rfl rfl (Rdo.move rfl) (Lw rfl rfl (Rdo.nilCheck rfl) (Lw rfl rfl (Rdo.fieldAddr0 rfl) ?_)))))))))))))
      refine Lw rfl rfl (Rdo.load rfl (Lds.next (Lds.one rfl))) (Lw rfl rfl (Rdo.move rfl) ?_)
      refine Lw rfl rfl (Rdo.indexSlice rfl rfl (by omega)) ?_
      refine Lw rfl rfl (Rdo.fieldAddr rfl) ?_
      refine Lw rfl rfl (Rdo.load rfl (Lds.next (Lds.next (Lds.rowF (by assumption))))) ?_
      refine Lw rfl rfl (Rdo.move rfl) (Lw rfl rfl (Rdo.neVs rfl rfl) (Ls (Rdo.pick_t rfl rfl) (Lnt (cK rfl (Wp.skip (Thn.n (Wp.block (Wp.region (Ls (Rdo.move rfl) ?_)))))))))
      refine Ls (Rdo.succ rfl rfl (by omega)) ?_
      refine Ls (Rdo.assign rfl) (WpL.nil (Blk.n (Thn.n ?_)))
      refine ⟨k - 1, _, _, by omega, ⟨j + 1, by omega, ?_, rfl, rfl⟩, (by repeat (first | exact trivial | refine ⟨rfl, ?_⟩)), Gk⟩
      intro q hq
      rw [htk] at hq
      rcases List.mem_append.1 hq with hq | hq
      · exact hno q hq
      · rw [List.mem_singleton.1 hq]
        exact hs
  · obtain rfl : j = c.prods.length := by omega
    have hall : c.prods.take c.prods.length = c.prods := List.take_of_length_le (Nat.le_refl _)
    rw [hall] at hno
    have hna := nameAt_none hno
    unfold CoS.begins
    rw [hna]
    simp only
    by_cases h88 : 8 ≤ c.prods.length
    · have h88' : (c.prods.length : Int) ≥ 8 := by omega
      rw [if_pos h88]
      refine Wp.seq (Wsr (Ls (Rdo.move rfl) (Ls (Rdo.move rfl) (Ls (Rdo.nilCheck rfl) (Ls (Rdo.fieldAddr0 rfl) (Ls (Rdo.load rfl (Lds.next (Lds.one rfl))) (Ls (Rdo.lenSlice rfl) (Ls (Rdo.lti rfl rfl) (Ls (Rdo.move rfl) (Lf rfl rfl (Lp rfl rfl (Lp rfl rfl (Lp rfl rfl ?_)))))))))))))
      refine Lp rfl rfl (Lp rfl rfl (Lp rfl rfl (Lp rfl rfl (Lp rfl rfl (Lp rfl rfl (Lp rfl rfl (Ls (Rdo.pick_f rfl rfl) (Lnt ?_))))))))
      refine Wp.condF rfl ?_
      refine Wp.exit ?_
      refine Thn.x ?_
      refine Thn.x ?_
      refine Blk.here ?_
      refine Thn.n (Wp.seq (Wsr (Ls (Rdo.move rfl) (Ls (Rdo.move rfl) (Ls (Rdo.nilCheck rfl) (Ls (Rdo.fieldAddr0 rfl) (Ls (Rdo.load rfl (Lds.next (Lds.one rfl))) (Ls (Rdo.lenSlice rfl) (Ls (Rdo.eqi rfl rfl) (Lnt (cK rfl (Wp.seq (Wsr ?_)))))))))))))
      refine Ls (Rdo.move rfl) (Ls (Rdo.gei rfl rfl) (Lnt (cK rfl (Wsr ?_))))
      refine Ls (Rdo.bld rfl (BldL.cons rfl (VC.i _ _) (by first | rfl | assumption | (simp <;> done)) (by repeat (first | exact LPut.nil _ | apply LPut.here | apply LPut.next)) (BldL.nil _))) ?_
      refine WpL.step (St rfl rfl (VC.ag _) ?_)
      refine Lnt (Wp.ret ?_)
      refine Thn.r ?_
      refine Thn.r ?_
      exact Ret.now (by repeat (first | exact ResV.nil | apply ResV.tmp rfl | apply ResV.cell rfl (by repeat (first | exact Lds.one rfl | (apply Lds.all; (first | rfl | assumption | (simp <;> fail))) | exact Lds.ione0 | exact Lds.ione rfl | (apply Lds.iall; (first | rfl | assumption | (simp <;> fail))) | apply Lds.next)))) (Gh.trans Gk (rf_close (l := []) c rfl rfl rfl rfl rfl)) ⟨rfl, rfl⟩
    · have h88' : ¬ (c.prods.length : Int) ≥ 8 := by omega
      rw [if_neg h88]
      have e1 := rps_snoc hvl ⟨s, 0, 0, false, [], 0⟩ vnil
      have hp2 : (c.prods ++ [(⟨s, 0, 0, false, [], 0⟩ : Prod)])[c.prods.length]? = some ⟨s, 0, 0, false, [], 0⟩ := by simp
      have hv2 : (vs' ++ [vnil])[c.prods.length]? = some vnil := by rw [← hvl]; simp
      have g2 := rps_at (f := 1) hp2 hv2 rfl
      have s2 := fun pv => rmark_op x pv mv dv c.now (c.prods ++ [⟨s, 0, 0, false, [], 0⟩]) (vs' ++ [vnil]) c.marks 1 0 c.prods.length ⟨s, 0, 0, false, [], 0⟩ vnil hp2 hv2 (by omega)
      have hl1 : (c.prods ++ [(⟨s, 0, 0, false, [], 0⟩ : Prod)]).length = c.prods.length + 1 := by simp
      rw [hl1] at s2
      refine Wp.seq (Wsr (Ls (Rdo.move rfl) (Ls (Rdo.move rfl) (Ls (Rdo.nilCheck rfl) (Ls (Rdo.fieldAddr0 rfl) (Ls (Rdo.load rfl (Lds.next (Lds.one rfl))) (Ls (Rdo.lenSlice rfl) (Ls (Rdo.lti rfl rfl) (Ls (Rdo.move rfl) (Lf rfl rfl (Lp rfl rfl (Lp rfl rfl (Lp rfl rfl ?_)))))))))))))
      refine Lp rfl rfl (Lp rfl rfl (Lp rfl rfl (Lp rfl rfl (Lp rfl rfl (Lp rfl rfl (Lp rfl rfl (Ls (Rdo.pick_f rfl rfl) (Lnt ?_))))))))
      refine Wp.condF rfl ?_
      refine Wp.exit ?_
      refine Thn.x ?_
      refine Thn.x ?_
      refine Blk.here ?_
      refine Thn.n (Wp.seq (Wsr (Ls (Rdo.move rfl) (Ls (Rdo.move rfl) (Ls (Rdo.nilCheck rfl) (Ls (Rdo.fieldAddr0 rfl) (Ls (Rdo.load rfl (Lds.next (Lds.one rfl))) (Ls (Rdo.lenSlice rfl) (Ls (Rdo.eqi rfl rfl) (Lnt (cK rfl (Wp.seq (Wsr ?_)))))))))))))
      refine Ls (Rdo.move rfl) (Ls (Rdo.gei rfl rfl) (Lnt (cL rfl (Wp.skip (Thn.n (Wp.region (Ls (Rdo.move rfl) ?_)))))))
      (refine WpL.step (Stp.slice0 rfl ?_); intro nb56)
      refine Ls (Rdo.move rfl) (Ls (Rdo.nilCheck rfl) (Ls (Rdo.fieldAddr0 rfl) (Ls (Rdo.load rfl (Lds.next (Lds.next (Lds.one rfl)))) ?_)))
      (refine WpL.step (Stp.append0P rfl rfl Pk.here (Src.next (Src.next Src.row)) (by first | rfl | assumption | (simp <;> done) | (simp <;> omega)) (by first | assumption | exact oneCells1 rfl | exact oneCells1 (by assumption) | exact oneCells_bytesC _ | exact oneCells_votesC _ | (simp [oneCells, Value.oneCell'] <;> done)) (by first | omega | (simp <;> omega)) (by first | omega | (simp <;> omega)) rfl (by first | rfl | (simp <;> done)) ?_); intro na61 nc61)
      refine Ls (Rdo.move rfl) ?_
      refine Ls (Rdo.bld rfl (BldL.cons rfl (VC.s _) (by first | rfl | assumption | (simp <;> done)) (by repeat (first | exact LPut.nil _ | apply LPut.here | apply LPut.next)) (BldL.nil _))) ?_
      (refine WpL.step (Stp.sliceV rfl rfl (VCs.cons (VC.ag _) (by first | rfl | assumption | (simp <;> done)) VCs.nil) (by simp only [List.cons_append, List.nil_append, List.append_nil]; exact rfl) rfl rfl ?_); intro nb64)
      (refine WpL.step (Stp.appendP rfl rfl (Pk.next Pk.here) (Src.cel (by first | rfl | (simp <;> done) | (simp <;> omega))) (by first | rfl | assumption | (simp <;> done) | (simp <;> omega)) (by first | assumption | exact oneCells1 rfl | exact oneCells1 (by assumption) | exact oneCells_bytesC _ | exact oneCells_votesC _ | (simp [oneCells, Value.oneCell'] <;> done)) (by first | omega | (simp <;> omega)) (by first | omega | (simp <;> omega)) rfl (by first | rfl | (simp <;> done)) ?_); intro na65 nc65)
      refine Ls (Rdo.nilCheck rfl) (Ls (Rdo.fieldAddr0 rfl) ?_)
      refine WpL.step (Stp.storeV rfl rfl (VC.sl _ _ _) rfl (Sts.next (Sts.next (Sts.next (Sp (oneCells1 rfl))))) ?_)
      refine Lnt (Wsr (Ls (Rdo.move rfl) (Ls (Rdo.move rfl) ?_)))
      rw [e1]
      refine WpL.step (Sc (s2 _) rfl ?_)
      rintro _ _ ⟨v1_0, ⟨v1_1, ⟨rfl, rfl⟩⟩⟩
      refine Ll ?_
      refine Lnt (Wsr (Ls (Rdo.move rfl) (Ls (Rdo.move rfl) (Ls (Rdo.nilCheck rfl) (Ls (Rdo.fieldAddr0 rfl) (Ls (Rdo.load rfl (Lds.one rfl)) (Ls (Rdo.move rfl) ?_)))))))
      refine WpL.get (Pk.next Pk.here) (fun r => rowA_at c.prods.length (by omega)) ?_
      rintro ⟨pb, po, pc2, hv1⟩
      simp only [Value.slice.injEq, true_and] at hv1
      obtain ⟨rfl, rfl⟩ := hv1
      refine Ls (Rdo.indexSlice rfl rfl (by omega)) ?_
      refine Ls (Rdo.fieldAddr rfl) ?_
      refine Ls (Rdo.load rfl (Lds.next (Lds.rowF (by assumption)))) ?_
      refine Ls (Rdo.bld rfl (BldL.cons rfl (VC.i _ _) (by first | rfl | assumption | (simp <;> done)) (by repeat (first | exact LPut.nil _ | apply LPut.here | apply LPut.next)) (BldL.cons rfl (VC.i _ _) (by first | rfl | assumption | (simp <;> done)) (by repeat (first | exact LPut.nil _ | apply LPut.here | apply LPut.next)) (BldL.nil _)))) ?_
      refine WpL.step (St rfl rfl (VC.ag _) ?_)
      refine Lnt (Wp.ret ?_)
      exact Ret.now (by repeat (first | exact ResV.nil | apply ResV.tmp rfl | apply ResV.cell rfl (by repeat (first | exact Lds.one rfl | (apply Lds.all; (first | rfl | assumption | (simp <;> fail))) | exact Lds.ione0 | exact Lds.ione rfl | (apply Lds.iall; (first | rfl | assumption | (simp <;> fail))) | apply Lds.next)))) (Gh.trans (Gh.fzImp (Φ := fun g => RdPs g c.prods vs') (Ψ := fun g => RdPs g (c.prods ++ [⟨s, 0, 0, false, [], 0⟩]) (vs' ++ [vnil])) (by repeat (first | exact Pk.here | apply Pk.next)) (fun g h => RdPs.snoc h rfl)) (Gh.trans Gk (rf_close (l := []) { c with prods := c.prods ++ [⟨s, 0, 0, false, [], 0⟩], marks := c.marks ++ [⟨1, c.prods.length, 0, 0⟩] } rfl rfl rfl rfl (by simp)))) ⟨rfl, rfl⟩
end Go.Proofs.YtccgdnocldmjeaaGreatDoor
namespace Go.Proofs.YtccgdnocldmjeaaGreatDoor
open Go
set_option maxHeartbeats 4000000
set_option linter.unusedSimpArgs false
set_option linter.unusedVariables false
set_option maxRecDepth 20000
theorem RdPs.put {g : FH} {ps : List Prod} {vs : List Value} (h : RdPs g ps vs) {i : Nat} {q : Prod} {v : Value} (hq : RdInts g v q.parts) : RdPs g (ps.set i q) (vs.set i v) := by
  refine ⟨by simp [h.1], fun j r u hr hu => ?_⟩
  by_cases e : i = j
  · subst e
    have h1 := (List.getElem?_eq_some_iff.1 hr).1
    have h2 := (List.getElem?_eq_some_iff.1 hu).1
    rw [List.length_set] at h1 h2
    rw [List.getElem?_set_self h1] at hr
    rw [List.getElem?_set_self h2] at hu
    cases hr
    cases hu
    exact hq
  · rw [List.getElem?_set_ne e] at hr hu
    exact h.2 j r u hr hu
abbrev adrE (x nb pb o : Nat) (j : Nat) : Env := [(0, vp x 0), (3, vp nb 0), (5, .pointer (some ⟨pb, o, none⟩)), (6, vi j)]
abbrev adrL (x nb : Nat) (c : CoS) (o : Go.Proofs.YtccgdnocldmjeaaGreatDoor.Op) (m : RfM) (v : Value) (p : Prod) : List HP := cel nb 38 (opC o) :: fz (fun g => RdInts g v p.parts) :: rfX x c m
theorem radd_ok (x : Nat) (c : CoS) (o : Go.Proofs.YtccgdnocldmjeaaGreatDoor.Op) (i : Nat) (p : Prod) (ho : o.producer = i) (hp : c.prods[i]? = some p) (hpl : 0 ≤ p.last ∧ p.last ≤ 100) (h4 : p.parts.length ≤ 1000) :
    Trip Tryz.prog 38 [vp x 0, .agg (opC o).toArray] [rfA x c] (fun r l => r = vi (c.adds o i p).1 ∧ l = [rfA x (c.adds o i p).2]) := by
  have hi : i < c.prods.length := (List.getElem?_eq_some_iff.1 hp).1
  have hi' : (i : Int) < c.prods.length := by omega
  obtain ⟨k0, cl, sq, nm, pr, ep, tx, pa, cm⟩ := o
  simp only at ho
  subst ho
  refine Trip.ghE rfA_open ?_
  rintro ⟨pv, mv, dv, vs⟩ hvl
  simp only [rfX, List.cons_append, List.nil_append] at hvl ⊢
  obtain ⟨v, hv⟩ : ∃ v, vs[i]? = some v := ⟨vs[i]'(by omega), List.getElem?_eq_getElem (by omega)⟩
  refine Trip.get (Pk.next Pk.here) (fun r => rowA_at i hi) ?_
  rintro ⟨pb, po, pc, rfl⟩
  refine Trip.get (Pk.next (Pk.next (Pk.next (Pk.next Pk.here)))) (ps_shape hp hv) ?_
  rintro ⟨va, vc, rfl⟩
  refine Trip.gh (Gh.fzAlso (Ψ := fun g => RdInts g (.slice va p.parts.length vc) p.parts) (Pk.next (Pk.next (Pk.next (Pk.next Pk.here)))) (fun g h => h.2 i p _ hp hv)) ?_
  have f1 := rps_at (f := 2) hp hv rfl
  have f2 := rps_at (f := 3) hp hv rfl
  have f3 := rps_at (f := 4) hp hv rfl
  have hL := rpsC_len hvl
  unfold CoS.adds
  simp only
  by_cases h1 : p.opn = true
  · rw [if_pos h1]
    by_cases h2 : tx = p.last
    · rw [if_pos h2]
      refine Trip.of_body Tryz.func38 rfl Tryz.ntmps38 Tryz.results38 rfl ?_
      refine Wsr ?_
      (refine WpL.step (Stp.boxV rfl (VC.ag _) rfl ?_); intro nb2)
      refine Ls (Rdo.assign rfl) (Lnt (Wp.seq ?_))
      refine Wp.draw (by kernel_rfl) ?_
      refine Qt (i := 0) rfl (Rdo.move rfl) (Qt (i := 1) rfl (Rdo.nilCheck rfl) (Qt (i := 2) rfl (Rdo.fieldAddr0 rfl) (Qt (i := 4) rfl (Rdo.fieldAddr0 rfl) ?_)))
      refine WpR.phaseL (m := 2) #[true, true, true, true, true, true, false, false] 2 _ rfl (by kernel_rfl) Tk.rfl_ ?_
      refine At (i := 3) rfl (Rdo.load rfl (Lds.next (Lds.next (Lds.next (Lds.one rfl))))) (At (i := 5) rfl (Rdo.load rfl (Lds.one rfl)) ?_)
      refine WpA.stop (by kernel_rfl) ?_
      refine WpR.lst (by simp only [List.cons_append, List.nil_append, List.append_nil]; exact rfl) ?_
      refine Qt (i := 6) rfl (Rdo.indexSlice rfl rfl (by omega)) ?_
      refine Qt (i := 7) rfl (Rdo.assign rfl) ?_
      refine WpR.done (by kernel_rfl) ?_
      refine Thn.n (Wp.seq (Wp.seq ?_))
      refine Wp.draw (by kernel_rfl) ?_
      refine Qt (i := 0) rfl (Rdo.move rfl) (Qt (i := 1) rfl (Rdo.nilCheck rfl) (Qt (i := 2) rfl (Rdo.fieldAddr rfl) ?_))
      refine Qo (i := 3) rfl (Stp.rd (Rdo.load rfl (Lds.next (Lds.next (Lds.next (Lds.next (Lds.rowF (by assumption))))))) rfl ?_)
      refine Qt (i := 4) rfl (Rdo.move rfl) ?_
      refine WpR.tT 18 rfl (by first | rfl | assumption | (simp only [decide_eq_true_eq, decide_eq_false_iff_not, Bool.not_eq_true', Bool.not_eq_false', List.length_cons, List.length_nil]; first | assumption | omega) | (simp <;> done) | (simp <;> omega)) ?_
      refine Qw (i := 5) rfl rfl rfl (Rdo.fieldAddr0 rfl) (Qw (i := 7) rfl rfl rfl (Rdo.move rfl) (Qw (i := 8) rfl rfl rfl (Rdo.nilCheck rfl) (Qw (i := 9) rfl rfl rfl (Rdo.fieldAddr rfl) ?_)))
      refine WpR.phaseL (m := 0) #[true, true, true, true, true, true, true, true, true, true, true, true, true] 4 _ rfl (by kernel_rfl) (Tk.cons Pk.here (Tk.cons (Pk.next (Pk.next (Pk.next Pk.here))) Tk.nil)) ?_
      refine Aw (i := 6) rfl rfl rfl (Rdo.load rfl (Lds.one rfl)) ?_
      refine Aw (i := 10) rfl rfl rfl (Rdo.load rfl (Lds.next (Lds.rowF (by assumption)))) ?_
      refine Aw (i := 11) rfl rfl rfl (Rdo.eqi rfl rfl) (At (i := 12) rfl (Rdo.pick_t rfl rfl) ?_)
      refine WpA.stop (by kernel_rfl) ?_
      refine Ql ?_
      refine WpR.done (by kernel_rfl) ?_
      refine Thn.n (cK rfl (Wp.seq (Wsr (Ls (Rdo.assign rfl) (Lnt (Wp.block ?_))))))
      refine Wp.loopE (fun k e h => ∃ j : Nat, j + k = p.parts.length ∧ (∀ q ∈ p.parts.take j, q ≠ pa) ∧ e = adrE x nb2 pb (po + i * 6) j ∧ h = adrL x nb2 c ⟨k0, cl, sq, nm, i, ep, tx, pa, cm⟩ ⟨.slice (some ⟨pb, po, none⟩) c.prods.length pc, mv, dv, vs⟩ (.slice va p.parts.length vc) p) p.parts.length
        (e0 := adrE x nb2 pb (po + i * 6) 0) (l0 := adrL x nb2 c ⟨k0, cl, sq, nm, i, ep, tx, pa, cm⟩ ⟨.slice (some ⟨pb, po, none⟩) c.prods.length pc, mv, dv, vs⟩ (.slice va p.parts.length vc) p) (by repeat (first | exact trivial | refine ⟨rfl, ?_⟩)) (by repeat (first | exact trivial | refine ⟨rfl, ?_⟩)) Gk ⟨0, by omega, by simp, rfl, rfl⟩ ?_
      rintro k e h ⟨j, hjk, hno, rfl, rfl⟩
      by_cases hj : j < p.parts.length
      · have hj' : (j : Int) < p.parts.length := by omega
        have hM : p.parts[j]? = some p.parts[j] := List.getElem?_eq_getElem hj
        have hmem : p.parts[j] ∈ p.parts := List.getElem_mem hj
        have htk : p.parts.take (j + 1) = p.parts.take j ++ [p.parts[j]] := by rw [List.take_add_one, hM]; rfl
        generalize p.parts[j] = M at *
        refine Wp.get (Pk.next Pk.here) (row_some (by omega)) ?_
        rintro ⟨b1, o1, rfl⟩
        by_cases hMT : M = pa
        · have hadd : addI p.parts pa = p.parts := by unfold addI; rw [if_pos (hMT ▸ hmem)]
          rw [hadd]
          refine Wp.seq (Wsr (Ls (Rdo.move rfl) (Ls (Rdo.move rfl) (Ls (Rdo.nilCheck rfl) (Ls (Rdo.fieldAddr rfl) ?_)))))
          refine Ls (Rdo.load rfl (Lds.next (Lds.next (Lds.next (Lds.rowF (by assumption)))))) ?_
          refine Ls (Rdo.lenSlice rfl) (Ls (Rdo.lti rfl rfl) (Lnt (cK rfl (Wp.skip (Thn.n (Wp.seq (Wp.block (Wp.seq ?_))))))))
          refine Wp.draw (by kernel_rfl) ?_
          refine Qt (i := 0) rfl (Rdo.move rfl) (Qt (i := 1) rfl (Rdo.nilCheck rfl) (Qt (i := 2) rfl (Rdo.fieldAddr rfl) (Qt (i := 4) rfl (Rdo.move rfl) (Qt (i := 7) rfl (Rdo.fieldAddr0 rfl) ?_))))
          refine WpR.load (i := 3) [8] rfl (by kernel_rfl) (by kernel_rfl) (by kernel_rfl) (by kernel_rfl) (by kernel_rfl) rfl Tk.rfl_ (Harm.rd rfl (Rdo.load rfl (Lds.one rfl)) Harm.nil) (Rdo.load rfl (Lds.next (Lds.next (Lds.next (Lds.rowF (by assumption)))))) rfl ?_
          refine Qt (i := 5) rfl (Rdo.indexSlice rfl rfl (by omega)) ?_
          refine WpR.phaseL (m := 1) #[true, true, true, true, true, true, true, true, true, false] 2 _ rfl (by kernel_rfl) Tk.rfl_ ?_
          refine At (i := 6) rfl (Rdo.load rfl (Lds.next (Lds.fz1 (by first | assumption | exact bytesC_at (by assumption) | exact intsC_at (by assumption) | exact boolsC_at (by assumption))))) ?_
          refine At (i := 8) rfl (Rdo.load rfl (Lds.one rfl)) ?_
          refine WpA.stop (by kernel_rfl) ?_
          refine WpR.lst (by simp only [List.cons_append, List.nil_append, List.append_nil]; exact rfl) ?_
          refine Qt (i := 9) rfl (Rdo.eqi rfl rfl) ?_
          refine WpR.done (by kernel_rfl) ?_
          refine Thn.n (cK rfl (Wsr (Ls (Rdo.assign rfl) (Lnt (Wp.ret ?_)))))
          refine Blk.r ?_
          refine Thn.r ?_
          refine Thn.r ?_
          refine Blk.r ?_
          refine Thn.r ?_
          refine Thn.r ?_
          exact Ret.now (by repeat (first | exact ResV.nil | apply ResV.tmp rfl | apply ResV.cell rfl (by repeat (first | exact Lds.one rfl | (apply Lds.all; (first | rfl | assumption | (simp <;> fail))) | exact Lds.ione0 | exact Lds.ione rfl | (apply Lds.iall; (first | rfl | assumption | (simp <;> fail))) | apply Lds.next)))) (Gh.trans Gk (rf_close (l := []) (c.put i { p with parts := p.parts }) (set_keep hp) rfl rfl rfl rfl)) ⟨rfl, rfl⟩
        · refine Wp.seq (Wsr (Ls (Rdo.move rfl) (Ls (Rdo.move rfl) (Ls (Rdo.nilCheck rfl) (Ls (Rdo.fieldAddr rfl) ?_)))))
          refine Ls (Rdo.load rfl (Lds.next (Lds.next (Lds.next (Lds.rowF (by assumption)))))) ?_
          refine Ls (Rdo.lenSlice rfl) (Ls (Rdo.lti rfl rfl) (Lnt (cK rfl (Wp.skip (Thn.n (Wp.seq (Wp.block (Wp.seq ?_))))))))
          refine Wp.draw (by kernel_rfl) ?_
          refine Qt (i := 0) rfl (Rdo.move rfl) (Qt (i := 1) rfl (Rdo.nilCheck rfl) (Qt (i := 2) rfl (Rdo.fieldAddr rfl) (Qt (i := 4) rfl (Rdo.move rfl) (Qt (i := 7) rfl (Rdo.fieldAddr0 rfl) ?_))))
          refine WpR.load (i := 3) [8] rfl (by kernel_rfl) (by kernel_rfl) (by kernel_rfl) (by kernel_rfl) (by kernel_rfl) rfl Tk.rfl_ (Harm.rd rfl (Rdo.load rfl (Lds.one rfl)) Harm.nil) (Rdo.load rfl (Lds.next (Lds.next (Lds.next (Lds.rowF (by assumption)))))) rfl ?_
          refine Qt (i := 5) rfl (Rdo.indexSlice rfl rfl (by omega)) ?_
          refine WpR.phaseL (m := 1) #[true, true, true, true, true, true, true, true, true, false] 2 _ rfl (by kernel_rfl) Tk.rfl_ ?_
          refine At (i := 6) rfl (Rdo.load rfl (Lds.next (Lds.fz1 (by first | assumption | exact bytesC_at (by assumption) | exact intsC_at (by assumption) | exact boolsC_at (by assumption))))) ?_
          refine At (i := 8) rfl (Rdo.load rfl (Lds.one rfl)) ?_
          refine WpA.stop (by kernel_rfl) ?_
          refine WpR.lst (by simp only [List.cons_append, List.nil_append, List.append_nil]; exact rfl) ?_
          refine Qt (i := 9) rfl (Rdo.eqi rfl rfl) ?_
          refine WpR.done (by kernel_rfl) ?_
          refine Thn.n (cL rfl (Wp.skip (Blk.n (Thn.n (Wp.region (Ls (Rdo.move rfl) ?_))))))
          refine Ls (Rdo.succ rfl rfl (by omega)) ?_
          refine Ls (Rdo.assign rfl) (Lnt ?_)
          refine ⟨k - 1, _, _, by omega, ⟨j + 1, by omega, ?_, rfl, rfl⟩, (by repeat (first | exact trivial | refine ⟨rfl, ?_⟩)), Gk⟩
          intro m hm
          rw [htk] at hm
          rcases List.mem_append.1 hm with hm | hm
          · exact hno m hm
          · rw [List.mem_singleton.1 hm]
            exact hMT
      · have hall : p.parts.take j = p.parts := List.take_of_length_le (by omega)
        rw [hall] at hno
        have hadd : addI p.parts pa = p.parts ++ [pa] := by unfold addI; rw [if_neg (fun h => hno _ h rfl)]
        rw [hadd]
        have hlen : (p.parts.map vi).length = p.parts.length * 1 := by simp
        have hone : oneCells (p.parts.map vi) := by
          intro u hu
          obtain ⟨z, _, rfl⟩ := List.mem_map.1 hu
          rfl
        have e1 : ∀ w, (rpsC c.prods vs).set (i * 6 + 4) w = rpsC (c.prods.set i { p with parts := p.parts ++ [pa] }) (vs.set i w) := fun w => rps_set hp hv (by omega) rfl
        refine Wp.seq (Wsr (Ls (Rdo.move rfl) (Ls (Rdo.move rfl) (Ls (Rdo.nilCheck rfl) (Ls (Rdo.fieldAddr rfl) ?_)))))
        refine Ls (Rdo.load rfl (Lds.next (Lds.next (Lds.next (Lds.rowF (by assumption)))))) ?_
        refine Ls (Rdo.lenSlice rfl) (Ls (Rdo.lti rfl rfl) (Lnt (cL rfl ?_)))
        refine Wp.exit ?_
        refine Thn.x ?_
        refine Thn.x ?_
        refine Blk.here ?_
        refine Thn.n (Wp.seq ?_)
        refine Wp.draw (by kernel_rfl) ?_
        refine Qt (i := 0) rfl (Rdo.move rfl) (Qt (i := 2) rfl (Rdo.move rfl) (Qt (i := 3) rfl (Rdo.nilCheck rfl) (Qt (i := 4) rfl (Rdo.fieldAddr rfl) (Qt (i := 7) rfl (Rdo.fieldAddr0 rfl) ?_))))
        refine WpR.phaseL (m := 3) #[true, true, true, true, true, true, true, true, true, true, true, false, false, false] 6 _ rfl (by kernel_rfl) (Tk.cons Pk.here (Tk.cons (Pk.next (Pk.next Pk.here)) Tk.nil)) ?_
        refine At (i := 5) rfl (Rdo.load rfl (Lds.next (Lds.rowF (by assumption)))) ?_
        refine At (i := 8) rfl (Rdo.load rfl (Lds.one rfl)) ?_
        refine PendA.start (hz := MK.sl rfl rfl (VCs.cons (VC.i _ _) (by first | rfl | assumption | (simp <;> done)) VCs.nil) (by first | exact rfl | (simp only [List.cons_append, List.nil_append, List.append_nil]; exact rfl)) rfl) (i := 9) rfl ?_
        (refine PendA.one (hz := MK.sl rfl rfl (VCs.cons (VC.i _ _) (by first | rfl | assumption | (simp <;> done)) VCs.nil) (by first | exact rfl | (simp only [List.cons_append, List.nil_append, List.append_nil]; exact rfl)) rfl) (j := 1) rfl rfl (by kernel_rfl) (by kernel_rfl) (by kernel_rfl) rfl (by simp) rfl rfl (Stp.slice0 rfl ?_); intro nb29)
        (refine PendA.one (hz := MK.sl rfl rfl (VCs.cons (VC.i _ _) (by first | rfl | assumption | (simp <;> done)) VCs.nil) (by first | exact rfl | (simp only [List.cons_append, List.nil_append, List.append_nil]; exact rfl)) rfl) (j := 6) rfl rfl (by kernel_rfl) (by kernel_rfl) (by kernel_rfl) rfl (by simp) rfl rfl (Stp.append0P rfl rfl Pk.here Src.frozen (by first | rfl | assumption | (simp <;> done) | (simp <;> omega)) (by first | assumption | exact oneCells1 rfl | exact oneCells1 (by assumption) | exact oneCells_bytesC _ | exact oneCells_votesC _ | (simp [oneCells, Value.oneCell'] <;> done)) (by first | omega | (simp <;> omega)) (by first | omega | (simp <;> omega)) rfl (by first | rfl | (simp <;> done)) ?_); intro na30 nc30)
        refine PendA.made (hz := MK.sl rfl rfl (VCs.cons (VC.i _ _) (by first | rfl | assumption | (simp <;> done)) VCs.nil) (by first | exact rfl | (simp only [List.cons_append, List.nil_append, List.append_nil]; exact rfl)) rfl) rfl (by kernel_rfl) rfl (fun nb31 => ?_)
        (refine WpA.one (i := 10) rfl (by kernel_rfl) (Stp.appendP rfl rfl (Pk.next Pk.here) (Src.cel (by first | rfl | (simp <;> done) | (simp <;> omega))) (by first | rfl | assumption | (simp <;> done) | (simp <;> omega)) (by first | assumption | exact oneCells1 rfl | exact oneCells1 (by assumption) | exact oneCells_bytesC _ | exact oneCells_votesC _ | (simp [oneCells, Value.oneCell'] <;> done)) (by first | omega | (simp <;> omega)) (by first | omega | (simp <;> omega)) rfl (by first | rfl | (simp <;> done)) ?_); intro na32 nc32)
        refine WpA.stop (by kernel_rfl) ?_
        refine Ql ?_
        refine Qt (i := 11) rfl (Rdo.nilCheck rfl) (Qt (i := 12) rfl (Rdo.fieldAddr rfl) ?_)
        refine Qo (i := 13) rfl (St rfl rfl (VC.sl _ _ _) ?_)
        refine WpR.done (by kernel_rfl) ?_
        refine Thn.n (Wsr (Ls (Rdo.assign rfl) (Lnt (Wp.ret ?_))))
        refine Thn.r ?_
        rw [e1]
        refine Ret.now (by repeat (first | exact ResV.nil | apply ResV.tmp rfl | apply ResV.cell rfl (by repeat (first | exact Lds.one rfl | (apply Lds.all; (first | rfl | assumption | (simp <;> fail))) | exact Lds.ione0 | exact Lds.ione rfl | (apply Lds.iall; (first | rfl | assumption | (simp <;> fail))) | apply Lds.next)))) (Gh.trans (Gh.ice (t := 3) (sz := 1) (n := p.parts.length + 1) (v := .slice na32 (p.parts.length + 1) nc32) (by repeat (first | exact Pk.here | apply Pk.next))) (Gh.trans (Gh.fzImp (Ψ := fun g => RdInts g (.slice na32 (p.parts.length + 1) nc32) (p.parts ++ [pa])) Pk.here (fun g h => by simpa [RdInts] using h)) (Gh.trans (Gh.fzAnd (RdRow.mono _ _ _ _) (RdPs.mono c.prods vs) Pk.here (by repeat (first | exact Pk.here | apply Pk.next))) (Gh.trans (Gh.fzImp (Ψ := fun g => RdPs g (c.prods.set i { p with parts := p.parts ++ [pa] }) (vs.set i (.slice na32 (p.parts.length + 1) nc32))) Pk.here (fun g h => RdPs.put h.2 h.1)) (Gh.trans Gk (rf_close (l := []) (c.put i { p with parts := p.parts ++ [pa] }) rfl rfl rfl rfl (by simp [CoS.put]))))))) ⟨rfl, rfl⟩
    · rw [if_neg h2]
      refine Trip.of_body Tryz.func38 rfl Tryz.ntmps38 Tryz.results38 rfl ?_
      refine Wsr ?_
      (refine WpL.step (Stp.boxV rfl (VC.ag _) rfl ?_); intro nb2)
      refine Ls (Rdo.assign rfl) (Lnt (Wp.seq ?_))
      refine Wp.draw (by kernel_rfl) ?_
      refine Qt (i := 0) rfl (Rdo.move rfl) (Qt (i := 1) rfl (Rdo.nilCheck rfl) (Qt (i := 2) rfl (Rdo.fieldAddr0 rfl) (Qt (i := 4) rfl (Rdo.fieldAddr0 rfl) ?_)))
      refine WpR.phaseL (m := 2) #[true, true, true, true, true, true, false, false] 2 _ rfl (by kernel_rfl) Tk.rfl_ ?_
      refine At (i := 3) rfl (Rdo.load rfl (Lds.next (Lds.next (Lds.next (Lds.one rfl))))) (At (i := 5) rfl (Rdo.load rfl (Lds.one rfl)) ?_)
      refine WpA.stop (by kernel_rfl) ?_
      refine WpR.lst (by simp only [List.cons_append, List.nil_append, List.append_nil]; exact rfl) ?_
      refine Qt (i := 6) rfl (Rdo.indexSlice rfl rfl (by omega)) ?_
      refine Qt (i := 7) rfl (Rdo.assign rfl) ?_
      refine WpR.done (by kernel_rfl) ?_
      refine Thn.n (Wp.seq (Wp.seq ?_))
      refine Wp.draw (by kernel_rfl) ?_
      refine Qt (i := 0) rfl (Rdo.move rfl) (Qt (i := 1) rfl (Rdo.nilCheck rfl) (Qt (i := 2) rfl (Rdo.fieldAddr rfl) ?_))
      refine Qo (i := 3) rfl (Stp.rd (Rdo.load rfl (Lds.next (Lds.next (Lds.next (Lds.next (Lds.rowF (by assumption))))))) rfl ?_)
      refine Qt (i := 4) rfl (Rdo.move rfl) ?_
      refine WpR.tT 18 rfl (by first | rfl | assumption | (simp only [decide_eq_true_eq, decide_eq_false_iff_not, Bool.not_eq_true', Bool.not_eq_false', List.length_cons, List.length_nil]; first | assumption | omega) | (simp <;> done) | (simp <;> omega)) ?_
      refine Qw (i := 5) rfl rfl rfl (Rdo.fieldAddr0 rfl) (Qw (i := 7) rfl rfl rfl (Rdo.move rfl) (Qw (i := 8) rfl rfl rfl (Rdo.nilCheck rfl) (Qw (i := 9) rfl rfl rfl (Rdo.fieldAddr rfl) ?_)))
      refine WpR.phaseL (m := 0) #[true, true, true, true, true, true, true, true, true, true, true, true, true] 4 _ rfl (by kernel_rfl) (Tk.cons Pk.here (Tk.cons (Pk.next (Pk.next (Pk.next Pk.here))) Tk.nil)) ?_
      refine Aw (i := 6) rfl rfl rfl (Rdo.load rfl (Lds.one rfl)) ?_
      refine Aw (i := 10) rfl rfl rfl (Rdo.load rfl (Lds.next (Lds.rowF (by assumption)))) ?_
      refine Aw (i := 11) rfl rfl rfl (Rdo.eqi rfl rfl) (At (i := 12) rfl (Rdo.pick_t rfl rfl) ?_)
      refine WpA.stop (by kernel_rfl) ?_
      refine Ql ?_
      refine WpR.done (by kernel_rfl) ?_
      refine Thn.n (cL rfl (Wp.skip (Thn.n (Wp.seq (Wp.block (Wsr (Ls (Rdo.move rfl) (Ls (Rdo.nilCheck rfl) (Ls (Rdo.fieldAddr rfl) ?_)))))))))
      refine Ls (Rdo.load rfl (Lds.next (Lds.rowF (by assumption)))) ?_
      refine Ls (Rdo.assign rfl) (Lnt (cK rfl (Wsr (Ls (Rdo.assign rfl) (Lnt (Wp.ret ?_))))))
      refine Blk.r ?_
      refine Thn.r ?_
      exact Ret.now (by repeat (first | exact ResV.nil | apply ResV.tmp rfl | apply ResV.cell rfl (by repeat (first | exact Lds.one rfl | (apply Lds.all; (first | rfl | assumption | (simp <;> fail))) | exact Lds.ione0 | exact Lds.ione rfl | (apply Lds.iall; (first | rfl | assumption | (simp <;> fail))) | apply Lds.next)))) (Gh.trans Gk (rf_close (l := []) c rfl rfl rfl rfl rfl)) ⟨rfl, rfl⟩
  · have h1' : p.opn = false := by simpa using h1
    rw [if_neg h1]
    by_cases h2 : 100 ≤ p.last
    · have h2' : p.last ≥ 100 := h2
      rw [if_pos h2]
      refine Trip.of_body Tryz.func38 rfl Tryz.ntmps38 Tryz.results38 rfl ?_
      refine Wsr ?_
      (refine WpL.step (Stp.boxV rfl (VC.ag _) rfl ?_); intro nb2)
      refine Ls (Rdo.assign rfl) (Lnt (Wp.seq ?_))
      refine Wp.draw (by kernel_rfl) ?_
      refine Qt (i := 0) rfl (Rdo.move rfl) (Qt (i := 1) rfl (Rdo.nilCheck rfl) (Qt (i := 2) rfl (Rdo.fieldAddr0 rfl) (Qt (i := 4) rfl (Rdo.fieldAddr0 rfl) ?_)))
      refine WpR.phaseL (m := 2) #[true, true, true, true, true, true, false, false] 2 _ rfl (by kernel_rfl) Tk.rfl_ ?_
      refine At (i := 3) rfl (Rdo.load rfl (Lds.next (Lds.next (Lds.next (Lds.one rfl))))) (At (i := 5) rfl (Rdo.load rfl (Lds.one rfl)) ?_)
      refine WpA.stop (by kernel_rfl) ?_
      refine WpR.lst (by simp only [List.cons_append, List.nil_append, List.append_nil]; exact rfl) ?_
      refine Qt (i := 6) rfl (Rdo.indexSlice rfl rfl (by omega)) ?_
      refine Qt (i := 7) rfl (Rdo.assign rfl) ?_
      refine WpR.done (by kernel_rfl) ?_
      refine Thn.n (Wp.seq (Wp.seq ?_))
      refine Wp.draw (by kernel_rfl) ?_
      refine Qt (i := 0) rfl (Rdo.move rfl) (Qt (i := 1) rfl (Rdo.nilCheck rfl) (Qt (i := 2) rfl (Rdo.fieldAddr rfl) ?_))
      refine Qo (i := 3) rfl (Stp.rd (Rdo.load rfl (Lds.next (Lds.next (Lds.next (Lds.next (Lds.rowF (by assumption))))))) rfl ?_)
      refine Qt (i := 4) rfl (Rdo.move rfl) ?_
      refine WpR.tF 18 rfl (by first | rfl | assumption | (simp only [decide_eq_true_eq, decide_eq_false_iff_not, Bool.not_eq_true', Bool.not_eq_false', List.length_cons, List.length_nil]; first | assumption | omega) | (simp <;> done) | (simp <;> omega)) ?_
      refine Qp (i := 5) rfl rfl rfl (Qp (i := 6) rfl rfl rfl (Qp (i := 7) rfl rfl rfl (Qp (i := 8) rfl rfl rfl (Qp (i := 9) rfl rfl rfl (Qp (i := 10) rfl rfl rfl (Qp (i := 11) rfl rfl rfl (Qt (i := 12) rfl (Rdo.pick_f rfl rfl) ?_)))))))
      refine WpR.done (by kernel_rfl) ?_
      refine Thn.n ?_
      refine Wp.condF rfl ?_
      refine Wp.skip (Thn.n (Wp.seq (Wp.block (Wsr (Ls (Rdo.move rfl) (Ls (Rdo.nilCheck rfl) (Ls (Rdo.fieldAddr rfl) ?_)))))))
      refine Ls (Rdo.load rfl (Lds.next (Lds.next (Lds.next (Lds.next (Lds.rowF (by assumption))))))) ?_
      refine Ls (Rdo.assign rfl) (Lnt (cL rfl (Wsr (Ls (Rdo.move rfl) (Ls (Rdo.nilCheck rfl) (Ls (Rdo.fieldAddr rfl) ?_))))))
      refine Ls (Rdo.load rfl (Lds.next (Lds.next (Lds.next (Lds.next (Lds.rowF (by assumption))))))) ?_
      refine Ls (Rdo.gei rfl rfl) (Ls (Rdo.assign rfl) (Lnt (cK rfl (Wsr (Ls (Rdo.assign rfl) (Lnt (Wp.ret ?_)))))))
      refine Blk.r ?_
      refine Thn.r ?_
      exact Ret.now (by repeat (first | exact ResV.nil | apply ResV.tmp rfl | apply ResV.cell rfl (by repeat (first | exact Lds.one rfl | (apply Lds.all; (first | rfl | assumption | (simp <;> fail))) | exact Lds.ione0 | exact Lds.ione rfl | (apply Lds.iall; (first | rfl | assumption | (simp <;> fail))) | apply Lds.next)))) (Gh.trans Gk (rf_close (l := []) c rfl rfl rfl rfl rfl)) ⟨rfl, rfl⟩
    · have h2' : ¬ p.last ≥ 100 := h2
      rw [if_neg h2]
      by_cases h3 : tx = p.last + 1
      · rw [if_pos (by omega)]
        obtain ⟨pB, hpB⟩ : ∃ q : Prod, q = { p with opn := true, last := tx, began := c.now, parts := [pa] } := ⟨_, rfl⟩
        have hq : pB.parts = [pa] := by rw [hpB]
        have e1 : ∀ w, ((((rpsC c.prods vs).set (i * 6 + 2) (vi tx)).set (i * 6 + 3) (vb true)).set (i * 6 + 4) w).set (i * 6 + 5) (vi c.now) = rpsC (c.prods.set i pB) (vs.set i w) := by
          intro w
          rw [rps_set (p' := { p with last := tx }) (v' := .slice va p.parts.length vc) hp hv (by omega) rfl,
            rps_set (p' := { p with last := tx, opn := true }) (v' := .slice va p.parts.length vc) (set_self_at hp _) (set_self_at hv _) (by omega) rfl, List.set_set, List.set_set,
            rps_set (p' := { p with last := tx, opn := true, parts := [pa] }) (v' := w) (set_self_at hp _) (set_self_at hv _) (by omega) rfl, List.set_set, List.set_set,
            rps_set (p' := pB) (v' := w) (set_self_at hp _) (set_self_at hv _) (by omega) (by rw [hpB]; rfl), List.set_set, List.set_set]
        refine Trip.of_body Tryz.func38 rfl Tryz.ntmps38 Tryz.results38 rfl ?_
        refine Wsr ?_
        (refine WpL.step (Stp.boxV rfl (VC.ag _) rfl ?_); intro nb2)
        refine Ls (Rdo.assign rfl) (Lnt (Wp.seq ?_))
        refine Wp.draw (by kernel_rfl) ?_
        refine Qt (i := 0) rfl (Rdo.move rfl) (Qt (i := 1) rfl (Rdo.nilCheck rfl) (Qt (i := 2) rfl (Rdo.fieldAddr0 rfl) (Qt (i := 4) rfl (Rdo.fieldAddr0 rfl) ?_)))
        refine WpR.phaseL (m := 2) #[true, true, true, true, true, true, false, false] 2 _ rfl (by kernel_rfl) Tk.rfl_ ?_
        refine At (i := 3) rfl (Rdo.load rfl (Lds.next (Lds.next (Lds.next (Lds.one rfl))))) (At (i := 5) rfl (Rdo.load rfl (Lds.one rfl)) ?_)
        refine WpA.stop (by kernel_rfl) ?_
        refine WpR.lst (by simp only [List.cons_append, List.nil_append, List.append_nil]; exact rfl) ?_
        refine Qt (i := 6) rfl (Rdo.indexSlice rfl rfl (by omega)) ?_
        refine Qt (i := 7) rfl (Rdo.assign rfl) ?_
        refine WpR.done (by kernel_rfl) ?_
        refine Thn.n (Wp.seq (Wp.seq ?_))
        refine Wp.draw (by kernel_rfl) ?_
        refine Qt (i := 0) rfl (Rdo.move rfl) (Qt (i := 1) rfl (Rdo.nilCheck rfl) (Qt (i := 2) rfl (Rdo.fieldAddr rfl) ?_))
        refine Qo (i := 3) rfl (Stp.rd (Rdo.load rfl (Lds.next (Lds.next (Lds.next (Lds.next (Lds.rowF (by assumption))))))) rfl ?_)
        refine Qt (i := 4) rfl (Rdo.move rfl) ?_
        refine WpR.tF 18 rfl (by first | rfl | assumption | (simp only [decide_eq_true_eq, decide_eq_false_iff_not, Bool.not_eq_true', Bool.not_eq_false', List.length_cons, List.length_nil]; first | assumption | omega) | (simp <;> done) | (simp <;> omega)) ?_
        refine Qp (i := 5) rfl rfl rfl (Qp (i := 6) rfl rfl rfl (Qp (i := 7) rfl rfl rfl (Qp (i := 8) rfl rfl rfl (Qp (i := 9) rfl rfl rfl (Qp (i := 10) rfl rfl rfl (Qp (i := 11) rfl rfl rfl (Qt (i := 12) rfl (Rdo.pick_f rfl rfl) ?_)))))))
        refine WpR.done (by kernel_rfl) ?_
        refine Thn.n ?_
        refine Wp.condF rfl ?_
        refine Wp.skip (Thn.n (Wp.seq (Wp.block (Wsr (Ls (Rdo.move rfl) (Ls (Rdo.nilCheck rfl) (Ls (Rdo.fieldAddr rfl) ?_)))))))
        refine Ls (Rdo.load rfl (Lds.next (Lds.next (Lds.next (Lds.next (Lds.rowF (by assumption))))))) ?_
        refine Ls (Rdo.assign rfl) (Lnt (cL rfl (Wsr (Ls (Rdo.move rfl) (Ls (Rdo.nilCheck rfl) (Ls (Rdo.fieldAddr rfl) ?_))))))
        refine Ls (Rdo.load rfl (Lds.next (Lds.next (Lds.next (Lds.next (Lds.rowF (by assumption))))))) ?_
        refine Ls (Rdo.gei rfl rfl) (Ls (Rdo.assign rfl) (Lnt (cL rfl (Wp.seq ?_))))
        refine Wp.draw (by kernel_rfl) ?_
        refine Qt (i := 0) rfl (Rdo.fieldAddr0 rfl) (Qt (i := 2) rfl (Rdo.move rfl) (Qt (i := 3) rfl (Rdo.nilCheck rfl) (Qt (i := 4) rfl (Rdo.fieldAddr rfl) ?_)))
        refine WpR.load (i := 5) [1] rfl (by kernel_rfl) (by kernel_rfl) (by kernel_rfl) (by kernel_rfl) (by kernel_rfl) rfl Tk.rfl_ (Harm.rd rfl (Rdo.load rfl (Lds.one rfl)) Harm.nil) (Rdo.load rfl (Lds.next (Lds.next (Lds.next (Lds.next (Lds.rowF (by assumption))))))) rfl ?_
        refine Qt (i := 6) rfl (Rdo.add64 rfl rfl (by first | omega | (dsimp only; omega))) ?_
        refine Qo (i := 1) rfl (Stp.rd (Rdo.load rfl (Lds.one rfl)) rfl ?_)
        refine Qt (i := 7) rfl (Rdo.nei rfl rfl) (Qt (i := 8) rfl (Rdo.assign rfl) ?_)
        refine WpR.done (by kernel_rfl) ?_
        refine Thn.n (cL rfl (Wp.skip (Blk.n (Thn.n (Wp.seq ?_)))))
        refine Wp.draw (by kernel_rfl) ?_
        refine Qt (i := 0) rfl (Rdo.move rfl) (Qt (i := 1) rfl (Rdo.move rfl) (Qt (i := 2) rfl (Rdo.move rfl) (Qt (i := 3) rfl (Rdo.move rfl) (Qt (i := 4) rfl (Rdo.fieldAddr0 rfl) (Qt (i := 6) rfl (Rdo.fieldAddr0 rfl) (Qt (i := 9) rfl (Rdo.move rfl) (Qt (i := 10) rfl (Rdo.nilCheck rfl) (Qt (i := 11) rfl (Rdo.fieldAddr0 rfl) ?_))))))))
        refine WpR.phaseL (m := 0) #[true, true, true, true, true, true, true, true, true, true, true, true, true, true, true, true, true, true, true, true, true, true, true, true, true] 16 _ rfl (by kernel_rfl) (Tk.cons Pk.here (Tk.cons (Pk.next (Pk.next Pk.here)) Tk.nil)) ?_
        refine At (i := 5) rfl (Rdo.load rfl (Lds.one rfl)) (At (i := 7) rfl (Rdo.load rfl (Lds.one rfl)) (At (i := 12) rfl (Rdo.load rfl (Lds.next (Lds.one rfl))) (At (i := 13) rfl (Rdo.nilCheck rfl) (At (i := 14) rfl (Rdo.fieldAddr rfl) ?_))))
        refine PendA.start (hz := MK.sl rfl rfl (VCs.cons (VC.i _ _) (by first | rfl | assumption | (simp <;> done)) VCs.nil) (by first | exact rfl | (simp only [List.cons_append, List.nil_append, List.append_nil]; exact rfl)) rfl) (i := 8) rfl ?_
        refine PendA.one (hz := MK.sl rfl rfl (VCs.cons (VC.i _ _) (by first | rfl | assumption | (simp <;> done)) VCs.nil) (by first | exact rfl | (simp only [List.cons_append, List.nil_append, List.append_nil]; exact rfl)) rfl) (j := 15) rfl rfl (by kernel_rfl) (by kernel_rfl) (by kernel_rfl) rfl (by simp) rfl rfl (St rfl rfl (VC.i _ _) ?_)
        refine PendA.take (j := 16) rfl rfl (by kernel_rfl) (by kernel_rfl) (by kernel_rfl) rfl rfl (Rdo.nilCheck rfl) rfl ?_
        refine PendA.take (j := 17) rfl rfl (by kernel_rfl) (by kernel_rfl) (by kernel_rfl) rfl rfl (Rdo.fieldAddr rfl) rfl ?_
        refine PendA.one (hz := MK.sl rfl rfl (VCs.cons (VC.i _ _) (by first | rfl | assumption | (simp <;> done)) VCs.nil) (by first | exact rfl | (simp only [List.cons_append, List.nil_append, List.append_nil]; exact rfl)) rfl) (j := 18) rfl rfl (by kernel_rfl) (by kernel_rfl) (by kernel_rfl) rfl (by simp) rfl rfl (St rfl rfl (VC.b _) ?_)
        refine PendA.made (hz := MK.sl rfl rfl (VCs.cons (VC.i _ _) (by first | rfl | assumption | (simp <;> done)) VCs.nil) (by first | exact rfl | (simp only [List.cons_append, List.nil_append, List.append_nil]; exact rfl)) rfl) rfl (by kernel_rfl) rfl (fun nb105 => ?_)
        refine At (i := 19) rfl (Rdo.nilCheck rfl) (At (i := 20) rfl (Rdo.fieldAddr rfl) ?_)
        refine WpA.one (i := 21) rfl (by kernel_rfl) (St rfl rfl (VC.sl _ _ _) ?_)
        refine At (i := 22) rfl (Rdo.nilCheck rfl) (At (i := 23) rfl (Rdo.fieldAddr rfl) ?_)
        refine WpA.one (i := 24) rfl (by kernel_rfl) (St rfl rfl (VC.i _ _) ?_)
        refine WpA.stop (by kernel_rfl) ?_
        refine Ql ?_
        refine WpR.done (by kernel_rfl) ?_
        refine Thn.n (Wsr (Ls (Rdo.assign rfl) (Lnt (Wp.ret ?_))))
        rw [e1]
        refine Ret.now (by repeat (first | exact ResV.nil | apply ResV.tmp rfl | apply ResV.cell rfl (by repeat (first | exact Lds.one rfl | (apply Lds.all; (first | rfl | assumption | (simp <;> fail))) | exact Lds.ione0 | exact Lds.ione rfl | (apply Lds.iall; (first | rfl | assumption | (simp <;> fail))) | apply Lds.next)))) (Gh.trans (Gh.row (n := 1) (sz := 1) (b := nb105) (by repeat (first | exact Pk.here | apply Pk.next)) rfl) (Gh.trans (Gh.ice Pk.here) (Gh.trans (Gh.fzImp (Ψ := fun g => RdInts g (.slice (some ⟨nb105, 0, none⟩) 1 1) pB.parts) Pk.here (fun g h => by rw [hq]; exact h)) (Gh.trans (Gh.fzAnd (RdRow.mono _ _ _ _) (RdPs.mono c.prods vs) Pk.here (by repeat (first | exact Pk.here | apply Pk.next))) (Gh.trans (Gh.fzImp (Ψ := fun g => RdPs g (c.prods.set i pB) (vs.set i (.slice (some ⟨nb105, 0, none⟩) 1 1))) Pk.here (fun g h => RdPs.put h.2 h.1)) (Gh.trans Gk (rf_close (l := []) (c.put i pB) rfl rfl rfl rfl (by simp [CoS.put])))))))) ⟨rfl, by rw [hpB]⟩
      · rw [if_neg (by omega)]
        refine Trip.of_body Tryz.func38 rfl Tryz.ntmps38 Tryz.results38 rfl ?_
        refine Wsr ?_
        (refine WpL.step (Stp.boxV rfl (VC.ag _) rfl ?_); intro nb2)
        refine Ls (Rdo.assign rfl) (Lnt (Wp.seq ?_))
        refine Wp.draw (by kernel_rfl) ?_
        refine Qt (i := 0) rfl (Rdo.move rfl) (Qt (i := 1) rfl (Rdo.nilCheck rfl) (Qt (i := 2) rfl (Rdo.fieldAddr0 rfl) (Qt (i := 4) rfl (Rdo.fieldAddr0 rfl) ?_)))
        refine WpR.phaseL (m := 2) #[true, true, true, true, true, true, false, false] 2 _ rfl (by kernel_rfl) Tk.rfl_ ?_
        refine At (i := 3) rfl (Rdo.load rfl (Lds.next (Lds.next (Lds.next (Lds.one rfl))))) (At (i := 5) rfl (Rdo.load rfl (Lds.one rfl)) ?_)
        refine WpA.stop (by kernel_rfl) ?_
        refine WpR.lst (by simp only [List.cons_append, List.nil_append, List.append_nil]; exact rfl) ?_
        refine Qt (i := 6) rfl (Rdo.indexSlice rfl rfl (by omega)) ?_
        refine Qt (i := 7) rfl (Rdo.assign rfl) ?_
        refine WpR.done (by kernel_rfl) ?_
        refine Thn.n (Wp.seq (Wp.seq ?_))
        refine Wp.draw (by kernel_rfl) ?_
        refine Qt (i := 0) rfl (Rdo.move rfl) (Qt (i := 1) rfl (Rdo.nilCheck rfl) (Qt (i := 2) rfl (Rdo.fieldAddr rfl) ?_))
        refine Qo (i := 3) rfl (Stp.rd (Rdo.load rfl (Lds.next (Lds.next (Lds.next (Lds.next (Lds.rowF (by assumption))))))) rfl ?_)
        refine Qt (i := 4) rfl (Rdo.move rfl) ?_
        refine WpR.tF 18 rfl (by first | rfl | assumption | (simp only [decide_eq_true_eq, decide_eq_false_iff_not, Bool.not_eq_true', Bool.not_eq_false', List.length_cons, List.length_nil]; first | assumption | omega) | (simp <;> done) | (simp <;> omega)) ?_
        refine Qp (i := 5) rfl rfl rfl (Qp (i := 6) rfl rfl rfl (Qp (i := 7) rfl rfl rfl (Qp (i := 8) rfl rfl rfl (Qp (i := 9) rfl rfl rfl (Qp (i := 10) rfl rfl rfl (Qp (i := 11) rfl rfl rfl (Qt (i := 12) rfl (Rdo.pick_f rfl rfl) ?_)))))))
        refine WpR.done (by kernel_rfl) ?_
        refine Thn.n ?_
        refine Wp.condF rfl ?_
        refine Wp.skip (Thn.n (Wp.seq (Wp.block (Wsr (Ls (Rdo.move rfl) (Ls (Rdo.nilCheck rfl) (Ls (Rdo.fieldAddr rfl) ?_)))))))
        refine Ls (Rdo.load rfl (Lds.next (Lds.next (Lds.next (Lds.next (Lds.rowF (by assumption))))))) ?_
        refine Ls (Rdo.assign rfl) (Lnt (cL rfl (Wsr (Ls (Rdo.move rfl) (Ls (Rdo.nilCheck rfl) (Ls (Rdo.fieldAddr rfl) ?_))))))
        refine Ls (Rdo.load rfl (Lds.next (Lds.next (Lds.next (Lds.next (Lds.rowF (by assumption))))))) ?_
        refine Ls (Rdo.gei rfl rfl) (Ls (Rdo.assign rfl) (Lnt (cL rfl (Wp.seq ?_))))
        refine Wp.draw (by kernel_rfl) ?_
        refine Qt (i := 0) rfl (Rdo.fieldAddr0 rfl) (Qt (i := 2) rfl (Rdo.move rfl) (Qt (i := 3) rfl (Rdo.nilCheck rfl) (Qt (i := 4) rfl (Rdo.fieldAddr rfl) ?_)))
        refine WpR.load (i := 5) [1] rfl (by kernel_rfl) (by kernel_rfl) (by kernel_rfl) (by kernel_rfl) (by kernel_rfl) rfl Tk.rfl_ (Harm.rd rfl (Rdo.load rfl (Lds.one rfl)) Harm.nil) (Rdo.load rfl (Lds.next (Lds.next (Lds.next (Lds.next (Lds.rowF (by assumption))))))) rfl ?_
        refine Qt (i := 6) rfl (Rdo.add64 rfl rfl (by first | omega | (dsimp only; omega))) ?_
        refine Qo (i := 1) rfl (Stp.rd (Rdo.load rfl (Lds.one rfl)) rfl ?_)
        refine Qt (i := 7) rfl (Rdo.nei rfl rfl) (Qt (i := 8) rfl (Rdo.assign rfl) ?_)
        refine WpR.done (by kernel_rfl) ?_
        refine Thn.n (cK rfl (Wsr (Ls (Rdo.assign rfl) (Lnt (Wp.ret ?_)))))
        refine Blk.r ?_
        refine Thn.r ?_
        exact Ret.now (by repeat (first | exact ResV.nil | apply ResV.tmp rfl | apply ResV.cell rfl (by repeat (first | exact Lds.one rfl | (apply Lds.all; (first | rfl | assumption | (simp <;> fail))) | exact Lds.ione0 | exact Lds.ione rfl | (apply Lds.iall; (first | rfl | assumption | (simp <;> fail))) | apply Lds.next)))) (Gh.trans Gk (rf_close (l := []) c rfl rfl rfl rfl rfl)) ⟨rfl, rfl⟩
end Go.Proofs.YtccgdnocldmjeaaGreatDoor
namespace Go.Proofs.YtccgdnocldmjeaaGreatDoor
open Go
set_option maxHeartbeats 4000000
set_option linter.unusedSimpArgs false
set_option linter.unusedVariables false
set_option maxRecDepth 20000
abbrev tcE (x : Nat) (j : Nat) : Env := [(0, vp x 0), (2, vi j)]
theorem rtick_ok (x : Nat) (c : CoS) (h8 : c.prods.length ≤ 8) (hm : c.marks.length ≤ 100000) (hn : 0 ≤ c.now ∧ c.now ≤ 100000) (hb : ∀ p ∈ c.prods, 0 ≤ p.began ∧ p.began ≤ 100000) :
    Trip Tryz.prog 37 [vp x 0] [rfA x c] (fun r l => r = .tuple #[] ∧ l = [rfA x c.ticks.2]) := by
  refine Trip.ghE rfA_open ?_
  rintro ⟨pv, mv, dv, vs⟩ hvl
  simp only [rfX, List.cons_append, List.nil_append] at hvl ⊢
  refine Trip.of_body Tryz.func37 rfl Tryz.ntmps37 Tryz.results37 rfl ?_
  refine Wsr (Ls (Rdo.move rfl) (Ls (Rdo.nilCheck rfl) (Ls (Rdo.fieldAddr0 rfl) (Ls (Rdo.load rfl (Lds.one rfl)) ?_))))
  refine Ls (Rdo.add64 rfl rfl (by first | omega | (dsimp only; omega))) ?_
  refine Ls (Rdo.nilCheck rfl) (Ls (Rdo.fieldAddr0 rfl) ?_)
  refine WpL.step (Stp.storeV rfl rfl (VC.i _ _) rfl (Sp (oneCells1 rfl)) ?_)
  refine Lnt (Wsr (Ls (Rdo.assign rfl) (Lnt (Wp.block ?_))))
  refine Wp.loopE (fun k e h => ∃ j : Nat, j + k = c.prods.length ∧ e = tcE x j ∧ h = [rfA x (c.tickN j).1]) c.prods.length
    (e0 := tcE x 0) (l0 := [rfA x (c.tickN 0).1]) (by repeat (first | exact trivial | refine ⟨rfl, ?_⟩)) (by repeat (first | exact trivial | refine ⟨rfl, ?_⟩)) (Gh.trans Gk (rf_close (l := []) (c.tickN 0).1 rfl rfl rfl rfl rfl)) ⟨0, by omega, rfl, rfl⟩ ?_
  rintro k e h ⟨j, hjk, rfl, rfl⟩
  obtain ⟨s1, s2, s3, s4, s5⟩ := c.tickN_spec j
  have hsu := CoS.tickN_succ c j
  have hat := CoS.tickN_at c j j (Nat.le_refl _)
  have hml : (c.tickN j).1.marks.length ≤ 100000 + 8 := by rw [s4, List.length_append]; omega
  by_cases hj : j < c.prods.length
  · have hj' : (j : Int) < c.prods.length := by omega
    have hp : c.prods[j]? = some c.prods[j] := List.getElem?_eq_getElem hj
    have hbe := hb _ (List.getElem_mem hj)
    rw [hp] at hat
    generalize c.prods[j] = p at *
    have hgd : (c.tickN j).1.prods.getD j prod0 = p := by rw [List.getD_eq_getElem?_getD, hat]; rfl
    unfold CoS.tick1 at hsu
    rw [hgd] at hsu
    generalize hM2 : (c.tickN j).2 = M2 at *
    generalize hdd : (c.tickN j).1 = d at *
    refine Wp.ghE rfA_open ?_
    rintro ⟨pv, mv, dv, vs⟩ hvl
    simp only [rfX, List.cons_append, List.nil_append] at hvl ⊢
    obtain ⟨v, hv⟩ : ∃ v, vs[j]? = some v := ⟨vs[j]'(by omega), List.getElem?_eq_getElem (by omega)⟩
    refine Wp.get (Pk.next Pk.here) (fun r => rowA_at j (by omega)) ?_
    rintro ⟨pb, po, pc, rfl⟩
    have f1 := rps_at (f := 3) hat hv rfl
    have f2 := rps_at (f := 5) hat hv rfl
    have q1 := rend_op x (.slice (some ⟨pb, po, none⟩) d.prods.length pc) mv dv d.now d.prods vs d.marks 3 j p v hat hv hvl (by omega)
    by_cases ho : p.opn = true
    · by_cases h5 : d.now - p.began ≥ 5
      · have hag : d.ages p = true := by unfold CoS.ages; rw [ho]; simpa using h5
        rw [if_pos hag] at hsu
        refine Wp.seq (Wsr (Ls (Rdo.move rfl) (Ls (Rdo.move rfl) (Ls (Rdo.nilCheck rfl) (Ls (Rdo.fieldAddr0 rfl) (Ls (Rdo.load rfl (Lds.one rfl)) (Ls (Rdo.lenSlice rfl) (Ls (Rdo.lti rfl rfl) (Lnt (cK rfl (Wp.skip (Thn.n (Wp.seq ?_)))))))))))))
        refine Wp.block (Wp.seq ?_)
        refine Wp.draw (by kernel_rfl) ?_
        refine Qt (i := 0) rfl (Rdo.move rfl) (Qt (i := 1) rfl (Rdo.nilCheck rfl) (Qt (i := 2) rfl (Rdo.fieldAddr0 rfl) (Qt (i := 4) rfl (Rdo.move rfl) ?_)))
        refine Qo (i := 3) rfl (Stp.rd (Rdo.load rfl (Lds.one rfl)) rfl ?_)
        refine Qt (i := 5) rfl (Rdo.indexSlice rfl rfl (by omega)) ?_
        refine Qt (i := 6) rfl (Rdo.fieldAddr rfl) ?_
        refine Qo (i := 7) rfl (Stp.rd (Rdo.load rfl (Lds.next (Lds.rowF (by assumption)))) rfl ?_)
        refine Qt (i := 8) rfl (Rdo.move rfl) ?_
        refine WpR.tT 27 rfl (by first | rfl | assumption | (simp only [decide_eq_true_eq, decide_eq_false_iff_not, Bool.not_eq_true', Bool.not_eq_false', List.length_cons, List.length_nil]; first | assumption | omega) | (simp <;> done) | (simp <;> omega)) ?_
        refine Qw (i := 9) rfl rfl rfl (Rdo.move rfl) (Qw (i := 10) rfl rfl rfl (Rdo.nilCheck rfl) (Qw (i := 11) rfl rfl rfl (Rdo.fieldAddr0 rfl) (Qw (i := 13) rfl rfl rfl (Rdo.move rfl) (Qw (i := 14) rfl rfl rfl (Rdo.nilCheck rfl) (Qw (i := 15) rfl rfl rfl (Rdo.fieldAddr0 rfl) (Qw (i := 17) rfl rfl rfl (Rdo.move rfl) ?_))))))
        refine WpR.phaseL (m := 0) #[true, true, true, true, true, true, true, true, true, true, true, true, true, true, true, true, true, true, true, true, true, true, true, true] 8 _ rfl (by kernel_rfl) (Tk.cons Pk.here (Tk.cons Pk.here Tk.nil)) ?_
        refine Aw (i := 12) rfl rfl rfl (Rdo.load rfl (Lds.one rfl)) (Aw (i := 16) rfl rfl rfl (Rdo.load rfl (Lds.one rfl)) ?_)
        refine Aw (i := 18) rfl rfl rfl (Rdo.indexSlice rfl rfl (by omega)) ?_
        refine Aw (i := 19) rfl rfl rfl (Rdo.fieldAddr rfl) ?_
        refine Aw (i := 20) rfl rfl rfl (Rdo.load rfl (Lds.next (Lds.rowF (by assumption)))) ?_
        refine Aw (i := 21) rfl rfl rfl (Rdo.sub64 rfl rfl (by omega)) ?_
        refine Aw (i := 22) rfl rfl rfl (Rdo.gei rfl rfl) (At (i := 23) rfl (Rdo.pick_t rfl rfl) ?_)
        refine WpA.stop (by kernel_rfl) ?_
        refine Ql ?_
        refine WpR.done (by kernel_rfl) ?_
        refine Thn.n (cK rfl (Wp.region (Ls (Rdo.move rfl) (Ls (Rdo.move rfl) ?_))))
        refine WpL.step (Sc (q1) rfl ?_)
        rintro _ _ ⟨v54_0, ⟨v54_1, ⟨rfl, rfl⟩⟩⟩
        refine Ll ?_
        refine WpL.nil (Blk.n (Thn.n (Wp.region (Ls (Rdo.move rfl) ?_))))
        refine Ls (Rdo.succ rfl rfl (by omega)) ?_
        refine Ls (Rdo.assign rfl) (Lnt ?_)
        refine ⟨k - 1, _, _, by omega, ⟨j + 1, by omega, rfl, rfl⟩, (by repeat (first | exact trivial | refine ⟨rfl, ?_⟩)), ?_⟩
        rw [hsu]
        exact Gh.trans (Gh.fzImp (Φ := fun g => RdPs g d.prods vs) (Ψ := fun g => RdPs g (d.prods.set j { p with opn := false, parts := [] }) (vs.set j vnil)) (by repeat (first | exact Pk.here | apply Pk.next)) (fun g h => RdPs.cut h rfl)) (Gh.trans Gk (ends_shut (l := []) (x := x) (c := d) (i := j) (p := p) (K := 3) (vs' := vs.set j vnil) rfl))
      · have hag : ¬ d.ages p = true := by unfold CoS.ages; rw [ho]; simpa using h5
        rw [if_neg hag] at hsu
        refine Wp.seq (Wsr (Ls (Rdo.move rfl) (Ls (Rdo.move rfl) (Ls (Rdo.nilCheck rfl) (Ls (Rdo.fieldAddr0 rfl) (Ls (Rdo.load rfl (Lds.one rfl)) (Ls (Rdo.lenSlice rfl) (Ls (Rdo.lti rfl rfl) (Lnt (cK rfl (Wp.skip (Thn.n (Wp.seq ?_)))))))))))))
        refine Wp.block (Wp.seq ?_)
        refine Wp.draw (by kernel_rfl) ?_
        refine Qt (i := 0) rfl (Rdo.move rfl) (Qt (i := 1) rfl (Rdo.nilCheck rfl) (Qt (i := 2) rfl (Rdo.fieldAddr0 rfl) (Qt (i := 4) rfl (Rdo.move rfl) ?_)))
        refine Qo (i := 3) rfl (Stp.rd (Rdo.load rfl (Lds.one rfl)) rfl ?_)
        refine Qt (i := 5) rfl (Rdo.indexSlice rfl rfl (by omega)) ?_
        refine Qt (i := 6) rfl (Rdo.fieldAddr rfl) ?_
        refine Qo (i := 7) rfl (Stp.rd (Rdo.load rfl (Lds.next (Lds.rowF (by assumption)))) rfl ?_)
        refine Qt (i := 8) rfl (Rdo.move rfl) ?_
        refine WpR.tT 27 rfl (by first | rfl | assumption | (simp only [decide_eq_true_eq, decide_eq_false_iff_not, Bool.not_eq_true', Bool.not_eq_false', List.length_cons, List.length_nil]; first | assumption | omega) | (simp <;> done) | (simp <;> omega)) ?_
        refine Qw (i := 9) rfl rfl rfl (Rdo.move rfl) (Qw (i := 10) rfl rfl rfl (Rdo.nilCheck rfl) (Qw (i := 11) rfl rfl rfl (Rdo.fieldAddr0 rfl) (Qw (i := 13) rfl rfl rfl (Rdo.move rfl) (Qw (i := 14) rfl rfl rfl (Rdo.nilCheck rfl) (Qw (i := 15) rfl rfl rfl (Rdo.fieldAddr0 rfl) (Qw (i := 17) rfl rfl rfl (Rdo.move rfl) ?_))))))
        refine WpR.phaseL (m := 0) #[true, true, true, true, true, true, true, true, true, true, true, true, true, true, true, true, true, true, true, true, true, true, true, true] 8 _ rfl (by kernel_rfl) (Tk.cons Pk.here (Tk.cons Pk.here Tk.nil)) ?_
        refine Aw (i := 12) rfl rfl rfl (Rdo.load rfl (Lds.one rfl)) (Aw (i := 16) rfl rfl rfl (Rdo.load rfl (Lds.one rfl)) ?_)
        refine Aw (i := 18) rfl rfl rfl (Rdo.indexSlice rfl rfl (by omega)) ?_
        refine Aw (i := 19) rfl rfl rfl (Rdo.fieldAddr rfl) ?_
        refine Aw (i := 20) rfl rfl rfl (Rdo.load rfl (Lds.next (Lds.rowF (by assumption)))) ?_
        refine Aw (i := 21) rfl rfl rfl (Rdo.sub64 rfl rfl (by omega)) ?_
        refine Aw (i := 22) rfl rfl rfl (Rdo.gei rfl rfl) (At (i := 23) rfl (Rdo.pick_t rfl rfl) ?_)
        refine WpA.stop (by kernel_rfl) ?_
        refine Ql ?_
        refine WpR.done (by kernel_rfl) ?_
        refine Thn.n (cL rfl (Wp.skip (Blk.n (Thn.n (Wp.region (Ls (Rdo.move rfl) ?_))))))
        refine Ls (Rdo.succ rfl rfl (by omega)) ?_
        refine Ls (Rdo.assign rfl) (Lnt ?_)
        refine ⟨k - 1, _, _, by omega, ⟨j + 1, by omega, rfl, rfl⟩, (by repeat (first | exact trivial | refine ⟨rfl, ?_⟩)), ?_⟩
        rw [hsu, hdd]
        exact Gh.trans Gk (rf_close (l := []) d rfl rfl rfl rfl rfl)
    · have ho' : p.opn = false := by simpa using ho
      have hag : ¬ d.ages p = true := by unfold CoS.ages; rw [ho']; simp
      rw [if_neg hag] at hsu
      refine Wp.seq (Wsr (Ls (Rdo.move rfl) (Ls (Rdo.move rfl) (Ls (Rdo.nilCheck rfl) (Ls (Rdo.fieldAddr0 rfl) (Ls (Rdo.load rfl (Lds.one rfl)) (Ls (Rdo.lenSlice rfl) (Ls (Rdo.lti rfl rfl) (Lnt (cK rfl (Wp.skip (Thn.n (Wp.seq ?_)))))))))))))
      refine Wp.block (Wp.seq ?_)
      refine Wp.draw (by kernel_rfl) ?_
      refine Qt (i := 0) rfl (Rdo.move rfl) (Qt (i := 1) rfl (Rdo.nilCheck rfl) (Qt (i := 2) rfl (Rdo.fieldAddr0 rfl) (Qt (i := 4) rfl (Rdo.move rfl) ?_)))
      refine Qo (i := 3) rfl (Stp.rd (Rdo.load rfl (Lds.one rfl)) rfl ?_)
      refine Qt (i := 5) rfl (Rdo.indexSlice rfl rfl (by omega)) ?_
      refine Qt (i := 6) rfl (Rdo.fieldAddr rfl) ?_
      refine Qo (i := 7) rfl (Stp.rd (Rdo.load rfl (Lds.next (Lds.rowF (by assumption)))) rfl ?_)
      refine Qt (i := 8) rfl (Rdo.move rfl) ?_
      refine WpR.tF 27 rfl (by first | rfl | assumption | (simp only [decide_eq_true_eq, decide_eq_false_iff_not, Bool.not_eq_true', Bool.not_eq_false', List.length_cons, List.length_nil]; first | assumption | omega) | (simp <;> done) | (simp <;> omega)) ?_
      refine Qp (i := 9) rfl rfl rfl (Qp (i := 10) rfl rfl rfl (Qp (i := 11) rfl rfl rfl (Qp (i := 12) rfl rfl rfl (Qp (i := 13) rfl rfl rfl (Qp (i := 14) rfl rfl rfl (Qp (i := 15) rfl rfl rfl (Qp (i := 16) rfl rfl rfl (Qp (i := 17) rfl rfl rfl (Qp (i := 18) rfl rfl rfl (Qp (i := 19) rfl rfl rfl (Qp (i := 20) rfl rfl rfl (Qp (i := 21) rfl rfl rfl (Qp (i := 22) rfl rfl rfl ?_)))))))))))))
      refine Qt (i := 23) rfl (Rdo.pick_f rfl rfl) ?_
      refine WpR.done (by kernel_rfl) ?_
      refine Thn.n ?_
      refine Wp.condF rfl ?_
      refine Wp.skip (Blk.n (Thn.n (Wp.region (Ls (Rdo.move rfl) ?_))))
      refine Ls (Rdo.succ rfl rfl (by omega)) ?_
      refine Ls (Rdo.assign rfl) (Lnt ?_)
      refine ⟨k - 1, _, _, by omega, ⟨j + 1, by omega, rfl, rfl⟩, (by repeat (first | exact trivial | refine ⟨rfl, ?_⟩)), ?_⟩
      rw [hsu, hdd]
      exact Gh.trans Gk (rf_close (l := []) d rfl rfl rfl rfl rfl)
  · obtain rfl : j = c.prods.length := by omega
    refine Wp.ghE rfA_open ?_
    rintro ⟨pv, mv, dv, vs⟩ hvl
    simp only [rfX, List.cons_append, List.nil_append] at hvl ⊢
    refine Wp.get (Pk.next Pk.here) (fun r => rowA_shape) ?_
    rintro ⟨pa, pc, rfl⟩
    refine Wp.seq (Wsr (Ls (Rdo.move rfl) (Ls (Rdo.move rfl) (Ls (Rdo.nilCheck rfl) (Ls (Rdo.fieldAddr0 rfl) (Ls (Rdo.load rfl (Lds.one rfl)) (Ls (Rdo.lenSlice rfl) (Ls (Rdo.lti rfl rfl) (Lnt (cL rfl ?_))))))))))
    refine Wp.exit ?_
    refine Thn.x ?_
    refine Thn.x ?_
    refine Blk.here ?_
    exact Ret.end_ ResV.nil (Gh.trans Gk (rf_close (l := []) c.ticks.2 rfl rfl rfl rfl rfl)) ⟨rfl, rfl⟩
end Go.Proofs.YtccgdnocldmjeaaGreatDoor
namespace Go.Proofs.YtccgdnocldmjeaaGreatDoor
open Go
set_option maxHeartbeats 4000000
set_option linter.unusedSimpArgs false
set_option linter.unusedVariables false
set_option maxRecDepth 20000
def PaL (ps : List Prod) : Prop := ∀ p ∈ ps, partsOk p.parts
theorem partsOk_nil : partsOk [] := ⟨List.nodup_nil, by simp⟩
theorem partsOk_one {x : Int} (h : 0 ≤ x ∧ x ≤ 3) : partsOk [x] := ⟨by simp, by simpa using h⟩
theorem partsOk_add {xs : List Int} {x : Int} (h : partsOk xs) (hx : 0 ≤ x ∧ x ≤ 3) : partsOk (addI xs x) := by
  unfold addI
  split
  · exact h
  · rename_i hn
    refine ⟨?_, ?_⟩
    · rw [List.nodup_append]
      exact ⟨h.1, by simp, fun a ha b hb e => hn (by simp only [List.mem_singleton] at hb; rw [← hb, ← e]; exact ha)⟩
    · intro y hy
      rcases List.mem_append.1 hy with hy | hy
      · exact h.2 y hy
      · simp only [List.mem_singleton] at hy; rw [hy]; exact hx
theorem PaL.set {ps : List Prod} {i : Nat} {p : Prod} (h : PaL ps) (hp : partsOk p.parts) : PaL (ps.set i p) := by
  intro x hx
  rcases mem_set_cases hx with hx | rfl
  · exact h x hx
  · exact hp
theorem again_Pa {c : CoS} (h : PaL c.prods) (i : Nat) (p : Prod) (hp : p ∈ c.prods) : PaL (c.again i p).2.2.prods := by
  unfold CoS.again
  split
  · exact h
  · split
    · simp only [CoS.lay, CoS.put, CoS.decide, List.set_set]
      exact h.set partsOk_nil
    · exact h.set (h p hp)
theorem begins_Pa {c : CoS} (h : PaL c.prods) (s : List UInt8) : PaL (c.begins s).2.2.prods := by
  unfold CoS.begins
  split
  · split
    · exact h
    · intro x hx
      simp only [List.mem_append, List.mem_singleton] at hx
      rcases hx with hx | rfl
      · exact h x hx
      · exact partsOk_nil
  · rename_i i hi
    obtain ⟨p, hpi, _⟩ := nameAt_get hi
    exact again_Pa h i _ (getD_mem (List.getElem?_eq_some_iff.1 hpi).1)
theorem adds_Pa {c : CoS} (h : PaL c.prods) (o : Go.Proofs.YtccgdnocldmjeaaGreatDoor.Op) (ho : okOp o) (i : Nat) (p : Prod) (hp : p ∈ c.prods) : PaL (c.adds o i p).2.prods := by
  unfold CoS.adds
  split
  · split
    · exact h.set (partsOk_add (h p hp) ho.part)
    · exact h
  · split
    · exact h
    · split
      · exact h.set (partsOk_one ho.part)
      · exact h
theorem ends_Pa {c : CoS} (h : PaL c.prods) (o : Go.Proofs.YtccgdnocldmjeaaGreatDoor.Op) (i : Nat) (p : Prod) : PaL (c.ends o i p).2.2.prods := by
  unfold CoS.ends
  split
  · exact h.set partsOk_nil
  · split <;> exact h
theorem ticks_Pa {c : CoS} (h : PaL c.prods) : PaL c.ticks.2.prods := by
  have : ∀ n, PaL (c.tickN n).1.prods := by
    intro n
    induction n with
    | zero => exact h
    | succ n ih =>
      rw [CoS.tickN_succ]
      unfold CoS.tick1
      split
      · exact ih.set partsOk_nil
      · exact ih
  exact this _
theorem does_Pa {c : CoS} (h : PaL c.prods) (o : Go.Proofs.YtccgdnocldmjeaaGreatDoor.Op) (ho : okOp o) : PaL (c.does o).2.2.prods := by
  unfold CoS.does
  split
  · exact begins_Pa h _
  · split
    · exact ticks_Pa h
    · split
      · rename_i h3
        have hp : c.prods.getD o.producer.toNat prod0 ∈ c.prods := getD_mem (by omega)
        simp only
        split
        · split
          · exact adds_Pa h o ho _ _ hp
          · exact ends_Pa h o _ _
        · exact h
      · exact h
theorem apply_Pa {c : CoS} (h : PaL c.prods) (o : Go.Proofs.YtccgdnocldmjeaaGreatDoor.Op) : PaL (c.apply o).2.2.prods := by
  unfold CoS.apply
  split
  · rename_i ho
    split
    · exact h
    · exact does_Pa h o ho
  · exact h
end Go.Proofs.YtccgdnocldmjeaaGreatDoor
namespace Go.Proofs.YtccgdnocldmjeaaGreatDoor
open Go
set_option maxHeartbeats 4000000
set_option linter.unusedSimpArgs false
set_option linter.unusedVariables false
set_option maxRecDepth 20000
theorem rdoes_ok (x : Nat) (c : CoS) (o : Go.Proofs.YtccgdnocldmjeaaGreatDoor.Op) (k : Nat) (hk : k ≤ 1000) (h : c.Ok k) (ho : okOp o) (hd : DecOk c) (hpa : PaL c.prods) :
    Trip Tryz.prog 16 [vp x 0, .agg (opC o).toArray] [rfA x c] (fun r l => r = .agg (repC (c.does o).1).toArray ∧ l = [rfA x (c.does o).2.2]) := by
  have h8 := h.n8
  have hml := h.ml
  have hnow := h.now
  have hok := ho.kind
  have hpo := ho.producer
  unfold CoS.does
  by_cases h1 : o.kind = 1
  · rw [if_pos h1]
    have s1 := rbegin_ok x c o.name h8 (by omega) (fun p hp => (h.pr p hp).1)
    refine Trip.of_body Tryz.func16 rfl Tryz.ntmps16 Tryz.results16 rfl ?_
    refine Wsr ?_
    (refine WpL.step (Stp.boxV rfl (VC.ag _) rfl ?_); intro nb2)
    (refine WpL.step (Stp.alloc rfl ?_); intro nb3)
    refine Lnt (Wp.seq (Wsr (Ls (Rdo.fieldAddr0 rfl) (Ls (Rdo.load rfl (Lds.next (Lds.one rfl))) (Lnt (Wp.block (Wsr (Ls (Rdo.eqi rfl rfl) (Ls (Rdo.assign rfl) (Lnt (cK rfl (Wsr (Ls (Rdo.move rfl) ?_)))))))))))))
    refine Ls (Rdo.fieldAddr0 rfl) (Ls (Rdo.load rfl (Lds.next (Lds.one rfl))) ?_)
    refine WpL.step (Sc (s1) rfl ?_)
    rintro _ _ ⟨rfl, rfl⟩
    refine Ll ?_
    refine WpL.step (St rfl rfl (VC.ag _) ?_)
    refine Lnt (Wp.ret ?_)
    refine Blk.r ?_
    refine Thn.r ?_
    refine Rt (ResV.cell rfl (by repeat (first | exact Lds.one rfl | (apply Lds.all; (first | rfl | assumption | (simp <;> fail))) | exact Lds.ione0 | exact Lds.ione rfl | (apply Lds.iall; (first | rfl | assumption | (simp <;> fail))) | apply Lds.next)) ResV.nil) ⟨rfl, rfl⟩
  · rw [if_neg h1]
    by_cases h4 : o.kind = 4
    · rw [if_pos h4]
      have s1 := rtick_ok x c h8 (by omega) (by omega) (fun p hp => by have := (h.pr p hp).2.2; omega)
      refine Trip.of_body Tryz.func16 rfl Tryz.ntmps16 Tryz.results16 rfl ?_
      refine Wsr ?_
      (refine WpL.step (Stp.boxV rfl (VC.ag _) rfl ?_); intro nb2)
      (refine WpL.step (Stp.alloc rfl ?_); intro nb3)
      refine Lnt (Wp.seq (Wsr (Ls (Rdo.fieldAddr0 rfl) (Ls (Rdo.load rfl (Lds.next (Lds.one rfl))) (Lnt (Wp.block (Wsr (Ls (Rdo.eqi rfl rfl) (Ls (Rdo.assign rfl) (Lnt (cL rfl (Wsr (Ls (Rdo.eqi rfl rfl) ?_)))))))))))))
      refine Ls (Rdo.assign rfl) (Lnt (cK rfl (Wsr (Ls (Rdo.move rfl) ?_))))
      refine WpL.step (Sc (s1) rfl ?_)
      rintro _ _ ⟨rfl, rfl⟩
      refine Ll ?_
      refine Lnt (Wsr (Ls (Rdo.bld rfl (BldL.nil _)) ?_))
      refine WpL.step (St rfl rfl (VC.ag _) ?_)
      refine Lnt (Wp.ret ?_)
      refine Blk.r ?_
      refine Thn.r ?_
      refine Rt (ResV.cell rfl (by repeat (first | exact Lds.one rfl | (apply Lds.all; (first | rfl | assumption | (simp <;> fail))) | exact Lds.ione0 | exact Lds.ione rfl | (apply Lds.iall; (first | rfl | assumption | (simp <;> fail))) | apply Lds.next)) ResV.nil) ⟨rfl, rfl⟩
    · rw [if_neg h4]
      by_cases hp : 0 ≤ o.producer ∧ o.producer < c.prods.length
      · rw [if_pos hp]
        simp only
        obtain ⟨i, hi⟩ : ∃ i : Nat, o.producer = i := ⟨o.producer.toNat, by omega⟩
        have hi2 : o.producer.toNat = i := by omega
        have hil : i < c.prods.length := by omega
        obtain ⟨k0, cl, sq, nm, pr, ep, tx, pa, cm⟩ := o
        simp only at hi hi2 h1 h4 hok hpo hp ⊢
        subst hi
        have hpi := getD_get (ps := c.prods) (i := i) hil
        have hpm := getD_mem (ps := c.prods) (i := i) hil
        rw [hi2]
        generalize c.prods.getD i prod0 = p at *
        have hpr := h.pr p hpm
        have hpk := (hpa p hpm).len
        have s1 := radd_ok x c ⟨k0, cl, sq, nm, i, ep, tx, pa, cm⟩ i p rfl hpi hpr.2.1 (by omega)
        have s2 := rclose_ok x c ⟨k0, cl, sq, nm, i, ep, tx, pa, cm⟩ i p rfl hpi hd (by omega)
        refine Trip.ghE rfA_open ?_
        rintro ⟨pv, mv, dv, vs⟩ hvl
        simp only [rfX, List.cons_append, List.nil_append] at hvl ⊢
        obtain ⟨v, hv⟩ : ∃ v, vs[i]? = some v := ⟨vs[i]'(by omega), List.getElem?_eq_getElem (by omega)⟩
        refine Trip.get (Pk.next Pk.here) (fun r => rowA_at i hil) ?_
        rintro ⟨pb, po, pc, rfl⟩
        have f1 := rps_at (f := 1) hpi hv rfl
        by_cases he : ep = p.epoch
        · rw [if_pos he]
          by_cases h2 : k0 = 2
          · rw [if_pos h2]
            refine Trip.of_body Tryz.func16 rfl Tryz.ntmps16 Tryz.results16 rfl ?_
            refine Wsr ?_
            (refine WpL.step (Stp.boxV rfl (VC.ag _) rfl ?_); intro nb2)
            (refine WpL.step (Stp.alloc rfl ?_); intro nb3)
            refine Lnt (Wp.seq (Wsr (Ls (Rdo.fieldAddr0 rfl) (Ls (Rdo.load rfl (Lds.next (Lds.one rfl))) (Lnt (Wp.block (Wsr (Ls (Rdo.eqi rfl rfl) (Ls (Rdo.assign rfl) (Lnt (cL rfl (Wsr (Ls (Rdo.eqi rfl rfl) ?_)))))))))))))
            refine Ls (Rdo.assign rfl) (Lnt (cL rfl (Wp.skip (Blk.n (Thn.n (Wp.seq (Wp.block (Wp.seq ?_))))))))
            refine Wp.draw (by kernel_rfl) ?_
            refine Qt (i := 0) rfl (Rdo.fieldAddr0 rfl) (Qt (i := 2) rfl (Rdo.move rfl) (Qt (i := 3) rfl (Rdo.nilCheck rfl) (Qt (i := 4) rfl (Rdo.fieldAddr0 rfl) ?_)))
            refine WpR.load (i := 5) [1] rfl (by kernel_rfl) (by kernel_rfl) (by kernel_rfl) (by kernel_rfl) (by kernel_rfl) rfl Tk.rfl_ (Harm.rd rfl (Rdo.load rfl (Lds.next (Lds.one rfl))) Harm.nil) (Rdo.load rfl (Lds.next (Lds.next (Lds.one rfl)))) rfl ?_
            refine Qt (i := 6) rfl (Rdo.lenSlice rfl) ?_
            refine Qo (i := 1) rfl (Stp.rd (Rdo.load rfl (Lds.next (Lds.one rfl))) rfl ?_)
            refine Qt (i := 7) rfl (Rdo.gei rfl rfl) (Qt (i := 8) rfl (Rdo.assign rfl) ?_)
            refine WpR.done (by kernel_rfl) ?_
            refine Thn.n (cL rfl (Wp.seq ?_))
            refine Wp.draw (by kernel_rfl) ?_
            refine Qt (i := 0) rfl (Rdo.fieldAddr0 rfl) (Qt (i := 2) rfl (Rdo.move rfl) (Qt (i := 3) rfl (Rdo.nilCheck rfl) (Qt (i := 4) rfl (Rdo.fieldAddr0 rfl) (Qt (i := 6) rfl (Rdo.fieldAddr0 rfl) ?_))))
            refine WpR.load (i := 5) [1, 7] rfl (by kernel_rfl) (by kernel_rfl) (by kernel_rfl) (by kernel_rfl) (by kernel_rfl) rfl Tk.rfl_ (Harm.rd rfl (Rdo.load rfl (Lds.next (Lds.one rfl))) (Harm.rd rfl (Rdo.load rfl (Lds.next (Lds.one rfl))) Harm.nil)) (Rdo.load rfl (Lds.next (Lds.next (Lds.one rfl)))) rfl ?_
            refine WpR.load (i := 7) [1] rfl (by kernel_rfl) (by kernel_rfl) (by kernel_rfl) (by kernel_rfl) (by kernel_rfl) rfl Tk.rfl_ (Harm.rd rfl (Rdo.load rfl (Lds.next (Lds.one rfl))) Harm.nil) (Rdo.load rfl (Lds.next (Lds.one rfl))) rfl ?_
            refine Qt (i := 8) rfl (Rdo.indexSlice rfl rfl (by omega)) ?_
            refine Qt (i := 9) rfl (Rdo.fieldAddr rfl) ?_
            refine WpR.load (i := 10) [1] rfl (by kernel_rfl) (by kernel_rfl) (by kernel_rfl) (by kernel_rfl) (by kernel_rfl) rfl Tk.rfl_ (Harm.rd rfl (Rdo.load rfl (Lds.next (Lds.one rfl))) Harm.nil) (Rdo.load rfl (Lds.next (Lds.next (Lds.next (Lds.rowF (by assumption)))))) rfl ?_
            refine Qo (i := 1) rfl (Stp.rd (Rdo.load rfl (Lds.next (Lds.one rfl))) rfl ?_)
            refine Qt (i := 11) rfl (Rdo.nei rfl rfl) (Qt (i := 12) rfl (Rdo.assign rfl) ?_)
            refine WpR.done (by kernel_rfl) ?_
            refine Thn.n (cL rfl (Wsr (Ls (Rdo.fieldAddr0 rfl) (Ls (Rdo.load rfl (Lds.next (Lds.one rfl))) (Ls (Rdo.eqi rfl rfl) (Ls (Rdo.assign rfl) (Lnt (cK rfl (Wsr (Ls (Rdo.move rfl) ?_))))))))))
            refine Ls (Rdo.load rfl (Lds.next Ld)) ?_
            refine WpL.gh (Gh.trans Gk (rf_close (x := x) (pv := .slice (some ⟨pb, po, none⟩) c.prods.length pc) (mv := mv) (dv := dv) (vs := vs) (l := [cel nb3 34 [vi 0, vi 0, vi 0], cel nb2 38 (opC ⟨k0, cl, sq, nm, i, ep, tx, pa, cm⟩)]) c rfl rfl rfl rfl rfl)) ?_
            refine WpL.step (Sc (s1) rfl ?_)
            rintro _ _ ⟨rfl, rfl⟩
            refine Ll ?_
            refine Ls (Rdo.bld rfl (BldL.cons rfl (VC.i _ _) (by first | rfl | assumption | (simp <;> done)) (by repeat (first | exact LPut.nil _ | apply LPut.here | apply LPut.next)) (BldL.nil _))) ?_
            refine WpL.step (St rfl rfl (VC.ag _) ?_)
            refine Lnt (Wp.ret ?_)
            refine Blk.r ?_
            refine Thn.r ?_
            refine Rt (ResV.cell rfl (by repeat (first | exact Lds.one rfl | (apply Lds.all; (first | rfl | assumption | (simp <;> fail))) | exact Lds.ione0 | exact Lds.ione rfl | (apply Lds.iall; (first | rfl | assumption | (simp <;> fail))) | apply Lds.next)) ResV.nil) ⟨rfl, rfl⟩
          · rw [if_neg h2]
            refine Trip.of_body Tryz.func16 rfl Tryz.ntmps16 Tryz.results16 rfl ?_
            refine Wsr ?_
            (refine WpL.step (Stp.boxV rfl (VC.ag _) rfl ?_); intro nb2)
            (refine WpL.step (Stp.alloc rfl ?_); intro nb3)
            refine Lnt (Wp.seq (Wsr (Ls (Rdo.fieldAddr0 rfl) (Ls (Rdo.load rfl (Lds.next (Lds.one rfl))) (Lnt (Wp.block (Wsr (Ls (Rdo.eqi rfl rfl) (Ls (Rdo.assign rfl) (Lnt (cL rfl (Wsr (Ls (Rdo.eqi rfl rfl) ?_)))))))))))))
            refine Ls (Rdo.assign rfl) (Lnt (cL rfl (Wp.skip (Blk.n (Thn.n (Wp.seq (Wp.block (Wp.seq ?_))))))))
            refine Wp.draw (by kernel_rfl) ?_
            refine Qt (i := 0) rfl (Rdo.fieldAddr0 rfl) (Qt (i := 2) rfl (Rdo.move rfl) (Qt (i := 3) rfl (Rdo.nilCheck rfl) (Qt (i := 4) rfl (Rdo.fieldAddr0 rfl) ?_)))
            refine WpR.load (i := 5) [1] rfl (by kernel_rfl) (by kernel_rfl) (by kernel_rfl) (by kernel_rfl) (by kernel_rfl) rfl Tk.rfl_ (Harm.rd rfl (Rdo.load rfl (Lds.next (Lds.one rfl))) Harm.nil) (Rdo.load rfl (Lds.next (Lds.next (Lds.one rfl)))) rfl ?_
            refine Qt (i := 6) rfl (Rdo.lenSlice rfl) ?_
            refine Qo (i := 1) rfl (Stp.rd (Rdo.load rfl (Lds.next (Lds.one rfl))) rfl ?_)
            refine Qt (i := 7) rfl (Rdo.gei rfl rfl) (Qt (i := 8) rfl (Rdo.assign rfl) ?_)
            refine WpR.done (by kernel_rfl) ?_
            refine Thn.n (cL rfl (Wp.seq ?_))
            refine Wp.draw (by kernel_rfl) ?_
            refine Qt (i := 0) rfl (Rdo.fieldAddr0 rfl) (Qt (i := 2) rfl (Rdo.move rfl) (Qt (i := 3) rfl (Rdo.nilCheck rfl) (Qt (i := 4) rfl (Rdo.fieldAddr0 rfl) (Qt (i := 6) rfl (Rdo.fieldAddr0 rfl) ?_))))
            refine WpR.load (i := 5) [1, 7] rfl (by kernel_rfl) (by kernel_rfl) (by kernel_rfl) (by kernel_rfl) (by kernel_rfl) rfl Tk.rfl_ (Harm.rd rfl (Rdo.load rfl (Lds.next (Lds.one rfl))) (Harm.rd rfl (Rdo.load rfl (Lds.next (Lds.one rfl))) Harm.nil)) (Rdo.load rfl (Lds.next (Lds.next (Lds.one rfl)))) rfl ?_
            refine WpR.load (i := 7) [1] rfl (by kernel_rfl) (by kernel_rfl) (by kernel_rfl) (by kernel_rfl) (by kernel_rfl) rfl Tk.rfl_ (Harm.rd rfl (Rdo.load rfl (Lds.next (Lds.one rfl))) Harm.nil) (Rdo.load rfl (Lds.next (Lds.one rfl))) rfl ?_
            refine Qt (i := 8) rfl (Rdo.indexSlice rfl rfl (by omega)) ?_
            refine Qt (i := 9) rfl (Rdo.fieldAddr rfl) ?_
            refine WpR.load (i := 10) [1] rfl (by kernel_rfl) (by kernel_rfl) (by kernel_rfl) (by kernel_rfl) (by kernel_rfl) rfl Tk.rfl_ (Harm.rd rfl (Rdo.load rfl (Lds.next (Lds.one rfl))) Harm.nil) (Rdo.load rfl (Lds.next (Lds.next (Lds.next (Lds.rowF (by assumption)))))) rfl ?_
            refine Qo (i := 1) rfl (Stp.rd (Rdo.load rfl (Lds.next (Lds.one rfl))) rfl ?_)
            refine Qt (i := 11) rfl (Rdo.nei rfl rfl) (Qt (i := 12) rfl (Rdo.assign rfl) ?_)
            refine WpR.done (by kernel_rfl) ?_
            refine Thn.n (cL rfl (Wsr (Ls (Rdo.fieldAddr0 rfl) (Ls (Rdo.load rfl (Lds.next (Lds.one rfl))) (Ls (Rdo.eqi rfl rfl) (Ls (Rdo.assign rfl) (Lnt (cL rfl (Wp.skip (Blk.n (Thn.n (Wsr (Ls (Rdo.move rfl) ?_)))))))))))))
            refine Ls (Rdo.load rfl (Lds.next Ld)) ?_
            refine WpL.gh (Gh.trans Gk (rf_close (x := x) (pv := .slice (some ⟨pb, po, none⟩) c.prods.length pc) (mv := mv) (dv := dv) (vs := vs) (l := [cel nb3 34 [vi 0, vi 0, vi 0], cel nb2 38 (opC ⟨k0, cl, sq, nm, i, ep, tx, pa, cm⟩)]) c rfl rfl rfl rfl rfl)) ?_
            refine WpL.step (Sc (s2) rfl ?_)
            rintro _ _ ⟨rfl, rfl⟩
            refine Ll ?_
            refine Ls (Rdo.bld rfl (BldL.cons rfl (VC.i _ _) (by first | rfl | assumption | (simp <;> done)) (by repeat (first | exact LPut.nil _ | apply LPut.here | apply LPut.next)) (BldL.nil _))) ?_
            refine WpL.step (St rfl rfl (VC.ag _) ?_)
            refine Lnt (Wp.ret ?_)
            refine Rt (ResV.cell rfl (by repeat (first | exact Lds.one rfl | (apply Lds.all; (first | rfl | assumption | (simp <;> fail))) | exact Lds.ione0 | exact Lds.ione rfl | (apply Lds.iall; (first | rfl | assumption | (simp <;> fail))) | apply Lds.next)) ResV.nil) ⟨rfl, rfl⟩
        · rw [if_neg he]
          refine Trip.of_body Tryz.func16 rfl Tryz.ntmps16 Tryz.results16 rfl ?_
          refine Wsr ?_
          (refine WpL.step (Stp.boxV rfl (VC.ag _) rfl ?_); intro nb2)
          (refine WpL.step (Stp.alloc rfl ?_); intro nb3)
          refine Lnt (Wp.seq (Wsr (Ls (Rdo.fieldAddr0 rfl) (Ls (Rdo.load rfl (Lds.next (Lds.one rfl))) (Lnt (Wp.block (Wsr (Ls (Rdo.eqi rfl rfl) (Ls (Rdo.assign rfl) (Lnt (cL rfl (Wsr (Ls (Rdo.eqi rfl rfl) ?_)))))))))))))
          refine Ls (Rdo.assign rfl) (Lnt (cL rfl (Wp.skip (Blk.n (Thn.n (Wp.seq (Wp.block (Wp.seq ?_))))))))
          refine Wp.draw (by kernel_rfl) ?_
          refine Qt (i := 0) rfl (Rdo.fieldAddr0 rfl) (Qt (i := 2) rfl (Rdo.move rfl) (Qt (i := 3) rfl (Rdo.nilCheck rfl) (Qt (i := 4) rfl (Rdo.fieldAddr0 rfl) ?_)))
          refine WpR.load (i := 5) [1] rfl (by kernel_rfl) (by kernel_rfl) (by kernel_rfl) (by kernel_rfl) (by kernel_rfl) rfl Tk.rfl_ (Harm.rd rfl (Rdo.load rfl (Lds.next (Lds.one rfl))) Harm.nil) (Rdo.load rfl (Lds.next (Lds.next (Lds.one rfl)))) rfl ?_
          refine Qt (i := 6) rfl (Rdo.lenSlice rfl) ?_
          refine Qo (i := 1) rfl (Stp.rd (Rdo.load rfl (Lds.next (Lds.one rfl))) rfl ?_)
          refine Qt (i := 7) rfl (Rdo.gei rfl rfl) (Qt (i := 8) rfl (Rdo.assign rfl) ?_)
          refine WpR.done (by kernel_rfl) ?_
          refine Thn.n (cL rfl (Wp.seq ?_))
          refine Wp.draw (by kernel_rfl) ?_
          refine Qt (i := 0) rfl (Rdo.fieldAddr0 rfl) (Qt (i := 2) rfl (Rdo.move rfl) (Qt (i := 3) rfl (Rdo.nilCheck rfl) (Qt (i := 4) rfl (Rdo.fieldAddr0 rfl) (Qt (i := 6) rfl (Rdo.fieldAddr0 rfl) ?_))))
          refine WpR.load (i := 5) [1, 7] rfl (by kernel_rfl) (by kernel_rfl) (by kernel_rfl) (by kernel_rfl) (by kernel_rfl) rfl Tk.rfl_ (Harm.rd rfl (Rdo.load rfl (Lds.next (Lds.one rfl))) (Harm.rd rfl (Rdo.load rfl (Lds.next (Lds.one rfl))) Harm.nil)) (Rdo.load rfl (Lds.next (Lds.next (Lds.one rfl)))) rfl ?_
          refine WpR.load (i := 7) [1] rfl (by kernel_rfl) (by kernel_rfl) (by kernel_rfl) (by kernel_rfl) (by kernel_rfl) rfl Tk.rfl_ (Harm.rd rfl (Rdo.load rfl (Lds.next (Lds.one rfl))) Harm.nil) (Rdo.load rfl (Lds.next (Lds.one rfl))) rfl ?_
          refine Qt (i := 8) rfl (Rdo.indexSlice rfl rfl (by omega)) ?_
          refine Qt (i := 9) rfl (Rdo.fieldAddr rfl) ?_
          refine WpR.load (i := 10) [1] rfl (by kernel_rfl) (by kernel_rfl) (by kernel_rfl) (by kernel_rfl) (by kernel_rfl) rfl Tk.rfl_ (Harm.rd rfl (Rdo.load rfl (Lds.next (Lds.one rfl))) Harm.nil) (Rdo.load rfl (Lds.next (Lds.next (Lds.next (Lds.rowF (by assumption)))))) rfl ?_
          refine Qo (i := 1) rfl (Stp.rd (Rdo.load rfl (Lds.next (Lds.one rfl))) rfl ?_)
          refine Qt (i := 11) rfl (Rdo.nei rfl rfl) (Qt (i := 12) rfl (Rdo.assign rfl) ?_)
          refine WpR.done (by kernel_rfl) ?_
          refine Thn.n (cK rfl (Wsr ?_))
          refine Ls (Rdo.bld rfl (BldL.cons rfl (VC.i _ _) (by first | rfl | assumption | (simp <;> done)) (by repeat (first | exact LPut.nil _ | apply LPut.here | apply LPut.next)) (BldL.nil _))) ?_
          refine WpL.step (St rfl rfl (VC.ag _) ?_)
          refine Lnt (Wp.ret ?_)
          refine Blk.r ?_
          refine Thn.r ?_
          exact Ret.now (by repeat (first | exact ResV.nil | apply ResV.tmp rfl | apply ResV.cell rfl (by repeat (first | exact Lds.one rfl | (apply Lds.all; (first | rfl | assumption | (simp <;> fail))) | exact Lds.ione0 | exact Lds.ione rfl | (apply Lds.iall; (first | rfl | assumption | (simp <;> fail))) | apply Lds.next)))) (Gh.trans Gk (rf_close (l := []) c rfl rfl rfl rfl rfl)) ⟨rfl, rfl⟩
      · rw [if_neg hp]
        have hp2 : o.producer ≥ c.prods.length := by omega
        refine Trip.ghE rfA_open ?_
        rintro ⟨pv, mv, dv, vs⟩ hvl
        simp only [rfX, List.cons_append, List.nil_append] at hvl ⊢
        refine Trip.get (Pk.next Pk.here) (fun r => rowA_shape) ?_
        rintro ⟨pa, pc, rfl⟩
        refine Trip.of_body Tryz.func16 rfl Tryz.ntmps16 Tryz.results16 rfl ?_
        refine Wsr ?_
        (refine WpL.step (Stp.boxV rfl (VC.ag _) rfl ?_); intro nb2)
        (refine WpL.step (Stp.alloc rfl ?_); intro nb3)
        refine Lnt (Wp.seq (Wsr (Ls (Rdo.fieldAddr0 rfl) (Ls (Rdo.load rfl (Lds.next (Lds.one rfl))) (Lnt (Wp.block (Wsr (Ls (Rdo.eqi rfl rfl) (Ls (Rdo.assign rfl) (Lnt (cL rfl (Wsr (Ls (Rdo.eqi rfl rfl) ?_)))))))))))))
        refine Ls (Rdo.assign rfl) (Lnt (cL rfl (Wp.skip (Blk.n (Thn.n (Wp.seq (Wp.block (Wp.seq ?_))))))))
        refine Wp.draw (by kernel_rfl) ?_
        refine Qt (i := 0) rfl (Rdo.fieldAddr0 rfl) (Qt (i := 2) rfl (Rdo.move rfl) (Qt (i := 3) rfl (Rdo.nilCheck rfl) (Qt (i := 4) rfl (Rdo.fieldAddr0 rfl) ?_)))
        refine WpR.load (i := 5) [1] rfl (by kernel_rfl) (by kernel_rfl) (by kernel_rfl) (by kernel_rfl) (by kernel_rfl) rfl Tk.rfl_ (Harm.rd rfl (Rdo.load rfl (Lds.next (Lds.one rfl))) Harm.nil) (Rdo.load rfl (Lds.next (Lds.next (Lds.one rfl)))) rfl ?_
        refine Qt (i := 6) rfl (Rdo.lenSlice rfl) ?_
        refine Qo (i := 1) rfl (Stp.rd (Rdo.load rfl (Lds.next (Lds.one rfl))) rfl ?_)
        refine Qt (i := 7) rfl (Rdo.gei rfl rfl) (Qt (i := 8) rfl (Rdo.assign rfl) ?_)
        refine WpR.done (by kernel_rfl) ?_
        refine Thn.n (cK rfl (Wsr ?_))
        refine Ls (Rdo.bld rfl (BldL.cons rfl (VC.i _ _) (by first | rfl | assumption | (simp <;> done)) (by repeat (first | exact LPut.nil _ | apply LPut.here | apply LPut.next)) (BldL.nil _))) ?_
        refine WpL.step (St rfl rfl (VC.ag _) ?_)
        refine Lnt (Wp.ret ?_)
        refine Blk.r ?_
        refine Thn.r ?_
        exact Ret.now (by repeat (first | exact ResV.nil | apply ResV.tmp rfl | apply ResV.cell rfl (by repeat (first | exact Lds.one rfl | (apply Lds.all; (first | rfl | assumption | (simp <;> fail))) | exact Lds.ione0 | exact Lds.ione rfl | (apply Lds.iall; (first | rfl | assumption | (simp <;> fail))) | apply Lds.next)))) (Gh.trans Gk (rf_close (l := []) c rfl rfl rfl rfl rfl)) ⟨rfl, rfl⟩
end Go.Proofs.YtccgdnocldmjeaaGreatDoor
namespace Go.Proofs.YtccgdnocldmjeaaGreatDoor
open Go
set_option maxHeartbeats 4000000
set_option linter.unusedSimpArgs false
set_option linter.unusedVariables false
set_option maxRecDepth 20000
theorem Lds.rowP {P : Program} {l : List HP} {t ty : TypeId} {sz n cap b o i off m : Nat} {xs pre cs post : List Value} [ha : AG P ty true] [hz : SZ P ty m] (hx : xs = pre ++ (cs ++ post)) (hp : pre.length = i * sz + off) (hc : cs.length = m) :
    Lds P (rowA t sz (.slice (some ⟨b, o, none⟩) n cap) n xs :: l) ⟨b, o + i * sz + off, none⟩ ty (.agg cs.toArray) := by
  unfold Lds
  intro F w hl
  subst hx
  have := run_loadCells_list (P := P) w ⟨b, o + i * sz + off, none⟩ cs (fun j v hj => by
    rw [addr_add, show o + i * sz + off + j = o + (i * sz + off + j) by omega]
    refine row_cell hl _ v ?_
    rw [← hp, List.getElem?_append_right (by omega), Nat.add_sub_cancel_left, List.getElem?_append_left (List.getElem?_eq_some_iff.1 hj).1]
    exact hj)
  rw [hc] at this
  simp [Instr.loadAt, Instr.sureAddr, loadVar, ha.run, hz.run, this]
theorem doneC_5 (ds : List ((Int × Int) × Rep)) : ∀ c ∈ ds.map doneC, c.length = 5 := by
  intro c hc
  obtain ⟨x, _, rfl⟩ := List.mem_map.1 hc
  rfl
theorem done_at {ds : List ((Int × Int) × Rep)} {i f : Nat} {x : (Int × Int) × Rep} {u : Value} (hx : ds[i]? = some x) (hf : (doneC x)[f]? = some u) : ((ds.map doneC).flatten)[i * 5 + f]? = some u :=
  flat_at (doneC_5 ds) (by rw [List.getElem?_map, hx]; rfl) hf
theorem done_cut {ds : List ((Int × Int) × Rep)} {i : Nat} {x : (Int × Int) × Rep} (h : ds[i]? = some x) : ∃ A B, (ds.map doneC).flatten = A ++ (repC x.2 ++ B) ∧ A.length = i * 5 + 2 := by
  obtain ⟨hi, he⟩ := List.getElem?_eq_some_iff.1 h
  refine ⟨((ds.take i).map doneC).flatten ++ [vi x.1.1, vi x.1.2], ((ds.drop (i + 1)).map doneC).flatten, ?_, ?_⟩
  · conv => lhs; rw [← List.take_append_drop i ds, List.drop_eq_getElem_cons hi, he]
    simp
  · rw [List.length_append, flat_lt (doneC_5 _), List.length_map, List.length_take]
    simp
    omega
theorem alook_no {ds : List ((Int × Int) × Rep)} {k : Int × Int} (h : ∀ x ∈ ds, x.1 ≠ k) : alook ds k = none := by
  induction ds with
  | nil => rfl
  | cons x ds ih =>
    obtain ⟨a, b⟩ := x
    have h1 : a ≠ k := h (a, b) (by simp)
    rw [alook, if_neg h1]
    exact ih fun x hx => h x (by simp [hx])
theorem alook_yes {ds : List ((Int × Int) × Rep)} {k : Int × Int} {i : Nat} {a : Rep} (hx : ds[i]? = some (k, a)) (h : ∀ x ∈ ds.take i, x.1 ≠ k) : alook ds k = some a := by
  induction ds generalizing i with
  | nil => simp at hx
  | cons x ds ih =>
    obtain ⟨b, c⟩ := x
    cases i with
    | zero =>
      simp only [List.getElem?_cons_zero, Option.some.injEq, Prod.mk.injEq] at hx
      obtain ⟨rfl, rfl⟩ := hx
      rw [alook, if_pos rfl]
    | succ i =>
      have h1 : b ≠ k := h (b, c) (by simp)
      rw [alook, if_neg h1]
      exact ih (by simpa using hx) fun x hx => h x (by simp [hx])
def ansOf (c : CoS) (k : Int × Int) : Rep × Bool := match alook c.answers k with
  | some a => (a, true)
  | none => (⟨0, 0, 0⟩, false)
abbrev anE (x nb : Nat) (cl sq : Int) (j : Nat) : Env := [(0, vp x 0), (1, vi cl), (2, vi sq), (6, vp nb 0), (7, vb false), (8, vi j)]
abbrev anL (x nb : Nat) (c : CoS) (m : RfM) : List HP := cel nb 34 [vi 0, vi 0, vi 0] :: rfX x c m
theorem rans_ok (x : Nat) (c : CoS) (cl sq : Int) (ha : c.answers.length ≤ 100000) : Trip Tryz.prog 15 [vp x 0, vi cl, vi sq] [rfA x c]
    (fun r l => r = .tuple #[.agg (repC (ansOf c (cl, sq)).1).toArray, vb (ansOf c (cl, sq)).2] ∧ l = [rfA x c]) := by
  refine Trip.ghE rfA_open ?_
  rintro ⟨pv, mv, dv, vs⟩ hvl
  simp only [rfX, List.cons_append, List.nil_append] at hvl ⊢
  refine Trip.get (Pk.next (Pk.next (Pk.next Pk.here))) (fun r => rowA_shape) ?_
  rintro ⟨da, dc, rfl⟩
  refine Trip.of_body Tryz.func15 rfl Tryz.ntmps15 Tryz.results15 rfl ?_
  refine Wsr ?_
  (refine WpL.step (Stp.alloc rfl ?_); intro nb2)
  refine Ls (Rdo.assign rfl) (Lnt (Wp.seq (Wsr (Ls (Rdo.assign rfl) (Lnt (Wp.block ?_))))))
  refine Wp.loopE (fun k e h => ∃ j : Nat, j + k = c.answers.length ∧ (∀ y ∈ c.answers.take j, y.1 ≠ (cl, sq)) ∧ e = anE x nb2 cl sq j ∧ h = anL x nb2 c ⟨pv, mv, .slice da c.answers.length dc, vs⟩) c.answers.length
    (e0 := anE x nb2 cl sq 0) (l0 := anL x nb2 c ⟨pv, mv, .slice da c.answers.length dc, vs⟩) (by repeat (first | exact trivial | refine ⟨rfl, ?_⟩)) (by repeat (first | exact trivial | refine ⟨rfl, ?_⟩)) Gk ⟨0, by omega, by simp, rfl, rfl⟩ ?_
  rintro k e h ⟨j, hjk, hno, rfl, rfl⟩
  simp only [anL, rfX]
  by_cases hj : j < c.answers.length
  · have hj' : (j : Int) < c.answers.length := by omega
    have hM : c.answers[j]? = some c.answers[j] := List.getElem?_eq_getElem hj
    have htk : c.answers.take (j + 1) = c.answers.take j ++ [c.answers[j]] := by rw [List.take_add_one, hM]; rfl
    generalize c.answers[j] = y at *
    obtain ⟨⟨y1, y2⟩, ya⟩ := y
    refine Wp.get (Pk.next (Pk.next (Pk.next (Pk.next Pk.here)))) (fun r => rowA_at j hj) ?_
    rintro ⟨db, do_, dc2, hv1⟩
    simp only [Value.slice.injEq, true_and] at hv1
    obtain ⟨rfl, rfl⟩ := hv1
    have f0 := done_at (f := 0) hM rfl
    have f1 := done_at (f := 1) hM rfl
    obtain ⟨A, B, f2, f3⟩ := done_cut hM
    by_cases h1 : y1 = cl
    · by_cases h2 : y2 = sq
      · subst h1 h2
        have hans : ansOf c (y1, y2) = (ya, true) := by unfold ansOf; rw [alook_yes hM hno]
        rw [hans]
        refine Wp.seq (Wsr (Ls (Rdo.move rfl) (Ls (Rdo.move rfl) (Ls (Rdo.nilCheck rfl) (Ls (Rdo.fieldAddr0 rfl) (Ls (Rdo.load rfl (Lds.next (Lds.one rfl))) (Ls (Rdo.lenSlice rfl) (Ls (Rdo.lti rfl rfl) (Lnt (cK rfl (Wp.skip (Thn.n (Wp.seq ?_)))))))))))))
        refine Wp.block (Wsr (Ls (Rdo.move rfl) (Ls (Rdo.nilCheck rfl) (Ls (Rdo.fieldAddr0 rfl) (Ls (Rdo.load rfl (Lds.next (Lds.one rfl))) (Ls (Rdo.move rfl) ?_))))))
        refine Ls (Rdo.indexSlice rfl rfl (by omega)) ?_
        refine Ls (Rdo.fieldAddr rfl) ?_
        refine Ls (Rdo.load rfl (Lds.next (Lds.next (Lds.next (Lds.next (Lds.rowF (by assumption))))))) ?_
        refine Ls (Rdo.move rfl) (Ls (Rdo.eqi rfl rfl) (Ls (Rdo.move rfl) (Lg rfl rfl (Lw rfl rfl (Rdo.move rfl) (Lw rfl rfl (Rdo.nilCheck rfl) (Lw rfl rfl (Rdo.fieldAddr0 rfl) (Lw rfl rfl (Rdo.load rfl (Lds.next (Lds.one rfl))) (Lw rfl rfl (Rdo.move rfl) ?_))))))))
        refine Lw rfl rfl (Rdo.indexSlice rfl rfl (by omega)) ?_
        refine Lw rfl rfl (Rdo.fieldAddr rfl) ?_
        refine Lw rfl rfl (Rdo.load rfl (Lds.next (Lds.next (Lds.next (Lds.next (Lds.rowF (by assumption))))))) ?_
        refine Lw rfl rfl (Rdo.move rfl) (Lw rfl rfl (Rdo.eqi rfl rfl) (Ls (Rdo.pick_t rfl rfl) (Lnt (cK rfl (Wsr (Ls (Rdo.move rfl) (Ls (Rdo.nilCheck rfl) (Ls (Rdo.fieldAddr0 rfl) (Ls (Rdo.load rfl (Lds.next (Lds.one rfl))) (Ls (Rdo.move rfl) ?_))))))))))
        refine Ls (Rdo.indexSlice rfl rfl (by omega)) ?_
        refine Ls (Rdo.fieldAddr rfl) ?_
        refine Ls (Rdo.load rfl (Lds.next (Lds.next (Lds.next (Lds.next (Lds.rowP (by assumption) (by first | assumption | omega) (by rfl))))))) ?_
        refine WpL.step (St rfl rfl (VC.ag _) ?_)
        refine Ls (Rdo.assign rfl) (Lnt (Wp.ret ?_))
        refine Blk.r ?_
        refine Thn.r ?_
        refine Thn.r ?_
        refine Blk.r ?_
        refine Thn.r ?_
        exact Ret.now (by repeat (first | exact ResV.nil | apply ResV.tmp rfl | apply ResV.cell rfl (by repeat (first | exact Lds.one rfl | (apply Lds.all; (first | rfl | assumption | (simp <;> fail))) | exact Lds.ione0 | exact Lds.ione rfl | (apply Lds.iall; (first | rfl | assumption | (simp <;> fail))) | apply Lds.next)))) (Gh.trans Gk (rf_close (l := []) c rfl rfl rfl rfl rfl)) ⟨rfl, rfl⟩
      · refine Wp.seq (Wsr (Ls (Rdo.move rfl) (Ls (Rdo.move rfl) (Ls (Rdo.nilCheck rfl) (Ls (Rdo.fieldAddr0 rfl) (Ls (Rdo.load rfl (Lds.next (Lds.one rfl))) (Ls (Rdo.lenSlice rfl) (Ls (Rdo.lti rfl rfl) (Lnt (cK rfl (Wp.skip (Thn.n (Wp.seq ?_)))))))))))))
        refine Wp.block (Wsr (Ls (Rdo.move rfl) (Ls (Rdo.nilCheck rfl) (Ls (Rdo.fieldAddr0 rfl) (Ls (Rdo.load rfl (Lds.next (Lds.one rfl))) (Ls (Rdo.move rfl) ?_))))))
        refine Ls (Rdo.indexSlice rfl rfl (by omega)) ?_
        refine Ls (Rdo.fieldAddr rfl) ?_
        refine Ls (Rdo.load rfl (Lds.next (Lds.next (Lds.next (Lds.next (Lds.rowF (by assumption))))))) ?_
        refine Ls (Rdo.move rfl) (Ls (Rdo.eqi rfl rfl) (Ls (Rdo.move rfl) (Lg rfl rfl (Lw rfl rfl (Rdo.move rfl) (Lw rfl rfl (Rdo.nilCheck rfl) (Lw rfl rfl (Rdo.fieldAddr0 rfl) (Lw rfl rfl (Rdo.load rfl (Lds.next (Lds.one rfl))) (Lw rfl rfl (Rdo.move rfl) ?_))))))))
        refine Lw rfl rfl (Rdo.indexSlice rfl rfl (by omega)) ?_
        refine Lw rfl rfl (Rdo.fieldAddr rfl) ?_
        refine Lw rfl rfl (Rdo.load rfl (Lds.next (Lds.next (Lds.next (Lds.next (Lds.rowF (by assumption))))))) ?_
        refine Lw rfl rfl (Rdo.move rfl) (Lw rfl rfl (Rdo.eqi rfl rfl) (Ls (Rdo.pick_t rfl rfl) (Lnt (cL rfl (Wp.skip (Blk.n (Thn.n (Wp.region (Ls (Rdo.move rfl) ?_)))))))))
        refine Ls (Rdo.succ rfl rfl (by omega)) ?_
        refine Ls (Rdo.assign rfl) (Lnt ?_)
        refine ⟨k - 1, _, _, by omega, ⟨j + 1, by omega, ?_, rfl, rfl⟩, (by repeat (first | exact trivial | refine ⟨rfl, ?_⟩)), Gk⟩
        intro m hm
        rw [htk] at hm
        rcases List.mem_append.1 hm with hm | hm
        · exact hno m hm
        · rw [List.mem_singleton.1 hm]
          exact fun h => h2 (congrArg (fun z : Int × Int => z.2) h)
    · refine Wp.seq (Wsr (Ls (Rdo.move rfl) (Ls (Rdo.move rfl) (Ls (Rdo.nilCheck rfl) (Ls (Rdo.fieldAddr0 rfl) (Ls (Rdo.load rfl (Lds.next (Lds.one rfl))) (Ls (Rdo.lenSlice rfl) (Ls (Rdo.lti rfl rfl) (Lnt (cK rfl (Wp.skip (Thn.n (Wp.seq ?_)))))))))))))
      refine Wp.block (Wsr (Ls (Rdo.move rfl) (Ls (Rdo.nilCheck rfl) (Ls (Rdo.fieldAddr0 rfl) (Ls (Rdo.load rfl (Lds.next (Lds.one rfl))) (Ls (Rdo.move rfl) ?_))))))
      refine Ls (Rdo.indexSlice rfl rfl (by omega)) ?_
      refine Ls (Rdo.fieldAddr rfl) ?_
      refine Ls (Rdo.load rfl (Lds.next (Lds.next (Lds.next (Lds.next (Lds.rowF (by assumption))))))) ?_
      refine Ls (Rdo.move rfl) (Ls (Rdo.eqi rfl rfl) (Ls (Rdo.move rfl) (Lf rfl rfl (Lp rfl rfl (Lp rfl rfl (Lp rfl rfl (Lp rfl rfl (Lp rfl rfl (Lp rfl rfl (Lp rfl rfl (Lp rfl rfl (Lp rfl rfl (Lp rfl rfl ?_)))))))))))))
      refine Ls (Rdo.pick_f rfl rfl) (Lnt ?_)
      refine Wp.condF rfl ?_
      refine Wp.skip (Blk.n (Thn.n (Wp.region (Ls (Rdo.move rfl) ?_))))
      refine Ls (Rdo.succ rfl rfl (by omega)) ?_
      refine Ls (Rdo.assign rfl) (Lnt ?_)
      refine ⟨k - 1, _, _, by omega, ⟨j + 1, by omega, ?_, rfl, rfl⟩, (by repeat (first | exact trivial | refine ⟨rfl, ?_⟩)), Gk⟩
      intro m hm
      rw [htk] at hm
      rcases List.mem_append.1 hm with hm | hm
      · exact hno m hm
      · rw [List.mem_singleton.1 hm]
        exact fun h => h1 (congrArg (fun z : Int × Int => z.1) h)
  · have hall : c.answers.take j = c.answers := List.take_of_length_le (by omega)
    rw [hall] at hno
    have hans : ansOf c (cl, sq) = (⟨0, 0, 0⟩, false) := by unfold ansOf; rw [alook_no hno]
    rw [hans]
    refine Wp.seq (Wsr (Ls (Rdo.move rfl) (Ls (Rdo.move rfl) (Ls (Rdo.nilCheck rfl) (Ls (Rdo.fieldAddr0 rfl) (Ls (Rdo.load rfl (Lds.next (Lds.one rfl))) (Ls (Rdo.lenSlice rfl) (Ls (Rdo.lti rfl rfl) (Lnt (cL rfl ?_))))))))))
    refine Wp.exit ?_
    refine Thn.x ?_
    refine Thn.x ?_
    refine Blk.here ?_
    refine Thn.n (Wsr (Ls (Rdo.bld rfl (BldL.nil _)) ?_))
    refine WpL.step (St rfl rfl (VC.ag _) ?_)
    refine Ls (Rdo.assign rfl) (Lnt (Wp.ret ?_))
    exact Ret.now (by repeat (first | exact ResV.nil | apply ResV.tmp rfl | apply ResV.cell rfl (by repeat (first | exact Lds.one rfl | (apply Lds.all; (first | rfl | assumption | (simp <;> fail))) | exact Lds.ione0 | exact Lds.ione rfl | (apply Lds.iall; (first | rfl | assumption | (simp <;> fail))) | apply Lds.next)))) (Gh.trans Gk (rf_close (l := []) c rfl rfl rfl rfl rfl)) ⟨rfl, rfl⟩
theorem mem_addD {ds : List Mark} {m x : Mark} : x ∈ addD ds m ↔ x ∈ ds ∨ x = m := by
  unfold addD
  split
  · rename_i h
    exact ⟨.inl, fun hx => hx.elim id fun e => e ▸ h⟩
  · simp
theorem DecOk.new : DecOk CoS.new := fun m _ => by simp [CoS.new]
theorem DecOk.dec {c : CoS} (h : DecOk c) (i : Nat) (p : Prod) (kind : Int) : DecOk (c.decide i p kind) := fun m hm => by
  simp only [CoS.decide, mem_addD, List.mem_append, List.mem_singleton, h m hm]
theorem DecOk.lay {c : CoS} (h : DecOk c) {x : Mark} (hx : x.kind = 1) : DecOk (c.lay x) := fun m hm => by
  simp only [CoS.lay, List.mem_append, List.mem_singleton, h m hm]
  exact ⟨.inl, fun hh => hh.elim id fun e => absurd (e ▸ hx) hm⟩
theorem DecOk.put {c : CoS} (h : DecOk c) (i : Nat) (p : Prod) : DecOk (c.put i p) := h
theorem DecOk.again {c : CoS} (h : DecOk c) (i : Nat) (p : Prod) : DecOk (c.again i p).2.2 := by
  unfold CoS.again
  split
  · exact h
  · split
    · exact (((h.dec i p 3).put _ _).lay rfl)
    · exact (h.put _ _).lay rfl
theorem DecOk.begins {c : CoS} (h : DecOk c) (s : List UInt8) : DecOk (c.begins s).2.2 := by
  unfold CoS.begins
  split
  · split
    · exact h
    · exact DecOk.lay (c := { c with prods := c.prods ++ [⟨s, 0, 0, false, [], 0⟩] }) h rfl
  · exact h.again _ _
theorem DecOk.adds {c : CoS} (h : DecOk c) (o : Go.Proofs.YtccgdnocldmjeaaGreatDoor.Op) (i : Nat) (p : Prod) : DecOk (c.adds o i p).2 := by
  unfold CoS.adds
  split
  · split
    · exact h.put _ _
    · exact h
  · split
    · exact h
    · split
      · exact h.put _ _
      · exact h
theorem DecOk.ends {c : CoS} (h : DecOk c) (o : Go.Proofs.YtccgdnocldmjeaaGreatDoor.Op) (i : Nat) (p : Prod) : DecOk (c.ends o i p).2.2 := by
  unfold CoS.ends
  split
  · exact h.dec _ _ _
  · split
    · exact h
    · exact h
theorem DecOk.tickN {c : CoS} (h : DecOk c) (n : Nat) : DecOk (c.tickN n).1 := by
  induction n with
  | zero => exact h
  | succ n ih =>
    rw [CoS.tickN_succ]
    unfold CoS.tick1
    split
    · exact ih.dec _ _ _
    · exact ih
theorem DecOk.does {c : CoS} (h : DecOk c) (o : Go.Proofs.YtccgdnocldmjeaaGreatDoor.Op) : DecOk (c.does o).2.2 := by
  unfold CoS.does
  split
  · exact h.begins _
  · split
    · exact h.tickN _
    · split
      · dsimp only
        generalize c.prods.getD o.producer.toNat prod0 = p
        by_cases he : o.epoch = p.epoch
        · by_cases hk : o.kind = 2
          · simp only [he, hk, if_true]
            exact h.adds _ _ _
          · simp only [he, hk, if_true, if_false]
            exact h.ends _ _ _
        · simp only [he, if_false]
          exact h
      · exact h
theorem DecOk.apply {c : CoS} (h : DecOk c) (o : Go.Proofs.YtccgdnocldmjeaaGreatDoor.Op) : DecOk (c.apply o).2.2 := by
  unfold CoS.apply
  split
  · split
    · exact h
    · exact h.does o
  · exact h
end Go.Proofs.YtccgdnocldmjeaaGreatDoor
namespace Go.Proofs.YtccgdnocldmjeaaGreatDoor
open Go
set_option maxHeartbeats 4000000
set_option linter.unusedSimpArgs false
set_option linter.unusedVariables false
set_option maxRecDepth 20000
theorem isIn_yes (n lo hi : Int) (h : lo ≤ n ∧ n ≤ hi) : Trip Tryz.prog 49 [vi n, vi lo, vi hi] [] (fun r l => r = vb true ∧ l = []) := by
  have h1 : n ≥ lo := h.1
  have h2 := h.2
  refine Trip.of_body Tryz.func49 rfl Tryz.ntmps49 Tryz.results49 rfl ?_
  refine Wsr (Ls (Rdo.assign rfl) (Lnt (Wsr (Ls (Rdo.move rfl) (Ls (Rdo.move rfl) (Ls (Rdo.gei rfl rfl) (Ls (Rdo.move rfl) (Lg rfl rfl (Lw rfl rfl (Rdo.move rfl) (Lw rfl rfl (Rdo.move rfl) (Lw rfl rfl (Rdo.lei rfl rfl) (Ls (Rdo.pick_t rfl rfl) (Ls (Rdo.assign rfl) ?_)))))))))))))
  refine Lnt (Wp.ret ?_)
  refine Rt (ResV.tmp rfl ResV.nil) ⟨(by first | rfl | (simp [packed] <;> done) | (simp_all [packed] <;> done)), rfl⟩
theorem isIn_no (n lo hi : Int) (h : ¬ (lo ≤ n ∧ n ≤ hi)) : Trip Tryz.prog 49 [vi n, vi lo, vi hi] [] (fun r l => r = vb false ∧ l = []) := by
  by_cases h1 : n ≥ lo
  · have h2 : ¬ n ≤ hi := fun h2 => h ⟨h1, h2⟩
    refine Trip.of_body Tryz.func49 rfl Tryz.ntmps49 Tryz.results49 rfl ?_
    refine Wsr (Ls (Rdo.assign rfl) (Lnt (Wsr (Ls (Rdo.move rfl) (Ls (Rdo.move rfl) (Ls (Rdo.gei rfl rfl) (Ls (Rdo.move rfl) (Lg rfl rfl (Lw rfl rfl (Rdo.move rfl) (Lw rfl rfl (Rdo.move rfl) (Lw rfl rfl (Rdo.lei rfl rfl) (Ls (Rdo.pick_t rfl rfl) (Ls (Rdo.assign rfl) ?_)))))))))))))
    refine Lnt (Wp.ret ?_)
    refine Rt (ResV.tmp rfl ResV.nil) ⟨(by first | rfl | (simp [packed] <;> done) | (simp_all [packed] <;> done)), rfl⟩
  · refine Trip.of_body Tryz.func49 rfl Tryz.ntmps49 Tryz.results49 rfl ?_
    refine Wsr (Ls (Rdo.assign rfl) (Lnt (Wsr (Ls (Rdo.move rfl) (Ls (Rdo.move rfl) (Ls (Rdo.gei rfl rfl) (Ls (Rdo.move rfl) (Lf rfl rfl (Lp rfl rfl (Lp rfl rfl (Lp rfl rfl (Ls (Rdo.pick_f rfl rfl) (Ls (Rdo.assign rfl) ?_)))))))))))))
    refine Lnt (Wp.ret ?_)
    refine Rt (ResV.tmp rfl ResV.nil) ⟨rfl, rfl⟩
theorem isIn_ok (n lo hi : Int) : Trip Tryz.prog 49 [vi n, vi lo, vi hi] [] (fun r l => r = vb (Decidable.decide (lo ≤ n ∧ n ≤ hi)) ∧ l = []) := by
  by_cases h : lo ≤ n ∧ n ≤ hi
  · rw [decide_eq_true h]; exact isIn_yes n lo hi h
  · rw [decide_eq_false h]; exact isIn_no n lo hi h
theorem isProducer_ok (p e t : Int) : Trip Tryz.prog 50 [vi p, vi e, vi t] [] (fun r l => r = vb (Decidable.decide ((0 ≤ p ∧ p ≤ 7) ∧ (0 ≤ e ∧ e ≤ 100) ∧ (0 ≤ t ∧ t ≤ 100))) ∧ l = []) := by
  by_cases h1 : 0 ≤ p ∧ p ≤ 7
  · have s1 := isIn_yes p 0 7 h1
    by_cases h2 : 0 ≤ e ∧ e ≤ 100
    · have s2 := isIn_yes e 0 100 h2
      by_cases h3 : 0 ≤ t ∧ t ≤ 100
      · have s3 := isIn_yes t 0 100 h3
        rw [decide_eq_true ⟨h1, h2, h3⟩]
        refine Trip.of_body Tryz.func50 rfl Tryz.ntmps50 Tryz.results50 rfl ?_
        refine Wsr (Ls (Rdo.assign rfl) (Lnt (Wsr (Ls (Rdo.move rfl) ?_))))
        refine WpL.step (Sc (s1) rfl ?_)
        rintro _ _ ⟨rfl, rfl⟩
        refine Ll ?_
        refine Ls (Rdo.move rfl) (Lw rfl rfl (Rdo.move rfl) ?_)
        refine WpL.want rfl rfl rfl (Sc (s2) rfl ?_)
        rintro _ _ ⟨rfl, rfl⟩
        refine Ll ?_
        refine Ls (Rdo.pick_t rfl rfl) (Ls (Rdo.move rfl) (Lw rfl rfl (Rdo.move rfl) ?_))
        refine WpL.want rfl rfl rfl (Sc (s3) rfl ?_)
        rintro _ _ ⟨rfl, rfl⟩
        refine Ll ?_
        refine Ls (Rdo.pick_t rfl rfl) (Ls (Rdo.assign rfl) (Lnt (Wp.ret ?_)))
        refine Rt (ResV.tmp rfl ResV.nil) ⟨rfl, rfl⟩
      · have s3 := isIn_no t 0 100 h3
        rw [decide_eq_false (fun h => h3 h.2.2)]
        refine Trip.of_body Tryz.func50 rfl Tryz.ntmps50 Tryz.results50 rfl ?_
        refine Wsr (Ls (Rdo.assign rfl) (Lnt (Wsr (Ls (Rdo.move rfl) ?_))))
        refine WpL.step (Sc (s1) rfl ?_)
        rintro _ _ ⟨rfl, rfl⟩
        refine Ll ?_
        refine Ls (Rdo.move rfl) (Lw rfl rfl (Rdo.move rfl) ?_)
        refine WpL.want rfl rfl rfl (Sc (s2) rfl ?_)
        rintro _ _ ⟨rfl, rfl⟩
        refine Ll ?_
        refine Ls (Rdo.pick_t rfl rfl) (Ls (Rdo.move rfl) (Lw rfl rfl (Rdo.move rfl) ?_))
        refine WpL.want rfl rfl rfl (Sc (s3) rfl ?_)
        rintro _ _ ⟨rfl, rfl⟩
        refine Ll ?_
        refine Ls (Rdo.pick_t rfl rfl) (Ls (Rdo.assign rfl) (Lnt (Wp.ret ?_)))
        refine Rt (ResV.tmp rfl ResV.nil) ⟨rfl, rfl⟩
    · have s2 := isIn_no e 0 100 h2
      rw [decide_eq_false (fun h => h2 h.2.1)]
      refine Trip.of_body Tryz.func50 rfl Tryz.ntmps50 Tryz.results50 rfl ?_
      refine Wsr (Ls (Rdo.assign rfl) (Lnt (Wsr (Ls (Rdo.move rfl) ?_))))
      refine WpL.step (Sc (s1) rfl ?_)
      rintro _ _ ⟨rfl, rfl⟩
      refine Ll ?_
      refine Ls (Rdo.move rfl) (Lw rfl rfl (Rdo.move rfl) ?_)
      refine WpL.want rfl rfl rfl (Sc (s2) rfl ?_)
      rintro _ _ ⟨rfl, rfl⟩
      refine Ll ?_
      refine Ls (Rdo.pick_t rfl rfl) (Ls (Rdo.move rfl) (Lp rfl rfl (Lp rfl rfl (Ls (Rdo.pick_f rfl rfl) (Ls (Rdo.assign rfl) (Lnt (Wp.ret ?_)))))))
      refine Rt (ResV.tmp rfl ResV.nil) ⟨rfl, rfl⟩
  · have s1 := isIn_no p 0 7 h1
    rw [decide_eq_false (fun h => h1 h.1)]
    refine Trip.of_body Tryz.func50 rfl Tryz.ntmps50 Tryz.results50 rfl ?_
    refine Wsr (Ls (Rdo.assign rfl) (Lnt (Wsr (Ls (Rdo.move rfl) ?_))))
    refine WpL.step (Sc (s1) rfl ?_)
    rintro _ _ ⟨rfl, rfl⟩
    refine Ll ?_
    refine Ls (Rdo.move rfl) (Lp rfl rfl (Lp rfl rfl (Ls (Rdo.pick_f rfl rfl) (Ls (Rdo.move rfl) (Lp rfl rfl (Lp rfl rfl (Ls (Rdo.pick_f rfl rfl) (Ls (Rdo.assign rfl) (Lnt (Wp.ret ?_))))))))))
    refine Rt (ResV.tmp rfl ResV.nil) ⟨rfl, rfl⟩
/-- An operation without what its kind does not name. -/
def namedO (o : Go.Proofs.YtccgdnocldmjeaaGreatDoor.Op) : Go.Proofs.YtccgdnocldmjeaaGreatDoor.Op :=
  if o.kind = 1 then ⟨o.kind, o.client, o.seq, o.name, 0, 0, 0, 0, false⟩
  else if o.kind = 2 then ⟨o.kind, o.client, o.seq, [], o.producer, o.epoch, o.txn, o.part, false⟩
  else if o.kind = 3 then ⟨o.kind, o.client, o.seq, [], o.producer, o.epoch, o.txn, 0, o.commit⟩
  else ⟨o.kind, o.client, o.seq, [], 0, 0, 0, 0, false⟩
theorem namedW_ok (o : Go.Proofs.YtccgdnocldmjeaaGreatDoor.Op) : Trip Tryz.prog 51 [.agg (opC o).toArray] [] (fun r l => r = .agg (opC (namedO o)).toArray ∧ l = []) := by
  unfold namedO
  by_cases h1 : o.kind = 1
  · rw [if_pos h1]
    refine Trip.of_body Tryz.func51 rfl Tryz.ntmps51 Tryz.results51 rfl ?_
    refine Wsr ?_
    (refine WpL.step (Stp.boxV rfl (VC.ag _) rfl ?_); intro nb2)
    (refine WpL.step (Stp.alloc rfl ?_); intro nb3)
    refine Lnt (Wsr (Ls (Rdo.fieldAddr0 rfl) (Ls (Rdo.load rfl (Lds.next (Lds.one rfl))) (Ls (Rdo.fieldAddr0 rfl) (Ls (Rdo.load rfl (Lds.next (Lds.one rfl))) (Ls (Rdo.fieldAddr0 rfl) (Ls (Rdo.load rfl (Lds.next (Lds.one rfl))) ?_)))))))
    refine Ls (Rdo.bld rfl (BldL.cons rfl (VC.i _ _) (by first | rfl | assumption | (simp <;> done)) (by repeat (first | exact LPut.nil _ | apply LPut.here | apply LPut.next)) (BldL.cons rfl (VC.i _ _) (by first | rfl | assumption | (simp <;> done)) (by repeat (first | exact LPut.nil _ | apply LPut.here | apply LPut.next)) (BldL.cons rfl (VC.i _ _) (by first | rfl | assumption | (simp <;> done)) (by repeat (first | exact LPut.nil _ | apply LPut.here | apply LPut.next)) (BldL.nil _))))) ?_
    (refine WpL.step (Stp.alloc rfl ?_); intro nb15)
    refine WpL.step (St rfl rfl (VC.ag _) ?_)
    refine Lnt (Wp.seq (Wsr (Ls (Rdo.fieldAddr0 rfl) (Ls (Rdo.load rfl (Lds.next (Lds.next (Lds.one rfl)))) (Lnt (Wp.block (Wsr (Ls (Rdo.eqi rfl rfl) (Ls (Rdo.assign rfl) (Lnt (cK rfl (Wp.region (Ls (Rdo.fieldAddr0 rfl) ?_)))))))))))))
    refine Ls (Rdo.load rfl (Lds.next (Lds.next (Lds.one rfl)))) (Ls (Rdo.fieldAddr0 rfl) ?_)
    refine WpL.step (Stp.storeV rfl rfl (VC.s _) rfl (Sp (oneCells1 rfl)) ?_)
    refine WpL.nil (Blk.n (Thn.n (Wsr ?_)))
    refine Ls (Rdo.load rfl Ld) ?_
    refine WpL.step (St rfl rfl (VC.ag _) ?_)
    refine Lnt (Wp.ret ?_)
    refine Rt (ResV.cell rfl (by repeat (first | exact Lds.one rfl | (apply Lds.all; (first | rfl | assumption | (simp <;> fail))) | exact Lds.ione0 | exact Lds.ione rfl | (apply Lds.iall; (first | rfl | assumption | (simp <;> fail))) | apply Lds.next)) ResV.nil) ⟨rfl, rfl⟩
  · rw [if_neg h1]
    by_cases h2 : o.kind = 2
    · rw [if_pos h2]
      refine Trip.of_body Tryz.func51 rfl Tryz.ntmps51 Tryz.results51 rfl ?_
      refine Wsr ?_
      (refine WpL.step (Stp.boxV rfl (VC.ag _) rfl ?_); intro nb2)
      (refine WpL.step (Stp.alloc rfl ?_); intro nb3)
      refine Lnt (Wsr (Ls (Rdo.fieldAddr0 rfl) (Ls (Rdo.load rfl (Lds.next (Lds.one rfl))) (Ls (Rdo.fieldAddr0 rfl) (Ls (Rdo.load rfl (Lds.next (Lds.one rfl))) (Ls (Rdo.fieldAddr0 rfl) (Ls (Rdo.load rfl (Lds.next (Lds.one rfl))) ?_)))))))
      refine Ls (Rdo.bld rfl (BldL.cons rfl (VC.i _ _) (by first | rfl | assumption | (simp <;> done)) (by repeat (first | exact LPut.nil _ | apply LPut.here | apply LPut.next)) (BldL.cons rfl (VC.i _ _) (by first | rfl | assumption | (simp <;> done)) (by repeat (first | exact LPut.nil _ | apply LPut.here | apply LPut.next)) (BldL.cons rfl (VC.i _ _) (by first | rfl | assumption | (simp <;> done)) (by repeat (first | exact LPut.nil _ | apply LPut.here | apply LPut.next)) (BldL.nil _))))) ?_
      (refine WpL.step (Stp.alloc rfl ?_); intro nb15)
      refine WpL.step (St rfl rfl (VC.ag _) ?_)
      refine Lnt (Wp.seq (Wsr (Ls (Rdo.fieldAddr0 rfl) (Ls (Rdo.load rfl (Lds.next (Lds.next (Lds.one rfl)))) (Lnt (Wp.block (Wsr (Ls (Rdo.eqi rfl rfl) (Ls (Rdo.assign rfl) (Lnt (cL rfl (Wsr (Ls (Rdo.eqi rfl rfl) ?_)))))))))))))
      refine Ls (Rdo.assign rfl) (Lnt (cK rfl ?_))
      refine Wp.draw (by kernel_rfl) ?_
      refine Qt (i := 0) rfl (Rdo.fieldAddr0 rfl) (Qt (i := 2) rfl (Rdo.fieldAddr0 rfl) (Qt (i := 4) rfl (Rdo.fieldAddr0 rfl) (Qt (i := 6) rfl (Rdo.fieldAddr0 rfl) ?_)))
      refine WpR.load (i := 1) [3, 5, 7] rfl (by kernel_rfl) (by kernel_rfl) (by kernel_rfl) (by kernel_rfl) (by kernel_rfl) rfl Tk.rfl_ (Harm.rd rfl (Rdo.load rfl (Lds.next (Lds.next (Lds.one rfl)))) (Harm.rd rfl (Rdo.load rfl (Lds.next (Lds.next (Lds.one rfl)))) (Harm.rd rfl (Rdo.load rfl (Lds.next (Lds.next (Lds.one rfl)))) Harm.nil))) (Rdo.load rfl (Lds.next (Lds.next (Lds.one rfl)))) rfl ?_
      refine Qt (i := 8) rfl (Rdo.fieldAddr0 rfl) ?_
      refine WpR.phaseL (m := 0) #[true, true, true, true, true, true, true, true, true, true, true, true, true, true, true, true] 10 _ rfl (by kernel_rfl) (Tk.cons (Pk.next (Pk.next Pk.here)) Tk.nil) ?_
      refine At (i := 3) rfl (Rdo.load rfl (Lds.one rfl)) (At (i := 5) rfl (Rdo.load rfl (Lds.one rfl)) (At (i := 7) rfl (Rdo.load rfl (Lds.one rfl)) ?_))
      refine WpA.one (i := 9) rfl (by kernel_rfl) (Stp.storeV rfl rfl (VC.i _ _) rfl (Sp (oneCells1 rfl)) ?_)
      refine At (i := 10) rfl (Rdo.fieldAddr0 rfl) ?_
      refine WpA.one (i := 11) rfl (by kernel_rfl) (Stp.storeV rfl rfl (VC.i _ _) rfl (Sp (oneCells1 rfl)) ?_)
      refine At (i := 12) rfl (Rdo.fieldAddr0 rfl) ?_
      refine WpA.one (i := 13) rfl (by kernel_rfl) (Stp.storeV rfl rfl (VC.i _ _) rfl (Sp (oneCells1 rfl)) ?_)
      refine At (i := 14) rfl (Rdo.fieldAddr0 rfl) ?_
      refine WpA.one (i := 15) rfl (by kernel_rfl) (Stp.storeV rfl rfl (VC.i _ _) rfl (Sp (oneCells1 rfl)) ?_)
      refine WpA.stop (by kernel_rfl) ?_
      refine Ql ?_
      refine WpR.done (by kernel_rfl) ?_
      refine Blk.n (Thn.n (Wsr ?_))
      refine Ls (Rdo.load rfl (Lds.next Ld)) ?_
      refine WpL.step (St rfl rfl (VC.ag _) ?_)
      refine Lnt (Wp.ret ?_)
      refine Rt (ResV.cell rfl (by repeat (first | exact Lds.one rfl | (apply Lds.all; (first | rfl | assumption | (simp <;> fail))) | exact Lds.ione0 | exact Lds.ione rfl | (apply Lds.iall; (first | rfl | assumption | (simp <;> fail))) | apply Lds.next)) ResV.nil) ⟨rfl, rfl⟩
    · rw [if_neg h2]
      by_cases h3 : o.kind = 3
      · rw [if_pos h3]
        refine Trip.of_body Tryz.func51 rfl Tryz.ntmps51 Tryz.results51 rfl ?_
        refine Wsr ?_
        (refine WpL.step (Stp.boxV rfl (VC.ag _) rfl ?_); intro nb2)
        (refine WpL.step (Stp.alloc rfl ?_); intro nb3)
        refine Lnt (Wsr (Ls (Rdo.fieldAddr0 rfl) (Ls (Rdo.load rfl (Lds.next (Lds.one rfl))) (Ls (Rdo.fieldAddr0 rfl) (Ls (Rdo.load rfl (Lds.next (Lds.one rfl))) (Ls (Rdo.fieldAddr0 rfl) (Ls (Rdo.load rfl (Lds.next (Lds.one rfl))) ?_)))))))
        refine Ls (Rdo.bld rfl (BldL.cons rfl (VC.i _ _) (by first | rfl | assumption | (simp <;> done)) (by repeat (first | exact LPut.nil _ | apply LPut.here | apply LPut.next)) (BldL.cons rfl (VC.i _ _) (by first | rfl | assumption | (simp <;> done)) (by repeat (first | exact LPut.nil _ | apply LPut.here | apply LPut.next)) (BldL.cons rfl (VC.i _ _) (by first | rfl | assumption | (simp <;> done)) (by repeat (first | exact LPut.nil _ | apply LPut.here | apply LPut.next)) (BldL.nil _))))) ?_
        (refine WpL.step (Stp.alloc rfl ?_); intro nb15)
        refine WpL.step (St rfl rfl (VC.ag _) ?_)
        refine Lnt (Wp.seq (Wsr (Ls (Rdo.fieldAddr0 rfl) (Ls (Rdo.load rfl (Lds.next (Lds.next (Lds.one rfl)))) (Lnt (Wp.block (Wsr (Ls (Rdo.eqi rfl rfl) (Ls (Rdo.assign rfl) (Lnt (cL rfl (Wsr (Ls (Rdo.eqi rfl rfl) ?_)))))))))))))
        refine Ls (Rdo.assign rfl) (Lnt (cL rfl (Wsr (Ls (Rdo.eqi rfl rfl) (Ls (Rdo.assign rfl) (Lnt (cK rfl ?_)))))))
        refine Wp.draw (by kernel_rfl) ?_
        refine Qt (i := 0) rfl (Rdo.fieldAddr0 rfl) (Qt (i := 2) rfl (Rdo.fieldAddr0 rfl) (Qt (i := 4) rfl (Rdo.fieldAddr0 rfl) (Qt (i := 6) rfl (Rdo.fieldAddr0 rfl) ?_)))
        refine WpR.load (i := 1) [3, 5, 7] rfl (by kernel_rfl) (by kernel_rfl) (by kernel_rfl) (by kernel_rfl) (by kernel_rfl) rfl Tk.rfl_ (Harm.rd rfl (Rdo.load rfl (Lds.next (Lds.next (Lds.one rfl)))) (Harm.rd rfl (Rdo.load rfl (Lds.next (Lds.next (Lds.one rfl)))) (Harm.rd rfl (Rdo.load rfl (Lds.next (Lds.next (Lds.one rfl)))) Harm.nil))) (Rdo.load rfl (Lds.next (Lds.next (Lds.one rfl)))) rfl ?_
        refine Qt (i := 8) rfl (Rdo.fieldAddr0 rfl) ?_
        refine WpR.phaseL (m := 0) #[true, true, true, true, true, true, true, true, true, true, true, true, true, true, true, true] 10 _ rfl (by kernel_rfl) (Tk.cons (Pk.next (Pk.next Pk.here)) Tk.nil) ?_
        refine At (i := 3) rfl (Rdo.load rfl (Lds.one rfl)) (At (i := 5) rfl (Rdo.load rfl (Lds.one rfl)) (At (i := 7) rfl (Rdo.load rfl (Lds.one rfl)) ?_))
        refine WpA.one (i := 9) rfl (by kernel_rfl) (Stp.storeV rfl rfl (VC.i _ _) rfl (Sp (oneCells1 rfl)) ?_)
        refine At (i := 10) rfl (Rdo.fieldAddr0 rfl) ?_
        refine WpA.one (i := 11) rfl (by kernel_rfl) (Stp.storeV rfl rfl (VC.i _ _) rfl (Sp (oneCells1 rfl)) ?_)
        refine At (i := 12) rfl (Rdo.fieldAddr0 rfl) ?_
        refine WpA.one (i := 13) rfl (by kernel_rfl) (Stp.storeV rfl rfl (VC.i _ _) rfl (Sp (oneCells1 rfl)) ?_)
        refine At (i := 14) rfl (Rdo.fieldAddr0 rfl) ?_
        refine WpA.one (i := 15) rfl (by kernel_rfl) (Stp.storeV rfl rfl (VC.b _) rfl (Sp (oneCells1 rfl)) ?_)
        refine WpA.stop (by kernel_rfl) ?_
        refine Ql ?_
        refine WpR.done (by kernel_rfl) ?_
        refine Blk.n (Thn.n (Wsr ?_))
        refine Ls (Rdo.load rfl (Lds.next Ld)) ?_
        refine WpL.step (St rfl rfl (VC.ag _) ?_)
        refine Lnt (Wp.ret ?_)
        refine Rt (ResV.cell rfl (by repeat (first | exact Lds.one rfl | (apply Lds.all; (first | rfl | assumption | (simp <;> fail))) | exact Lds.ione0 | exact Lds.ione rfl | (apply Lds.iall; (first | rfl | assumption | (simp <;> fail))) | apply Lds.next)) ResV.nil) ⟨rfl, rfl⟩
      · rw [if_neg h3]
        refine Trip.of_body Tryz.func51 rfl Tryz.ntmps51 Tryz.results51 rfl ?_
        refine Wsr ?_
        (refine WpL.step (Stp.boxV rfl (VC.ag _) rfl ?_); intro nb2)
        (refine WpL.step (Stp.alloc rfl ?_); intro nb3)
        refine Lnt (Wsr (Ls (Rdo.fieldAddr0 rfl) (Ls (Rdo.load rfl (Lds.next (Lds.one rfl))) (Ls (Rdo.fieldAddr0 rfl) (Ls (Rdo.load rfl (Lds.next (Lds.one rfl))) (Ls (Rdo.fieldAddr0 rfl) (Ls (Rdo.load rfl (Lds.next (Lds.one rfl))) ?_)))))))
        refine Ls (Rdo.bld rfl (BldL.cons rfl (VC.i _ _) (by first | rfl | assumption | (simp <;> done)) (by repeat (first | exact LPut.nil _ | apply LPut.here | apply LPut.next)) (BldL.cons rfl (VC.i _ _) (by first | rfl | assumption | (simp <;> done)) (by repeat (first | exact LPut.nil _ | apply LPut.here | apply LPut.next)) (BldL.cons rfl (VC.i _ _) (by first | rfl | assumption | (simp <;> done)) (by repeat (first | exact LPut.nil _ | apply LPut.here | apply LPut.next)) (BldL.nil _))))) ?_
        (refine WpL.step (Stp.alloc rfl ?_); intro nb15)
        refine WpL.step (St rfl rfl (VC.ag _) ?_)
        refine Lnt (Wp.seq (Wsr (Ls (Rdo.fieldAddr0 rfl) (Ls (Rdo.load rfl (Lds.next (Lds.next (Lds.one rfl)))) (Lnt (Wp.block (Wsr (Ls (Rdo.eqi rfl rfl) (Ls (Rdo.assign rfl) (Lnt (cL rfl (Wsr (Ls (Rdo.eqi rfl rfl) ?_)))))))))))))
        refine Ls (Rdo.assign rfl) (Lnt (cL rfl (Wsr (Ls (Rdo.eqi rfl rfl) (Ls (Rdo.assign rfl) (Lnt (cL rfl (Wp.skip (Blk.n (Thn.n (Wsr ?_)))))))))))
        refine Ls (Rdo.load rfl Ld) ?_
        refine WpL.step (St rfl rfl (VC.ag _) ?_)
        refine Lnt (Wp.ret ?_)
        refine Rt (ResV.cell rfl (by repeat (first | exact Lds.one rfl | (apply Lds.all; (first | rfl | assumption | (simp <;> fail))) | exact Lds.ione0 | exact Lds.ione rfl | (apply Lds.iall; (first | rfl | assumption | (simp <;> fail))) | apply Lds.next)) ResV.nil) ⟨rfl, rfl⟩
end Go.Proofs.YtccgdnocldmjeaaGreatDoor
namespace Go.Proofs.YtccgdnocldmjeaaGreatDoor
open Go
set_option maxHeartbeats 4000000
set_option linter.unusedSimpArgs false
set_option linter.unusedVariables false
set_option maxRecDepth 20000
def nameOk (o : Go.Proofs.YtccgdnocldmjeaaGreatDoor.Op) : Prop := if o.kind = 1 then o.name ≠ [] ∧ o.name.length ≤ 8 ∧ ∀ b ∈ o.name, small_ b = true else o.name = []
instance (o : Go.Proofs.YtccgdnocldmjeaaGreatDoor.Op) : Decidable (nameOk o) := by unfold nameOk; infer_instance
theorem small_eq (b : UInt8) : small_ b = small b := by unfold small_ small; simp
theorem okOp_iff (o : Go.Proofs.YtccgdnocldmjeaaGreatDoor.Op) : okOp o ↔ (1 ≤ o.kind ∧ o.kind ≤ 4) ∧ (0 ≤ o.client ∧ o.client ≤ 15) ∧ (0 ≤ o.seq ∧ o.seq ≤ 1048576) ∧ nameOk o ∧ ((0 ≤ o.producer ∧ o.producer ≤ 7) ∧ (0 ≤ o.epoch ∧ o.epoch ≤ 100) ∧ (0 ≤ o.txn ∧ o.txn ≤ 100)) ∧ (0 ≤ o.part ∧ o.part ≤ 3) ∧ namedO o = o := by
  obtain ⟨k, cl, sq, nm, pr, ep, tx, pa, cm⟩ := o
  constructor
  · rintro ⟨h1, h2, h3, h4, h5, h6, h7, h8, h9, h10, h11⟩
    refine ⟨h1, h2, h3, h4, ⟨h5, h6, h7⟩, h8, ?_⟩
    simp only at h1 h4 h9 h10 h11
    unfold namedO
    simp only
    have hk : k = 1 ∨ k = 2 ∨ k = 3 ∨ k = 4 := by omega
    rcases hk with rfl | rfl | rfl | rfl
    · obtain ⟨rfl, rfl, rfl, rfl, rfl⟩ := h9 (.inl rfl); rfl
    · obtain rfl := h10 rfl; rw [if_neg (by omega)] at h4; subst h4; rfl
    · obtain rfl := h11 rfl; rw [if_neg (by omega)] at h4; subst h4; rfl
    · obtain ⟨rfl, rfl, rfl, rfl, rfl⟩ := h9 (.inr rfl); rw [if_neg (by omega)] at h4; subst h4; rfl
  · rintro ⟨h1, h2, h3, h4, ⟨h5, h6, h7⟩, h8, h9⟩
    refine ⟨h1, h2, h3, h4, h5, h6, h7, h8, ?_⟩
    simp only at h1 ⊢
    unfold namedO at h9
    have hk : k = 1 ∨ k = 2 ∨ k = 3 ∨ k = 4 := by omega
    rcases hk with rfl | rfl | rfl | rfl <;> simp at h9 ⊢ <;> simp [← h9]
theorem trim_yes (s : List UInt8) (hs : s.length ≤ 1000000) (h : ∀ b ∈ s, small_ b = true) : Trip Tryz.prog 48 [vs s, vs letters] [] (fun r l => r = vs [] ∧ l = []) := by
  refine Trip.mono (trim_ok s (by omega)) ?_
  rintro r l ⟨t, rfl, ht, rfl⟩
  have : t = [] := ht.2 fun b hb => by rw [← small_eq]; exact h b hb
  rw [this]
  exact ⟨rfl, rfl⟩
theorem trim_no (s : List UInt8) (hs : s.length ≤ 1000000) (h : ¬ ∀ b ∈ s, small_ b = true) : Trip Tryz.prog 48 [vs s, vs letters] [] (fun r l => ∃ t : {t : List UInt8 // ¬ t = []}, r = vs t.1 ∧ l = []) := by
  refine Trip.mono (trim_ok s (by omega)) ?_
  rintro r l ⟨t, rfl, ht, rfl⟩
  exact ⟨⟨t, fun h2 => h fun b hb => by rw [small_eq]; exact ht.1 h2 b hb⟩, rfl, rfl⟩
theorem opC_inj {a b : Go.Proofs.YtccgdnocldmjeaaGreatDoor.Op} (h : opC a = opC b) : a = b := by
  obtain ⟨a1, a2, a3, a4, a5, a6, a7, a8, a9⟩ := a
  obtain ⟨b1, b2, b3, b4, b5, b6, b7, b8, b9⟩ := b
  simp [opC] at h
  simp [h]
theorem isOp_ok (o : Go.Proofs.YtccgdnocldmjeaaGreatDoor.Op) (hl : o.name.length ≤ 1000000) : Trip Tryz.prog 25 [.agg (opC o).toArray] [] (fun r l => r = vb (Decidable.decide (okOp o)) ∧ l = []) := by
  refine Trip.of_body Tryz.func25 rfl Tryz.ntmps25 Tryz.results25 rfl ?_
  refine Wsr ?_
  (refine WpL.step (Stp.boxV rfl (VC.ag _) rfl ?_); intro nb2)
  refine Ls (Rdo.assign rfl) (Lnt (Wsr (Ls (Rdo.fieldAddr0 rfl) (Ls (Rdo.load rfl (Lds.one rfl)) (Ls (Rdo.eqVs rfl rfl) (Ls (Rdo.assign rfl) (Lnt (Wp.seq (Wsr (Ls (Rdo.fieldAddr0 rfl) (Ls (Rdo.load rfl (Lds.one rfl)) (Ls (Rdo.eqi rfl rfl) (Lnt ?_)))))))))))))
  refine Wp.mono (Q := fun x e' l' => x = .normal ∧ EnvSub [(1, vp nb2 0), (3, vb (Decidable.decide (nameOk o)))] e' ∧ l' = [cel nb2 38 (opC o)]) ?_ ?_
  · by_cases hk : o.kind = 1
    · by_cases hn : o.name = []
      · rw [decide_eq_false (show ¬ nameOk o by unfold nameOk; rw [if_pos hk]; exact fun h => h.1 hn)]
        refine cK rfl (Wp.region (Ls (Rdo.fieldAddr0 rfl) (Ls (Rdo.load rfl (Lds.one rfl)) (Ls (Rdo.neVs rfl rfl) (Ls (Rdo.move rfl) (Lf rfl rfl (Lp rfl rfl (Lp rfl rfl (Lp rfl rfl (Lp rfl rfl (Ls (Rdo.pick_f rfl rfl) (Ls (Rdo.move rfl) (Lp rfl rfl ?_)))))))))))))
        refine Lp rfl rfl (Lp rfl rfl (Lp rfl rfl (Ls (Rdo.pick_f rfl rfl) (Ls (Rdo.assign rfl) (WpL.nil ?_)))))
        exact ⟨rfl, (by repeat (first | exact trivial | refine ⟨rfl, ?_⟩ | refine ⟨congrArg some (congrArg Value.bool (decide_eq_true (by first | assumption | omega))), ?_⟩ | refine ⟨congrArg some (congrArg Value.bool (decide_eq_false (by first | assumption | omega))), ?_⟩)), rfl⟩
      · by_cases h8 : o.name.length ≤ 8
        · have h8' : (o.name.length : Int) ≤ 8 := by omega
          by_cases hs : ∀ b ∈ o.name, small_ b = true
          · have s1 := trim_yes o.name hl hs
            rw [decide_eq_true (show nameOk o by unfold nameOk; rw [if_pos hk]; exact ⟨hn, h8, hs⟩)]
            refine cK rfl (Wp.region (Ls (Rdo.fieldAddr0 rfl) (Ls (Rdo.load rfl (Lds.one rfl)) (Ls (Rdo.neVs rfl rfl) (Ls (Rdo.move rfl) (Lg rfl rfl (Lw rfl rfl (Rdo.fieldAddr0 rfl) (Lw rfl rfl (Rdo.load rfl (Lds.one rfl)) (Lw rfl rfl (Rdo.lenVs rfl) (Lw rfl rfl (Rdo.lei rfl rfl) (Ls (Rdo.pick_t rfl rfl) (Ls (Rdo.move rfl) (Lg rfl rfl ?_)))))))))))))
            refine Lw rfl rfl (Rdo.fieldAddr0 rfl) (Lw rfl rfl (Rdo.load rfl (Lds.one rfl)) ?_)
            refine WpL.want rfl rfl rfl (Sc (s1) rfl ?_)
            rintro _ _ ⟨rfl, rfl⟩
            refine Ll ?_
            refine Lw rfl rfl (Rdo.eqVs rfl rfl) (Ls (Rdo.pick_t rfl rfl) (Ls (Rdo.assign rfl) (WpL.nil ?_)))
            exact ⟨rfl, (by repeat (first | exact trivial | refine ⟨rfl, ?_⟩ | refine ⟨congrArg some (congrArg Value.bool (decide_eq_true (by first | assumption | omega))), ?_⟩ | refine ⟨congrArg some (congrArg Value.bool (decide_eq_false (by first | assumption | omega))), ?_⟩)), rfl⟩
          · have s1 := trim_no o.name hl hs
            rw [decide_eq_false (show ¬ nameOk o by unfold nameOk; rw [if_pos hk]; exact fun h => hs h.2.2)]
            refine cK rfl (Wp.region (Ls (Rdo.fieldAddr0 rfl) (Ls (Rdo.load rfl (Lds.one rfl)) (Ls (Rdo.neVs rfl rfl) (Ls (Rdo.move rfl) (Lg rfl rfl (Lw rfl rfl (Rdo.fieldAddr0 rfl) (Lw rfl rfl (Rdo.load rfl (Lds.one rfl)) (Lw rfl rfl (Rdo.lenVs rfl) (Lw rfl rfl (Rdo.lei rfl rfl) (Ls (Rdo.pick_t rfl rfl) (Ls (Rdo.move rfl) (Lg rfl rfl ?_)))))))))))))
            refine Lw rfl rfl (Rdo.fieldAddr0 rfl) (Lw rfl rfl (Rdo.load rfl (Lds.one rfl)) ?_)
            refine WpL.want rfl rfl rfl (Sc (s1) rfl ?_)
            rintro _ _ ⟨v17_0, ⟨rfl, rfl⟩⟩
            refine Ll ?_
            refine Lw rfl rfl (Rdo.eqVs rfl rfl) (Ls (Rdo.pick_t rfl rfl) (Ls (Rdo.assign rfl) (WpL.nil ?_)))
            have h9 := v17_0.2
            exact ⟨rfl, (by repeat (first | exact trivial | refine ⟨rfl, ?_⟩ | refine ⟨congrArg some (congrArg Value.bool (decide_eq_true (by first | assumption | omega))), ?_⟩ | refine ⟨congrArg some (congrArg Value.bool (decide_eq_false (by first | assumption | omega))), ?_⟩)), rfl⟩
        · have h8' : ¬ (o.name.length : Int) ≤ 8 := by omega
          rw [decide_eq_false (show ¬ nameOk o by unfold nameOk; rw [if_pos hk]; exact fun h => h8 h.2.1)]
          refine cK rfl (Wp.region (Ls (Rdo.fieldAddr0 rfl) (Ls (Rdo.load rfl (Lds.one rfl)) (Ls (Rdo.neVs rfl rfl) (Ls (Rdo.move rfl) (Lg rfl rfl (Lw rfl rfl (Rdo.fieldAddr0 rfl) (Lw rfl rfl (Rdo.load rfl (Lds.one rfl)) (Lw rfl rfl (Rdo.lenVs rfl) (Lw rfl rfl (Rdo.lei rfl rfl) (Ls (Rdo.pick_t rfl rfl) (Ls (Rdo.move rfl) (Lf rfl rfl ?_)))))))))))))
          refine Lp rfl rfl (Lp rfl rfl (Lp rfl rfl (Lp rfl rfl (Ls (Rdo.pick_f rfl rfl) (Ls (Rdo.assign rfl) (WpL.nil ?_))))))
          exact ⟨rfl, (by repeat (first | exact trivial | refine ⟨rfl, ?_⟩ | refine ⟨congrArg some (congrArg Value.bool (decide_eq_true (by first | assumption | omega))), ?_⟩ | refine ⟨congrArg some (congrArg Value.bool (decide_eq_false (by first | assumption | omega))), ?_⟩)), rfl⟩
    · have hd : nameOk o ↔ o.name = [] := by unfold nameOk; rw [if_neg hk]
      have hd2 : Decidable.decide (nameOk o) = Decidable.decide (o.name = []) := by simp only [hd]
      rw [hd2]
      refine cL rfl (Wp.skip ?_)
      exact ⟨rfl, (by repeat (first | exact trivial | refine ⟨rfl, ?_⟩)), rfl⟩
  · rintro x e' l' ⟨rfl, he, rfl⟩
    refine Thn.n (Wp.sub he ?_)
    have hnm := namedW_ok o
    have hoi := okOp_iff o
    by_cases c1 : 1 ≤ o.kind ∧ o.kind ≤ 4
    · have sc1 := isIn_ok o.kind 1 4
      rw [decide_eq_true c1] at sc1
      by_cases c2 : 0 ≤ o.client ∧ o.client ≤ 15
      · have sc2 := isIn_ok o.client 0 15
        rw [decide_eq_true c2] at sc2
        by_cases c3 : 0 ≤ o.seq ∧ o.seq ≤ 1048576
        · have sc3 := isIn_ok o.seq 0 1048576
          rw [decide_eq_true c3] at sc3
          by_cases c4 : nameOk o
          · rw [decide_eq_true c4]
            by_cases c5 : (0 ≤ o.producer ∧ o.producer ≤ 7) ∧ (0 ≤ o.epoch ∧ o.epoch ≤ 100) ∧ (0 ≤ o.txn ∧ o.txn ≤ 100)
            · have sc5 := isProducer_ok o.producer o.epoch o.txn
              rw [decide_eq_true c5] at sc5
              by_cases c6 : 0 ≤ o.part ∧ o.part ≤ 3
              · have sc6 := isIn_ok o.part 0 3
                rw [decide_eq_true c6] at sc6
                by_cases c7 : namedO o = o
                · skip
                  rw [decide_eq_true (hoi.2 ⟨c1, c2, c3, c4, c5, c6, c7⟩)]
                  skip
                  refine Wp.seq ?_
                  refine Wp.draw (by kernel_rfl) ?_
                  refine Qt (i := 0) rfl (Rdo.fieldAddr0 rfl) ?_
                  refine Qo (i := 1) rfl (Stp.rd (Rdo.load rfl (Lds.one rfl)) rfl ?_)
                  refine Qo (i := 2) rfl (Sc (sc1) rfl ?_)
                  rintro _ _ ⟨rfl, rfl⟩
                  refine Ql ?_
                  refine Qt (i := 3) rfl (Rdo.move rfl) (Qw (i := 4) rfl rfl rfl (Rdo.fieldAddr0 rfl) ?_)
                  refine WpR.oneG (i := 5) rfl rfl rfl rfl (by kernel_rfl) (Stp.rd (Rdo.load rfl (Lds.one rfl)) rfl ?_)
                  refine WpR.oneG (i := 6) rfl rfl rfl rfl (by kernel_rfl) (Sc (sc2) rfl ?_)
                  rintro _ _ ⟨rfl, rfl⟩
                  refine Ql ?_
                  refine Qt (i := 7) rfl (Rdo.pick_t rfl rfl) (Qt (i := 8) rfl (Rdo.move rfl) (Qw (i := 9) rfl rfl rfl (Rdo.fieldAddr0 rfl) ?_))
                  refine WpR.oneG (i := 10) rfl rfl rfl rfl (by kernel_rfl) (Stp.rd (Rdo.load rfl (Lds.one rfl)) rfl ?_)
                  refine WpR.oneG (i := 11) rfl rfl rfl rfl (by kernel_rfl) (Sc (sc3) rfl ?_)
                  rintro _ _ ⟨rfl, rfl⟩
                  refine Ql ?_
                  refine Qt (i := 12) rfl (Rdo.pick_t rfl rfl) (Qt (i := 13) rfl (Rdo.move rfl) (Qw (i := 14) rfl rfl rfl (Rdo.move rfl) (Qt (i := 15) rfl (Rdo.pick_t rfl rfl) (Qt (i := 16) rfl (Rdo.move rfl) (Qw (i := 17) rfl rfl rfl (Rdo.fieldAddr0 rfl) (Qw (i := 19) rfl rfl rfl (Rdo.fieldAddr0 rfl) (Qw (i := 21) rfl rfl rfl (Rdo.fieldAddr0 rfl) ?_)))))))
                  refine WpR.phaseL (m := 0) #[true, true, true, true, true, true, true, true, true, true, true, true, true, true, true, true, true, true, true, true, true, true, true, true, true, true, true, true, true, true, true, true, true, true, true, true, true] 17 _ rfl (by kernel_rfl) (Tk.cons Pk.here Tk.nil) ?_
                  refine Aw (i := 18) rfl rfl rfl (Rdo.load rfl (Lds.one rfl)) (Aw (i := 20) rfl rfl rfl (Rdo.load rfl (Lds.one rfl)) (Aw (i := 22) rfl rfl rfl (Rdo.load rfl (Lds.one rfl)) ?_))
                  refine WpA.oneG (i := 23) rfl rfl rfl rfl (by kernel_rfl) (Sc (sc5) rfl ?_)
                  rintro _ _ ⟨rfl, rfl⟩
                  refine WpA.lst (by simp only [List.cons_append, List.nil_append]; exact rfl) ?_
                  refine At (i := 24) rfl (Rdo.pick_t rfl rfl) (At (i := 25) rfl (Rdo.move rfl) (Aw (i := 26) rfl rfl rfl (Rdo.fieldAddr0 rfl) (Aw (i := 27) rfl rfl rfl (Rdo.load rfl (Lds.one rfl)) ?_)))
                  refine WpA.oneG (i := 28) rfl rfl rfl rfl (by kernel_rfl) (Sc (sc6) rfl ?_)
                  rintro _ _ ⟨rfl, rfl⟩
                  refine WpA.lst (by simp only [List.cons_append, List.nil_append]; exact rfl) ?_
                  refine At (i := 29) rfl (Rdo.pick_t rfl rfl) (At (i := 30) rfl (Rdo.move rfl) ?_)
                  refine Aw (i := 31) rfl rfl rfl (Rdo.load rfl Ld) ?_
                  refine Aw (i := 33) rfl rfl rfl (Rdo.load rfl Ld) ?_
                  refine WpA.oneG (i := 32) rfl rfl rfl rfl (by kernel_rfl) (Sc (hnm) rfl ?_)
                  rintro _ _ ⟨rfl, rfl⟩
                  refine WpA.lst (by simp only [List.cons_append, List.nil_append]; exact rfl) ?_
                  refine Aw (i := 34) rfl rfl rfl (Rdo.eqagg rfl rfl (by first | rfl | exact oks_hc _ | exact oks_voteC _ | assumption) (by first | rfl | exact oks_hc _ | exact oks_voteC _ | assumption)) ?_
                  refine At (i := 35) rfl (Rdo.pick_t rfl rfl) (At (i := 36) rfl (Rdo.assign rfl) ?_)
                  refine WpA.stop (by kernel_rfl) ?_
                  refine Ql ?_
                  refine WpR.done (by kernel_rfl) ?_
                  refine Thn.n (Wp.ret ?_)
                  refine Rt (ResV.tmp rfl ResV.nil) ⟨(by first | rfl | (simp [packed] <;> done) | (simp_all [packed] <;> done)), rfl⟩
                · rw [decide_eq_false (fun h => c7 ((hoi.1 h).2.2.2.2.2.2))]
                  have hc7 : ¬ opC (namedO o) = opC o := fun h => c7 (opC_inj h)
                  refine Wp.seq ?_
                  refine Wp.draw (by kernel_rfl) ?_
                  refine Qt (i := 0) rfl (Rdo.fieldAddr0 rfl) ?_
                  refine Qo (i := 1) rfl (Stp.rd (Rdo.load rfl (Lds.one rfl)) rfl ?_)
                  refine Qo (i := 2) rfl (Sc (sc1) rfl ?_)
                  rintro _ _ ⟨rfl, rfl⟩
                  refine Ql ?_
                  refine Qt (i := 3) rfl (Rdo.move rfl) (Qw (i := 4) rfl rfl rfl (Rdo.fieldAddr0 rfl) ?_)
                  refine WpR.oneG (i := 5) rfl rfl rfl rfl (by kernel_rfl) (Stp.rd (Rdo.load rfl (Lds.one rfl)) rfl ?_)
                  refine WpR.oneG (i := 6) rfl rfl rfl rfl (by kernel_rfl) (Sc (sc2) rfl ?_)
                  rintro _ _ ⟨rfl, rfl⟩
                  refine Ql ?_
                  refine Qt (i := 7) rfl (Rdo.pick_t rfl rfl) (Qt (i := 8) rfl (Rdo.move rfl) (Qw (i := 9) rfl rfl rfl (Rdo.fieldAddr0 rfl) ?_))
                  refine WpR.oneG (i := 10) rfl rfl rfl rfl (by kernel_rfl) (Stp.rd (Rdo.load rfl (Lds.one rfl)) rfl ?_)
                  refine WpR.oneG (i := 11) rfl rfl rfl rfl (by kernel_rfl) (Sc (sc3) rfl ?_)
                  rintro _ _ ⟨rfl, rfl⟩
                  refine Ql ?_
                  refine Qt (i := 12) rfl (Rdo.pick_t rfl rfl) (Qt (i := 13) rfl (Rdo.move rfl) (Qw (i := 14) rfl rfl rfl (Rdo.move rfl) (Qt (i := 15) rfl (Rdo.pick_t rfl rfl) (Qt (i := 16) rfl (Rdo.move rfl) (Qw (i := 17) rfl rfl rfl (Rdo.fieldAddr0 rfl) (Qw (i := 19) rfl rfl rfl (Rdo.fieldAddr0 rfl) (Qw (i := 21) rfl rfl rfl (Rdo.fieldAddr0 rfl) ?_)))))))
                  refine WpR.phaseL (m := 0) #[true, true, true, true, true, true, true, true, true, true, true, true, true, true, true, true, true, true, true, true, true, true, true, true, true, true, true, true, true, true, true, true, true, true, true, true, true] 17 _ rfl (by kernel_rfl) (Tk.cons Pk.here Tk.nil) ?_
                  refine Aw (i := 18) rfl rfl rfl (Rdo.load rfl (Lds.one rfl)) (Aw (i := 20) rfl rfl rfl (Rdo.load rfl (Lds.one rfl)) (Aw (i := 22) rfl rfl rfl (Rdo.load rfl (Lds.one rfl)) ?_))
                  refine WpA.oneG (i := 23) rfl rfl rfl rfl (by kernel_rfl) (Sc (sc5) rfl ?_)
                  rintro _ _ ⟨rfl, rfl⟩
                  refine WpA.lst (by simp only [List.cons_append, List.nil_append]; exact rfl) ?_
                  refine At (i := 24) rfl (Rdo.pick_t rfl rfl) (At (i := 25) rfl (Rdo.move rfl) (Aw (i := 26) rfl rfl rfl (Rdo.fieldAddr0 rfl) (Aw (i := 27) rfl rfl rfl (Rdo.load rfl (Lds.one rfl)) ?_)))
                  refine WpA.oneG (i := 28) rfl rfl rfl rfl (by kernel_rfl) (Sc (sc6) rfl ?_)
                  rintro _ _ ⟨rfl, rfl⟩
                  refine WpA.lst (by simp only [List.cons_append, List.nil_append]; exact rfl) ?_
                  refine At (i := 29) rfl (Rdo.pick_t rfl rfl) (At (i := 30) rfl (Rdo.move rfl) ?_)
                  refine Aw (i := 31) rfl rfl rfl (Rdo.load rfl Ld) ?_
                  refine Aw (i := 33) rfl rfl rfl (Rdo.load rfl Ld) ?_
                  refine WpA.oneG (i := 32) rfl rfl rfl rfl (by kernel_rfl) (Sc (hnm) rfl ?_)
                  rintro _ _ ⟨rfl, rfl⟩
                  refine WpA.lst (by simp only [List.cons_append, List.nil_append]; exact rfl) ?_
                  refine Aw (i := 34) rfl rfl rfl (Rdo.eqagg rfl rfl (by first | rfl | exact oks_hc _ | exact oks_voteC _ | assumption) (by first | rfl | exact oks_hc _ | exact oks_voteC _ | assumption)) ?_
                  refine At (i := 35) rfl (Rdo.pick_t rfl rfl) (At (i := 36) rfl (Rdo.assign rfl) ?_)
                  refine WpA.stop (by kernel_rfl) ?_
                  refine Ql ?_
                  refine WpR.done (by kernel_rfl) ?_
                  refine Thn.n (Wp.ret ?_)
                  refine Rt (ResV.tmp rfl ResV.nil) ⟨(by first | rfl | (simp [packed] <;> done) | (simp_all [packed] <;> done)), rfl⟩
              · have sc6 := isIn_ok o.part 0 3
                rw [decide_eq_false c6] at sc6
                rw [decide_eq_false (fun h => c6 ((hoi.1 h).2.2.2.2.2.1))]
                refine Wp.seq ?_
                refine Wp.draw (by kernel_rfl) ?_
                refine Qt (i := 0) rfl (Rdo.fieldAddr0 rfl) ?_
                refine Qo (i := 1) rfl (Stp.rd (Rdo.load rfl (Lds.one rfl)) rfl ?_)
                refine Qo (i := 2) rfl (Sc (sc1) rfl ?_)
                rintro _ _ ⟨rfl, rfl⟩
                refine Ql ?_
                refine Qt (i := 3) rfl (Rdo.move rfl) (Qw (i := 4) rfl rfl rfl (Rdo.fieldAddr0 rfl) ?_)
                refine WpR.oneG (i := 5) rfl rfl rfl rfl (by kernel_rfl) (Stp.rd (Rdo.load rfl (Lds.one rfl)) rfl ?_)
                refine WpR.oneG (i := 6) rfl rfl rfl rfl (by kernel_rfl) (Sc (sc2) rfl ?_)
                rintro _ _ ⟨rfl, rfl⟩
                refine Ql ?_
                refine Qt (i := 7) rfl (Rdo.pick_t rfl rfl) (Qt (i := 8) rfl (Rdo.move rfl) (Qw (i := 9) rfl rfl rfl (Rdo.fieldAddr0 rfl) ?_))
                refine WpR.oneG (i := 10) rfl rfl rfl rfl (by kernel_rfl) (Stp.rd (Rdo.load rfl (Lds.one rfl)) rfl ?_)
                refine WpR.oneG (i := 11) rfl rfl rfl rfl (by kernel_rfl) (Sc (sc3) rfl ?_)
                rintro _ _ ⟨rfl, rfl⟩
                refine Ql ?_
                refine Qt (i := 12) rfl (Rdo.pick_t rfl rfl) (Qt (i := 13) rfl (Rdo.move rfl) (Qw (i := 14) rfl rfl rfl (Rdo.move rfl) (Qt (i := 15) rfl (Rdo.pick_t rfl rfl) (Qt (i := 16) rfl (Rdo.move rfl) (Qw (i := 17) rfl rfl rfl (Rdo.fieldAddr0 rfl) (Qw (i := 19) rfl rfl rfl (Rdo.fieldAddr0 rfl) (Qw (i := 21) rfl rfl rfl (Rdo.fieldAddr0 rfl) ?_)))))))
                refine WpR.phaseL (m := 0) #[true, true, true, true, true, true, true, true, true, true, true, true, true, true, true, true, true, true, true, true, true, true, true, true, true, true, true, true, true, true, true, true, true, true, true, true, true] 17 _ rfl (by kernel_rfl) (Tk.cons Pk.here Tk.nil) ?_
                refine Aw (i := 18) rfl rfl rfl (Rdo.load rfl (Lds.one rfl)) (Aw (i := 20) rfl rfl rfl (Rdo.load rfl (Lds.one rfl)) (Aw (i := 22) rfl rfl rfl (Rdo.load rfl (Lds.one rfl)) ?_))
                refine WpA.oneG (i := 23) rfl rfl rfl rfl (by kernel_rfl) (Sc (sc5) rfl ?_)
                rintro _ _ ⟨rfl, rfl⟩
                refine WpA.lst (by simp only [List.cons_append, List.nil_append]; exact rfl) ?_
                refine At (i := 24) rfl (Rdo.pick_t rfl rfl) (At (i := 25) rfl (Rdo.move rfl) (Aw (i := 26) rfl rfl rfl (Rdo.fieldAddr0 rfl) (Aw (i := 27) rfl rfl rfl (Rdo.load rfl (Lds.one rfl)) ?_)))
                refine WpA.oneG (i := 28) rfl rfl rfl rfl (by kernel_rfl) (Sc (sc6) rfl ?_)
                rintro _ _ ⟨rfl, rfl⟩
                refine WpA.lst (by simp only [List.cons_append, List.nil_append]; exact rfl) ?_
                refine At (i := 29) rfl (Rdo.pick_t rfl rfl) (At (i := 30) rfl (Rdo.move rfl) ?_)
                refine WpA.pass (i := 31) rfl rfl rfl rfl rfl (by kernel_rfl) (by kernel_rfl) (by kernel_rfl) rfl ?_
                refine WpA.pass (i := 32) rfl rfl rfl rfl rfl (by kernel_rfl) (by kernel_rfl) (by kernel_rfl) rfl ?_
                refine WpA.pass (i := 33) rfl rfl rfl rfl rfl (by kernel_rfl) (by kernel_rfl) (by kernel_rfl) rfl ?_
                refine WpA.pass (i := 34) rfl rfl rfl rfl rfl (by kernel_rfl) (by kernel_rfl) (by kernel_rfl) rfl ?_
                refine At (i := 35) rfl (Rdo.pick_f rfl rfl) (At (i := 36) rfl (Rdo.assign rfl) ?_)
                refine WpA.stop (by kernel_rfl) ?_
                refine Ql ?_
                refine WpR.done (by kernel_rfl) ?_
                refine Thn.n (Wp.ret ?_)
                refine Rt (ResV.tmp rfl ResV.nil) ⟨rfl, rfl⟩
            · have sc5 := isProducer_ok o.producer o.epoch o.txn
              rw [decide_eq_false c5] at sc5
              rw [decide_eq_false (fun h => c5 ((hoi.1 h).2.2.2.2.1))]
              refine Wp.seq ?_
              refine Wp.draw (by kernel_rfl) ?_
              refine Qt (i := 0) rfl (Rdo.fieldAddr0 rfl) ?_
              refine Qo (i := 1) rfl (Stp.rd (Rdo.load rfl (Lds.one rfl)) rfl ?_)
              refine Qo (i := 2) rfl (Sc (sc1) rfl ?_)
              rintro _ _ ⟨rfl, rfl⟩
              refine Ql ?_
              refine Qt (i := 3) rfl (Rdo.move rfl) (Qw (i := 4) rfl rfl rfl (Rdo.fieldAddr0 rfl) ?_)
              refine WpR.oneG (i := 5) rfl rfl rfl rfl (by kernel_rfl) (Stp.rd (Rdo.load rfl (Lds.one rfl)) rfl ?_)
              refine WpR.oneG (i := 6) rfl rfl rfl rfl (by kernel_rfl) (Sc (sc2) rfl ?_)
              rintro _ _ ⟨rfl, rfl⟩
              refine Ql ?_
              refine Qt (i := 7) rfl (Rdo.pick_t rfl rfl) (Qt (i := 8) rfl (Rdo.move rfl) (Qw (i := 9) rfl rfl rfl (Rdo.fieldAddr0 rfl) ?_))
              refine WpR.oneG (i := 10) rfl rfl rfl rfl (by kernel_rfl) (Stp.rd (Rdo.load rfl (Lds.one rfl)) rfl ?_)
              refine WpR.oneG (i := 11) rfl rfl rfl rfl (by kernel_rfl) (Sc (sc3) rfl ?_)
              rintro _ _ ⟨rfl, rfl⟩
              refine Ql ?_
              refine Qt (i := 12) rfl (Rdo.pick_t rfl rfl) (Qt (i := 13) rfl (Rdo.move rfl) (Qw (i := 14) rfl rfl rfl (Rdo.move rfl) (Qt (i := 15) rfl (Rdo.pick_t rfl rfl) (Qt (i := 16) rfl (Rdo.move rfl) (Qw (i := 17) rfl rfl rfl (Rdo.fieldAddr0 rfl) (Qw (i := 19) rfl rfl rfl (Rdo.fieldAddr0 rfl) (Qw (i := 21) rfl rfl rfl (Rdo.fieldAddr0 rfl) ?_)))))))
              refine WpR.phaseL (m := 0) #[true, true, true, true, true, true, true, true, true, true, true, true, true, true, true, true, true, true, true, true, true, true, true, true, true, true, true, true, true, true, true, true, true, true, true, true, true] 17 _ rfl (by kernel_rfl) (Tk.cons Pk.here Tk.nil) ?_
              refine Aw (i := 18) rfl rfl rfl (Rdo.load rfl (Lds.one rfl)) (Aw (i := 20) rfl rfl rfl (Rdo.load rfl (Lds.one rfl)) (Aw (i := 22) rfl rfl rfl (Rdo.load rfl (Lds.one rfl)) ?_))
              refine WpA.oneG (i := 23) rfl rfl rfl rfl (by kernel_rfl) (Sc (sc5) rfl ?_)
              rintro _ _ ⟨rfl, rfl⟩
              refine WpA.lst (by simp only [List.cons_append, List.nil_append]; exact rfl) ?_
              refine At (i := 24) rfl (Rdo.pick_t rfl rfl) (At (i := 25) rfl (Rdo.move rfl) ?_)
              refine WpA.pass (i := 26) rfl rfl rfl rfl rfl (by kernel_rfl) (by kernel_rfl) (by kernel_rfl) rfl ?_
              refine WpA.pass (i := 27) rfl rfl rfl rfl rfl (by kernel_rfl) (by kernel_rfl) (by kernel_rfl) rfl ?_
              refine WpA.pass (i := 28) rfl rfl rfl rfl rfl (by kernel_rfl) (by kernel_rfl) (by kernel_rfl) rfl ?_
              refine At (i := 29) rfl (Rdo.pick_f rfl rfl) (At (i := 30) rfl (Rdo.move rfl) ?_)
              refine WpA.pass (i := 31) rfl rfl rfl rfl rfl (by kernel_rfl) (by kernel_rfl) (by kernel_rfl) rfl ?_
              refine WpA.pass (i := 32) rfl rfl rfl rfl rfl (by kernel_rfl) (by kernel_rfl) (by kernel_rfl) rfl ?_
              refine WpA.pass (i := 33) rfl rfl rfl rfl rfl (by kernel_rfl) (by kernel_rfl) (by kernel_rfl) rfl ?_
              refine WpA.pass (i := 34) rfl rfl rfl rfl rfl (by kernel_rfl) (by kernel_rfl) (by kernel_rfl) rfl ?_
              refine At (i := 35) rfl (Rdo.pick_f rfl rfl) (At (i := 36) rfl (Rdo.assign rfl) ?_)
              refine WpA.stop (by kernel_rfl) ?_
              refine Ql ?_
              refine WpR.done (by kernel_rfl) ?_
              refine Thn.n (Wp.ret ?_)
              refine Rt (ResV.tmp rfl ResV.nil) ⟨rfl, rfl⟩
          · rw [decide_eq_false c4]
            rw [decide_eq_false (fun h => c4 ((hoi.1 h).2.2.2.1))]
            refine Wp.seq ?_
            refine Wp.draw (by kernel_rfl) ?_
            refine Qt (i := 0) rfl (Rdo.fieldAddr0 rfl) ?_
            refine Qo (i := 1) rfl (Stp.rd (Rdo.load rfl (Lds.one rfl)) rfl ?_)
            refine Qo (i := 2) rfl (Sc (sc1) rfl ?_)
            rintro _ _ ⟨rfl, rfl⟩
            refine Ql ?_
            refine Qt (i := 3) rfl (Rdo.move rfl) (Qw (i := 4) rfl rfl rfl (Rdo.fieldAddr0 rfl) ?_)
            refine WpR.oneG (i := 5) rfl rfl rfl rfl (by kernel_rfl) (Stp.rd (Rdo.load rfl (Lds.one rfl)) rfl ?_)
            refine WpR.oneG (i := 6) rfl rfl rfl rfl (by kernel_rfl) (Sc (sc2) rfl ?_)
            rintro _ _ ⟨rfl, rfl⟩
            refine Ql ?_
            refine Qt (i := 7) rfl (Rdo.pick_t rfl rfl) (Qt (i := 8) rfl (Rdo.move rfl) (Qw (i := 9) rfl rfl rfl (Rdo.fieldAddr0 rfl) ?_))
            refine WpR.oneG (i := 10) rfl rfl rfl rfl (by kernel_rfl) (Stp.rd (Rdo.load rfl (Lds.one rfl)) rfl ?_)
            refine WpR.oneG (i := 11) rfl rfl rfl rfl (by kernel_rfl) (Sc (sc3) rfl ?_)
            rintro _ _ ⟨rfl, rfl⟩
            refine Ql ?_
            refine Qt (i := 12) rfl (Rdo.pick_t rfl rfl) (Qt (i := 13) rfl (Rdo.move rfl) (Qw (i := 14) rfl rfl rfl (Rdo.move rfl) (Qt (i := 15) rfl (Rdo.pick_t rfl rfl) (Qt (i := 16) rfl (Rdo.move rfl) (Qp (i := 17) rfl rfl rfl (Qp (i := 18) rfl rfl rfl (Qp (i := 19) rfl rfl rfl (Qp (i := 20) rfl rfl rfl (Qp (i := 21) rfl rfl rfl (Qp (i := 22) rfl rfl rfl (Qp (i := 23) rfl rfl rfl (Qt (i := 24) rfl (Rdo.pick_f rfl rfl) (Qt (i := 25) rfl (Rdo.move rfl) ?_)))))))))))))
            refine Qp (i := 26) rfl rfl rfl (Qp (i := 27) rfl rfl rfl (Qp (i := 28) rfl rfl rfl (Qt (i := 29) rfl (Rdo.pick_f rfl rfl) (Qt (i := 30) rfl (Rdo.move rfl) (Qp (i := 31) rfl rfl rfl (Qp (i := 32) rfl rfl rfl (Qp (i := 33) rfl rfl rfl (Qp (i := 34) rfl rfl rfl (Qt (i := 35) rfl (Rdo.pick_f rfl rfl) (Qt (i := 36) rfl (Rdo.assign rfl) ?_))))))))))
            refine WpR.done (by kernel_rfl) ?_
            refine Thn.n (Wp.ret ?_)
            refine Rt (ResV.tmp rfl ResV.nil) ⟨rfl, rfl⟩
        · have sc3 := isIn_ok o.seq 0 1048576
          rw [decide_eq_false c3] at sc3
          rw [decide_eq_false (fun h => c3 ((hoi.1 h).2.2.1))]
          refine Wp.seq ?_
          refine Wp.draw (by kernel_rfl) ?_
          refine Qt (i := 0) rfl (Rdo.fieldAddr0 rfl) ?_
          refine Qo (i := 1) rfl (Stp.rd (Rdo.load rfl (Lds.one rfl)) rfl ?_)
          refine Qo (i := 2) rfl (Sc (sc1) rfl ?_)
          rintro _ _ ⟨rfl, rfl⟩
          refine Ql ?_
          refine Qt (i := 3) rfl (Rdo.move rfl) (Qw (i := 4) rfl rfl rfl (Rdo.fieldAddr0 rfl) ?_)
          refine WpR.oneG (i := 5) rfl rfl rfl rfl (by kernel_rfl) (Stp.rd (Rdo.load rfl (Lds.one rfl)) rfl ?_)
          refine WpR.oneG (i := 6) rfl rfl rfl rfl (by kernel_rfl) (Sc (sc2) rfl ?_)
          rintro _ _ ⟨rfl, rfl⟩
          refine Ql ?_
          refine Qt (i := 7) rfl (Rdo.pick_t rfl rfl) (Qt (i := 8) rfl (Rdo.move rfl) (Qw (i := 9) rfl rfl rfl (Rdo.fieldAddr0 rfl) ?_))
          refine WpR.oneG (i := 10) rfl rfl rfl rfl (by kernel_rfl) (Stp.rd (Rdo.load rfl (Lds.one rfl)) rfl ?_)
          refine WpR.oneG (i := 11) rfl rfl rfl rfl (by kernel_rfl) (Sc (sc3) rfl ?_)
          rintro _ _ ⟨rfl, rfl⟩
          refine Ql ?_
          refine Qt (i := 12) rfl (Rdo.pick_t rfl rfl) (Qt (i := 13) rfl (Rdo.move rfl) (Qp (i := 14) rfl rfl rfl (Qt (i := 15) rfl (Rdo.pick_f rfl rfl) (Qt (i := 16) rfl (Rdo.move rfl) (Qp (i := 17) rfl rfl rfl (Qp (i := 18) rfl rfl rfl (Qp (i := 19) rfl rfl rfl (Qp (i := 20) rfl rfl rfl (Qp (i := 21) rfl rfl rfl (Qp (i := 22) rfl rfl rfl (Qp (i := 23) rfl rfl rfl (Qt (i := 24) rfl (Rdo.pick_f rfl rfl) (Qt (i := 25) rfl (Rdo.move rfl) ?_)))))))))))))
          refine Qp (i := 26) rfl rfl rfl (Qp (i := 27) rfl rfl rfl (Qp (i := 28) rfl rfl rfl (Qt (i := 29) rfl (Rdo.pick_f rfl rfl) (Qt (i := 30) rfl (Rdo.move rfl) (Qp (i := 31) rfl rfl rfl (Qp (i := 32) rfl rfl rfl (Qp (i := 33) rfl rfl rfl (Qp (i := 34) rfl rfl rfl (Qt (i := 35) rfl (Rdo.pick_f rfl rfl) (Qt (i := 36) rfl (Rdo.assign rfl) ?_))))))))))
          refine WpR.done (by kernel_rfl) ?_
          refine Thn.n (Wp.ret ?_)
          refine Rt (ResV.tmp rfl ResV.nil) ⟨rfl, rfl⟩
      · have sc2 := isIn_ok o.client 0 15
        rw [decide_eq_false c2] at sc2
        rw [decide_eq_false (fun h => c2 ((hoi.1 h).2.1))]
        refine Wp.seq ?_
        refine Wp.draw (by kernel_rfl) ?_
        refine Qt (i := 0) rfl (Rdo.fieldAddr0 rfl) ?_
        refine Qo (i := 1) rfl (Stp.rd (Rdo.load rfl (Lds.one rfl)) rfl ?_)
        refine Qo (i := 2) rfl (Sc (sc1) rfl ?_)
        rintro _ _ ⟨rfl, rfl⟩
        refine Ql ?_
        refine Qt (i := 3) rfl (Rdo.move rfl) (Qw (i := 4) rfl rfl rfl (Rdo.fieldAddr0 rfl) ?_)
        refine WpR.oneG (i := 5) rfl rfl rfl rfl (by kernel_rfl) (Stp.rd (Rdo.load rfl (Lds.one rfl)) rfl ?_)
        refine WpR.oneG (i := 6) rfl rfl rfl rfl (by kernel_rfl) (Sc (sc2) rfl ?_)
        rintro _ _ ⟨rfl, rfl⟩
        refine Ql ?_
        refine Qt (i := 7) rfl (Rdo.pick_t rfl rfl) (Qt (i := 8) rfl (Rdo.move rfl) (Qp (i := 9) rfl rfl rfl (Qp (i := 10) rfl rfl rfl (Qp (i := 11) rfl rfl rfl (Qt (i := 12) rfl (Rdo.pick_f rfl rfl) (Qt (i := 13) rfl (Rdo.move rfl) (Qp (i := 14) rfl rfl rfl (Qt (i := 15) rfl (Rdo.pick_f rfl rfl) (Qt (i := 16) rfl (Rdo.move rfl) (Qp (i := 17) rfl rfl rfl (Qp (i := 18) rfl rfl rfl (Qp (i := 19) rfl rfl rfl (Qp (i := 20) rfl rfl rfl ?_)))))))))))))
        refine Qp (i := 21) rfl rfl rfl (Qp (i := 22) rfl rfl rfl (Qp (i := 23) rfl rfl rfl (Qt (i := 24) rfl (Rdo.pick_f rfl rfl) (Qt (i := 25) rfl (Rdo.move rfl) (Qp (i := 26) rfl rfl rfl (Qp (i := 27) rfl rfl rfl (Qp (i := 28) rfl rfl rfl (Qt (i := 29) rfl (Rdo.pick_f rfl rfl) (Qt (i := 30) rfl (Rdo.move rfl) (Qp (i := 31) rfl rfl rfl (Qp (i := 32) rfl rfl rfl (Qp (i := 33) rfl rfl rfl (Qp (i := 34) rfl rfl rfl ?_)))))))))))))
        refine Qt (i := 35) rfl (Rdo.pick_f rfl rfl) (Qt (i := 36) rfl (Rdo.assign rfl) ?_)
        refine WpR.done (by kernel_rfl) ?_
        refine Thn.n (Wp.ret ?_)
        refine Rt (ResV.tmp rfl ResV.nil) ⟨rfl, rfl⟩
    · have sc1 := isIn_ok o.kind 1 4
      rw [decide_eq_false c1] at sc1
      rw [decide_eq_false (fun h => c1 ((hoi.1 h).1))]
      refine Wp.seq ?_
      refine Wp.draw (by kernel_rfl) ?_
      refine Qt (i := 0) rfl (Rdo.fieldAddr0 rfl) ?_
      refine Qo (i := 1) rfl (Stp.rd (Rdo.load rfl (Lds.one rfl)) rfl ?_)
      refine Qo (i := 2) rfl (Sc (sc1) rfl ?_)
      rintro _ _ ⟨rfl, rfl⟩
      refine Ql ?_
      refine Qt (i := 3) rfl (Rdo.move rfl) (Qp (i := 4) rfl rfl rfl (Qp (i := 5) rfl rfl rfl (Qp (i := 6) rfl rfl rfl (Qt (i := 7) rfl (Rdo.pick_f rfl rfl) (Qt (i := 8) rfl (Rdo.move rfl) (Qp (i := 9) rfl rfl rfl (Qp (i := 10) rfl rfl rfl (Qp (i := 11) rfl rfl rfl (Qt (i := 12) rfl (Rdo.pick_f rfl rfl) (Qt (i := 13) rfl (Rdo.move rfl) (Qp (i := 14) rfl rfl rfl (Qt (i := 15) rfl (Rdo.pick_f rfl rfl) (Qt (i := 16) rfl (Rdo.move rfl) ?_)))))))))))))
      refine Qp (i := 17) rfl rfl rfl (Qp (i := 18) rfl rfl rfl (Qp (i := 19) rfl rfl rfl (Qp (i := 20) rfl rfl rfl (Qp (i := 21) rfl rfl rfl (Qp (i := 22) rfl rfl rfl (Qp (i := 23) rfl rfl rfl (Qt (i := 24) rfl (Rdo.pick_f rfl rfl) (Qt (i := 25) rfl (Rdo.move rfl) (Qp (i := 26) rfl rfl rfl (Qp (i := 27) rfl rfl rfl (Qp (i := 28) rfl rfl rfl (Qt (i := 29) rfl (Rdo.pick_f rfl rfl) (Qt (i := 30) rfl (Rdo.move rfl) ?_)))))))))))))
      refine Qp (i := 31) rfl rfl rfl (Qp (i := 32) rfl rfl rfl (Qp (i := 33) rfl rfl rfl (Qp (i := 34) rfl rfl rfl (Qt (i := 35) rfl (Rdo.pick_f rfl rfl) (Qt (i := 36) rfl (Rdo.assign rfl) ?_)))))
      refine WpR.done (by kernel_rfl) ?_
      refine Thn.n (Wp.ret ?_)
      refine Rt (ResV.tmp rfl ResV.nil) ⟨rfl, rfl⟩
end Go.Proofs.YtccgdnocldmjeaaGreatDoor
namespace Go.Proofs.YtccgdnocldmjeaaGreatDoor
open Go
set_option maxHeartbeats 4000000
set_option linter.unusedSimpArgs false
set_option linter.unusedVariables false
set_option maxRecDepth 20000
/-- An operation's bytes. -/
def opB (o : Go.Proofs.YtccgdnocldmjeaaGreatDoor.Op) : List UInt8 := numsB [2, o.kind, o.client, o.seq] ++ rowB o.name ++ numsB [o.producer, o.epoch, o.txn, o.part, if o.commit = true then 1 else 0]
theorem wr0 {w : Nat} {l rest : List HP} (hp : Pk l (cel w 76 [.slice none 0 0]) rest) : Gh l (wrA w [] :: rest) :=
  Gh.trans (Gh.front hp) (Gh.trans (Gh.nil 5 1) (Gh.trans (Gh.perm (List.Perm.swap _ _ _)) (wrA_shut (a := none) (c := 0) (bs := []))))
theorem bytesR_ok (w nb : Nat) (bs : List UInt8) (v : Value) (xs : List UInt8) (hl : bs.length + xs.length ≤ 1000000000000) :
    Trip Tryz.prog 27 [vp w 0, .slice (some ⟨nb, 0, none⟩) 1 1] [wrA w bs, cel nb 49 [v], rowA 5 1 v xs.length (bytesC xs)]
      (fun r l => r = .tuple #[] ∧ l = [wrA w (bs ++ rowB xs)]) := by
  refine Trip.gh (Gh.trans (Gh.ice (Pk.next (Pk.next Pk.here))) Gk) (Trip.via (rest := []) (bytes_ok w nb bs v xs hl) Tk.rfl_ ?_)
  rintro r l ⟨rfl, rfl⟩
  exact ⟨_, ⟨rfl, rfl⟩, Gk⟩
theorem opB_len (o : Go.Proofs.YtccgdnocldmjeaaGreatDoor.Op) (hl : o.name.length ≤ 1000000) : (opB o).length ≤ 2000000 := by
  have h1 := numsB_len [2, o.kind, o.client, o.seq]
  have h2 := numsB_len [o.producer, o.epoch, o.txn, o.part, if o.commit = true then 1 else 0]
  have h3 : (numB o.name.length).length ≤ 9 := numB_len 8 _ (by omega)
  simp only [List.length_cons, List.length_nil] at h1 h2
  simp only [opB, rowB, List.length_append]
  omega
theorem encOp_no (o : Go.Proofs.YtccgdnocldmjeaaGreatDoor.Op) (hl : o.name.length ≤ 1000000) (h : ¬ okOp o) : Trip Tryz.prog 12 [.agg (opC o).toArray] [] (fun r l => r = .tuple #[vnil, vi 1] ∧ l = []) := by
  have s1 := isOp_ok o hl
  rw [decide_eq_false h] at s1
  refine Trip.of_body Tryz.func12 rfl Tryz.ntmps12 Tryz.results12 rfl ?_
  refine Wsr ?_
  (refine WpL.step (Stp.boxV rfl (VC.ag _) rfl ?_); intro nb2)
  refine Ls (Rdo.assign rfl) (Ls (Rdo.assign rfl) (Lnt (Wp.seq (Wsr ?_))))
  refine Ls (Rdo.load rfl Ld) ?_
  refine WpL.step (Sc (s1) rfl ?_)
  rintro _ _ ⟨rfl, rfl⟩
  refine Ll ?_
  refine Ls (Rdo.not rfl) (Lnt ?_)
  refine Wp.condT rfl ?_
  refine Wsr (Ls (Rdo.assign rfl) (Ls (Rdo.assign rfl) (Lnt (Wp.ret ?_))))
  refine Thn.r ?_
  refine Rt (ResV.tmp rfl (ResV.tmp rfl ResV.nil)) ⟨rfl, rfl⟩
theorem encOp_ok (o : Go.Proofs.YtccgdnocldmjeaaGreatDoor.Op) (h : okOp o) (hl : o.name.length ≤ 1000000) : Trip Tryz.prog 12 [.agg (opC o).toArray] []
    (fun r l => ∃ a c, r = .tuple #[.slice a (opB o).length c, vi 0] ∧ l = [fz (fun g => RdBytes g (.slice a (opB o).length c) (opB o))]) := by
  have s1 := isOp_ok o hl
  rw [decide_eq_true h] at s1
  cases hc : o.commit with
  | true =>
    refine Trip.of_body Tryz.func12 rfl Tryz.ntmps12 Tryz.results12 rfl ?_
    refine Wsr ?_
    (refine WpL.step (Stp.boxV rfl (VC.ag _) rfl ?_); intro nb2)
    refine Ls (Rdo.assign rfl) (Ls (Rdo.assign rfl) (Lnt (Wp.seq (Wsr ?_))))
    refine Ls (Rdo.load rfl Ld) ?_
    refine WpL.step (Sc (s1) rfl ?_)
    rintro _ _ ⟨rfl, rfl⟩
    refine Ll ?_
    refine Ls (Rdo.not rfl) (Lnt ?_)
    refine Wp.condF rfl ?_
    refine Wp.skip (Thn.n (Wsr (Ls (Rdo.assign rfl) (Lnt (Wp.seq (Wsr (Ls (Rdo.fieldAddr0 rfl) (Ls (Rdo.load rfl (Lds.one rfl)) (Lnt (cK rfl (Wp.region (Ls (Rdo.assign rfl) (Lnt ?_)))))))))))))
    refine Wsr ?_
    (refine WpL.step (Stp.alloc rfl ?_); intro nb39)
    refine Lnt (Wsr (Ls (Rdo.fieldAddr0 rfl) (Ls (Rdo.load rfl (Lds.next (Lds.one rfl))) (Ls (Rdo.fieldAddr0 rfl) (Ls (Rdo.load rfl (Lds.next (Lds.one rfl))) (Ls (Rdo.fieldAddr0 rfl) (Ls (Rdo.load rfl (Lds.next (Lds.one rfl))) ?_)))))))
    (refine WpL.step (Stp.sliceV rfl rfl (VCs.cons (VC.i _ _) (by first | rfl | assumption | (simp <;> done)) (VCs.cons (VC.i _ _) (by first | rfl | assumption | (simp <;> done)) (VCs.cons (VC.i _ _) (by first | rfl | assumption | (simp <;> done)) (VCs.cons (VC.i _ _) (by first | rfl | assumption | (simp <;> done)) VCs.nil)))) (by simp only [List.cons_append, List.nil_append, List.append_nil]; exact rfl) rfl rfl ?_); intro nb50)
    have h1 := numsB_len [2, o.kind, o.client, o.seq]
    have h3 : (numB o.name.length).length ≤ 9 := numB_len 8 _ (by omega)
    simp only [List.length_cons, List.length_nil] at h1
    refine WpL.gh (wr0 (Pk.next Pk.here)) ?_
    have n1 : ∀ nb, Trip Tryz.prog 26 [vp nb39 0, .slice (some ⟨nb, 0, none⟩) 4 4] [wrA nb39 [], cel nb 3 [vi 2, vi o.kind, vi o.client, vi o.seq]] (fun r l => r = .tuple #[] ∧ l = [wrA nb39 (numsB [2, o.kind, o.client, o.seq])]) := fun nb => nums_ok nb39 nb [] [2, o.kind, o.client, o.seq] (by simp)
    have n2 := fun nb v => bytes_ok nb39 nb (numsB [2, o.kind, o.client, o.seq]) v o.name (by omega)
    have n3 : ∀ nb, Trip Tryz.prog 26 [vp nb39 0, .slice (some ⟨nb, 0, none⟩) 5 5] [wrA nb39 (numsB [2, o.kind, o.client, o.seq] ++ rowB o.name), cel nb 3 [vi o.producer, vi o.epoch, vi o.txn, vi o.part, vi 1]] (fun r l => r = .tuple #[] ∧ l = [wrA nb39 (opB o)]) := by
      intro nb
      have h := nums_ok nb39 nb (numsB [2, o.kind, o.client, o.seq] ++ rowB o.name) [o.producer, o.epoch, o.txn, o.part, 1] (by simp [rowB]; omega)
      have e : opB o = numsB [2, o.kind, o.client, o.seq] ++ rowB o.name ++ numsB [o.producer, o.epoch, o.txn, o.part, 1] := by unfold opB; rw [hc]; rfl
      rw [e]
      exact h
    have n4 := out_ok nb39 (opB o) (by have := opB_len o hl; omega)
    refine WpL.step (Sc (n1 _) rfl ?_)
    rintro _ _ ⟨rfl, rfl⟩
    refine Ll ?_
    refine Lnt (Wsr (Ls (Rdo.fieldAddr0 rfl) (Ls (Rdo.load rfl (Lds.next (Lds.one rfl))) ?_)))
    (refine WpL.step (Stp.strBytes rfl rfl ?_); intro na9 nc9)
    (refine WpL.step (Stp.sliceV rfl rfl (VCs.cons (VC.sl _ _ _) (by first | rfl | assumption | (simp <;> done)) VCs.nil) (by simp only [List.cons_append, List.nil_append, List.append_nil]; exact rfl) rfl rfl ?_); intro nb10)
    refine WpL.step (Sc (n2 _ _) rfl ?_)
    rintro _ _ ⟨rfl, rfl⟩
    refine Ll ?_
    refine Lnt (Wsr (Ls (Rdo.fieldAddr0 rfl) (Ls (Rdo.load rfl (Lds.next (Lds.next (Lds.one rfl)))) (Ls (Rdo.fieldAddr0 rfl) (Ls (Rdo.load rfl (Lds.next (Lds.next (Lds.one rfl)))) (Ls (Rdo.fieldAddr0 rfl) (Ls (Rdo.load rfl (Lds.next (Lds.next (Lds.one rfl)))) (Ls (Rdo.fieldAddr0 rfl) (Ls (Rdo.load rfl (Lds.next (Lds.next (Lds.one rfl)))) (Ls (Rdo.move rfl) ?_))))))))))
    (refine WpL.step (Stp.sliceV rfl rfl (VCs.cons (VC.i _ _) (by first | rfl | assumption | (simp <;> done)) (VCs.cons (VC.i _ _) (by first | rfl | assumption | (simp <;> done)) (VCs.cons (VC.i _ _) (by first | rfl | assumption | (simp <;> done)) (VCs.cons (VC.i _ _) (by first | rfl | assumption | (simp <;> done)) (VCs.cons (VC.i _ _) (by first | rfl | assumption | (simp <;> done)) VCs.nil))))) (by simp only [List.cons_append, List.nil_append, List.append_nil]; exact rfl) rfl rfl ?_); intro nb27)
    refine WpL.step (Sc (n3 _) rfl ?_)
    rintro _ _ ⟨rfl, rfl⟩
    refine Ll ?_
    refine Lnt (Wsr ?_)
    refine WpL.step (Sc (n4) rfl ?_)
    rintro _ _ ⟨v36_0, ⟨v36_1, ⟨rfl, rfl⟩⟩⟩
    refine Ll ?_
    refine Ls (Rdo.assign rfl) (Ls (Rdo.assign rfl) (Lnt (Wp.ret ?_)))
    refine Rt (ResV.tmp rfl (ResV.tmp rfl ResV.nil)) ⟨_, ⟨_, ⟨rfl, rfl⟩⟩⟩
  | false =>
    refine Trip.of_body Tryz.func12 rfl Tryz.ntmps12 Tryz.results12 rfl ?_
    refine Wsr ?_
    (refine WpL.step (Stp.boxV rfl (VC.ag _) rfl ?_); intro nb2)
    refine Ls (Rdo.assign rfl) (Ls (Rdo.assign rfl) (Lnt (Wp.seq (Wsr ?_))))
    refine Ls (Rdo.load rfl Ld) ?_
    refine WpL.step (Sc (s1) rfl ?_)
    rintro _ _ ⟨rfl, rfl⟩
    refine Ll ?_
    refine Ls (Rdo.not rfl) (Lnt ?_)
    refine Wp.condF rfl ?_
    refine Wp.skip (Thn.n (Wsr (Ls (Rdo.assign rfl) (Lnt (Wp.seq (Wsr (Ls (Rdo.fieldAddr0 rfl) (Ls (Rdo.load rfl (Lds.one rfl)) (Lnt (cL rfl (Wp.skip (Thn.n (Wsr ?_)))))))))))))
    (refine WpL.step (Stp.alloc rfl ?_); intro nb37)
    refine Lnt (Wsr (Ls (Rdo.fieldAddr0 rfl) (Ls (Rdo.load rfl (Lds.next (Lds.one rfl))) (Ls (Rdo.fieldAddr0 rfl) (Ls (Rdo.load rfl (Lds.next (Lds.one rfl))) (Ls (Rdo.fieldAddr0 rfl) (Ls (Rdo.load rfl (Lds.next (Lds.one rfl))) ?_)))))))
    (refine WpL.step (Stp.sliceV rfl rfl (VCs.cons (VC.i _ _) (by first | rfl | assumption | (simp <;> done)) (VCs.cons (VC.i _ _) (by first | rfl | assumption | (simp <;> done)) (VCs.cons (VC.i _ _) (by first | rfl | assumption | (simp <;> done)) (VCs.cons (VC.i _ _) (by first | rfl | assumption | (simp <;> done)) VCs.nil)))) (by simp only [List.cons_append, List.nil_append, List.append_nil]; exact rfl) rfl rfl ?_); intro nb48)
    have h1 := numsB_len [2, o.kind, o.client, o.seq]
    have h3 : (numB o.name.length).length ≤ 9 := numB_len 8 _ (by omega)
    simp only [List.length_cons, List.length_nil] at h1
    refine WpL.gh (wr0 (Pk.next Pk.here)) ?_
    have n1 : ∀ nb, Trip Tryz.prog 26 [vp nb37 0, .slice (some ⟨nb, 0, none⟩) 4 4] [wrA nb37 [], cel nb 3 [vi 2, vi o.kind, vi o.client, vi o.seq]] (fun r l => r = .tuple #[] ∧ l = [wrA nb37 (numsB [2, o.kind, o.client, o.seq])]) := fun nb => nums_ok nb37 nb [] [2, o.kind, o.client, o.seq] (by simp)
    have n2 := fun nb v => bytes_ok nb37 nb (numsB [2, o.kind, o.client, o.seq]) v o.name (by omega)
    have n3 : ∀ nb, Trip Tryz.prog 26 [vp nb37 0, .slice (some ⟨nb, 0, none⟩) 5 5] [wrA nb37 (numsB [2, o.kind, o.client, o.seq] ++ rowB o.name), cel nb 3 [vi o.producer, vi o.epoch, vi o.txn, vi o.part, vi 0]] (fun r l => r = .tuple #[] ∧ l = [wrA nb37 (opB o)]) := by
      intro nb
      have h := nums_ok nb37 nb (numsB [2, o.kind, o.client, o.seq] ++ rowB o.name) [o.producer, o.epoch, o.txn, o.part, 0] (by simp [rowB]; omega)
      have e : opB o = numsB [2, o.kind, o.client, o.seq] ++ rowB o.name ++ numsB [o.producer, o.epoch, o.txn, o.part, 0] := by unfold opB; rw [hc]; rfl
      rw [e]
      exact h
    have n4 := out_ok nb37 (opB o) (by have := opB_len o hl; omega)
    refine WpL.step (Sc (n1 _) rfl ?_)
    rintro _ _ ⟨rfl, rfl⟩
    refine Ll ?_
    refine Lnt (Wsr (Ls (Rdo.fieldAddr0 rfl) (Ls (Rdo.load rfl (Lds.next (Lds.one rfl))) ?_)))
    (refine WpL.step (Stp.strBytes rfl rfl ?_); intro na9 nc9)
    (refine WpL.step (Stp.sliceV rfl rfl (VCs.cons (VC.sl _ _ _) (by first | rfl | assumption | (simp <;> done)) VCs.nil) (by simp only [List.cons_append, List.nil_append, List.append_nil]; exact rfl) rfl rfl ?_); intro nb10)
    refine WpL.step (Sc (n2 _ _) rfl ?_)
    rintro _ _ ⟨rfl, rfl⟩
    refine Ll ?_
    refine Lnt (Wsr (Ls (Rdo.fieldAddr0 rfl) (Ls (Rdo.load rfl (Lds.next (Lds.next (Lds.one rfl)))) (Ls (Rdo.fieldAddr0 rfl) (Ls (Rdo.load rfl (Lds.next (Lds.next (Lds.one rfl)))) (Ls (Rdo.fieldAddr0 rfl) (Ls (Rdo.load rfl (Lds.next (Lds.next (Lds.one rfl)))) (Ls (Rdo.fieldAddr0 rfl) (Ls (Rdo.load rfl (Lds.next (Lds.next (Lds.one rfl)))) (Ls (Rdo.move rfl) ?_))))))))))
    (refine WpL.step (Stp.sliceV rfl rfl (VCs.cons (VC.i _ _) (by first | rfl | assumption | (simp <;> done)) (VCs.cons (VC.i _ _) (by first | rfl | assumption | (simp <;> done)) (VCs.cons (VC.i _ _) (by first | rfl | assumption | (simp <;> done)) (VCs.cons (VC.i _ _) (by first | rfl | assumption | (simp <;> done)) (VCs.cons (VC.i _ _) (by first | rfl | assumption | (simp <;> done)) VCs.nil))))) (by simp only [List.cons_append, List.nil_append, List.append_nil]; exact rfl) rfl rfl ?_); intro nb27)
    refine WpL.step (Sc (n3 _) rfl ?_)
    rintro _ _ ⟨rfl, rfl⟩
    refine Ll ?_
    refine Lnt (Wsr ?_)
    refine WpL.step (Sc (n4) rfl ?_)
    rintro _ _ ⟨v36_0, ⟨v36_1, ⟨rfl, rfl⟩⟩⟩
    refine Ll ?_
    refine Ls (Rdo.assign rfl) (Ls (Rdo.assign rfl) (Lnt (Wp.ret ?_)))
    refine Rt (ResV.tmp rfl (ResV.tmp rfl ResV.nil)) ⟨_, ⟨_, ⟨rfl, rfl⟩⟩⟩
end Go.Proofs.YtccgdnocldmjeaaGreatDoor
namespace Go.Proofs.YtccgdnocldmjeaaGreatDoor
open Go
set_option maxHeartbeats 4000000
set_option linter.unusedSimpArgs false
set_option linter.unusedVariables false
set_option maxRecDepth 20000
/-- A mark that may be. -/
def okMark (m : Mark) : Prop := (1 ≤ m.kind ∧ m.kind ≤ 3) ∧ ((0 ≤ m.producer ∧ m.producer ≤ 7) ∧ (0 ≤ m.epoch ∧ m.epoch ≤ 100) ∧ (0 ≤ m.txn ∧ m.txn ≤ 100)) ∧ (¬ m.kind = 1 ∨ m.txn = 0)
instance (m : Mark) : Decidable (okMark m) := by unfold okMark; infer_instance
theorem isMark_yes (m : Mark) (h : okMark m) : Trip Tryz.prog 61 [.agg (markC m).toArray] [] (fun r l => r = vb true ∧ l = []) := by
  obtain ⟨h1, h2, h3⟩ := h
  have s1 := isIn_ok m.kind 1 3
  rw [decide_eq_true h1] at s1
  have s2 := isProducer_ok m.producer m.epoch m.txn
  rw [decide_eq_true h2] at s2
  by_cases hk : m.kind = 1
  · have ht : m.txn = 0 := h3.resolve_left (fun h => h hk)
    refine Trip.of_body Tryz.func61 rfl Tryz.ntmps61 Tryz.results61 rfl ?_
    refine Wsr ?_
    (refine WpL.step (Stp.boxV rfl (VC.ag _) rfl ?_); intro nb2)
    refine Ls (Rdo.assign rfl) (Lnt (Wsr (Ls (Rdo.fieldAddr0 rfl) (Ls (Rdo.load rfl (Lds.one rfl)) ?_))))
    refine WpL.step (Sc (s1) rfl ?_)
    rintro _ _ ⟨rfl, rfl⟩
    refine Ll ?_
    refine Ls (Rdo.move rfl) (Lw rfl rfl (Rdo.fieldAddr0 rfl) (Lw rfl rfl (Rdo.load rfl (Lds.one rfl)) (Lw rfl rfl (Rdo.fieldAddr0 rfl) (Lw rfl rfl (Rdo.load rfl (Lds.one rfl)) (Lw rfl rfl (Rdo.fieldAddr0 rfl) (Lw rfl rfl (Rdo.load rfl (Lds.one rfl)) ?_))))))
    refine WpL.want rfl rfl rfl (Sc (s2) rfl ?_)
    rintro _ _ ⟨rfl, rfl⟩
    refine Ll ?_
    refine Ls (Rdo.pick_t rfl rfl) (Ls (Rdo.move rfl) (Lw rfl rfl (Rdo.fieldAddr0 rfl) (Lw rfl rfl (Rdo.load rfl (Lds.one rfl)) (Lw rfl rfl (Rdo.nei rfl rfl) (Lw rfl rfl (Rdo.move rfl) (Lf rfl rfl (Lw rfl rfl (Rdo.fieldAddr0 rfl) (Lw rfl rfl (Rdo.load rfl (Lds.one rfl)) (Lw rfl rfl (Rdo.eqi rfl rfl) (Lw rfl rfl (Rdo.pick_f rfl rfl) (Ls (Rdo.pick_t rfl rfl) (Ls (Rdo.assign rfl) (Lnt ?_)))))))))))))
    refine Wp.ret ?_
    refine Rt (ResV.tmp rfl ResV.nil) ⟨(by first | rfl | (simp [packed] <;> done) | (simp_all [packed] <;> done)), rfl⟩
  · refine Trip.of_body Tryz.func61 rfl Tryz.ntmps61 Tryz.results61 rfl ?_
    refine Wsr ?_
    (refine WpL.step (Stp.boxV rfl (VC.ag _) rfl ?_); intro nb2)
    refine Ls (Rdo.assign rfl) (Lnt (Wsr (Ls (Rdo.fieldAddr0 rfl) (Ls (Rdo.load rfl (Lds.one rfl)) ?_))))
    refine WpL.step (Sc (s1) rfl ?_)
    rintro _ _ ⟨rfl, rfl⟩
    refine Ll ?_
    refine Ls (Rdo.move rfl) (Lw rfl rfl (Rdo.fieldAddr0 rfl) (Lw rfl rfl (Rdo.load rfl (Lds.one rfl)) (Lw rfl rfl (Rdo.fieldAddr0 rfl) (Lw rfl rfl (Rdo.load rfl (Lds.one rfl)) (Lw rfl rfl (Rdo.fieldAddr0 rfl) (Lw rfl rfl (Rdo.load rfl (Lds.one rfl)) ?_))))))
    refine WpL.want rfl rfl rfl (Sc (s2) rfl ?_)
    rintro _ _ ⟨rfl, rfl⟩
    refine Ll ?_
    refine Ls (Rdo.pick_t rfl rfl) (Ls (Rdo.move rfl) (Lw rfl rfl (Rdo.fieldAddr0 rfl) (Lw rfl rfl (Rdo.load rfl (Lds.one rfl)) (Lw rfl rfl (Rdo.nei rfl rfl) (Lw rfl rfl (Rdo.move rfl) (Lg rfl rfl (Lp rfl rfl (Lp rfl rfl (Lp rfl rfl (Lw rfl rfl (Rdo.pick_t rfl rfl) (Ls (Rdo.pick_t rfl rfl) (Ls (Rdo.assign rfl) (Lnt ?_)))))))))))))
    refine Wp.ret ?_
    refine Rt (ResV.tmp rfl ResV.nil) ⟨rfl, rfl⟩
theorem isMark_no (m : Mark) (h : ¬ okMark m) : Trip Tryz.prog 61 [.agg (markC m).toArray] [] (fun r l => r = vb false ∧ l = []) := by
  have s1 := isIn_ok m.kind 1 3
  have s2 := isProducer_ok m.producer m.epoch m.txn
  by_cases h1 : 1 ≤ m.kind ∧ m.kind ≤ 3
  · rw [decide_eq_true h1] at s1
    by_cases h2 : (0 ≤ m.producer ∧ m.producer ≤ 7) ∧ (0 ≤ m.epoch ∧ m.epoch ≤ 100) ∧ (0 ≤ m.txn ∧ m.txn ≤ 100)
    · rw [decide_eq_true h2] at s2
      have h3 : m.kind = 1 ∧ ¬ m.txn = 0 := by
        refine ⟨Decidable.byContradiction fun hk => h ⟨h1, h2, .inl hk⟩, fun ht => h ⟨h1, h2, .inr ht⟩⟩
      obtain ⟨hk, ht⟩ := h3
      refine Trip.of_body Tryz.func61 rfl Tryz.ntmps61 Tryz.results61 rfl ?_
      refine Wsr ?_
      (refine WpL.step (Stp.boxV rfl (VC.ag _) rfl ?_); intro nb2)
      refine Ls (Rdo.assign rfl) (Lnt (Wsr (Ls (Rdo.fieldAddr0 rfl) (Ls (Rdo.load rfl (Lds.one rfl)) ?_))))
      refine WpL.step (Sc (s1) rfl ?_)
      rintro _ _ ⟨rfl, rfl⟩
      refine Ll ?_
      refine Ls (Rdo.move rfl) (Lw rfl rfl (Rdo.fieldAddr0 rfl) (Lw rfl rfl (Rdo.load rfl (Lds.one rfl)) (Lw rfl rfl (Rdo.fieldAddr0 rfl) (Lw rfl rfl (Rdo.load rfl (Lds.one rfl)) (Lw rfl rfl (Rdo.fieldAddr0 rfl) (Lw rfl rfl (Rdo.load rfl (Lds.one rfl)) ?_))))))
      refine WpL.want rfl rfl rfl (Sc (s2) rfl ?_)
      rintro _ _ ⟨rfl, rfl⟩
      refine Ll ?_
      refine Ls (Rdo.pick_t rfl rfl) (Ls (Rdo.move rfl) (Lw rfl rfl (Rdo.fieldAddr0 rfl) (Lw rfl rfl (Rdo.load rfl (Lds.one rfl)) (Lw rfl rfl (Rdo.nei rfl rfl) (Lw rfl rfl (Rdo.move rfl) (Lf rfl rfl (Lw rfl rfl (Rdo.fieldAddr0 rfl) (Lw rfl rfl (Rdo.load rfl (Lds.one rfl)) (Lw rfl rfl (Rdo.eqi rfl rfl) (Lw rfl rfl (Rdo.pick_f rfl rfl) (Ls (Rdo.pick_t rfl rfl) (Ls (Rdo.assign rfl) (Lnt ?_)))))))))))))
      refine Wp.ret ?_
      refine Rt (ResV.tmp rfl ResV.nil) ⟨(by first | rfl | (simp [packed] <;> done) | (simp_all [packed] <;> done)), rfl⟩
    · rw [decide_eq_false h2] at s2
      refine Trip.of_body Tryz.func61 rfl Tryz.ntmps61 Tryz.results61 rfl ?_
      refine Wsr ?_
      (refine WpL.step (Stp.boxV rfl (VC.ag _) rfl ?_); intro nb2)
      refine Ls (Rdo.assign rfl) (Lnt (Wsr (Ls (Rdo.fieldAddr0 rfl) (Ls (Rdo.load rfl (Lds.one rfl)) ?_))))
      refine WpL.step (Sc (s1) rfl ?_)
      rintro _ _ ⟨rfl, rfl⟩
      refine Ll ?_
      refine Ls (Rdo.move rfl) (Lw rfl rfl (Rdo.fieldAddr0 rfl) (Lw rfl rfl (Rdo.load rfl (Lds.one rfl)) (Lw rfl rfl (Rdo.fieldAddr0 rfl) (Lw rfl rfl (Rdo.load rfl (Lds.one rfl)) (Lw rfl rfl (Rdo.fieldAddr0 rfl) (Lw rfl rfl (Rdo.load rfl (Lds.one rfl)) ?_))))))
      refine WpL.want rfl rfl rfl (Sc (s2) rfl ?_)
      rintro _ _ ⟨rfl, rfl⟩
      refine Ll ?_
      refine Ls (Rdo.pick_t rfl rfl) (Ls (Rdo.move rfl) (Lp rfl rfl (Lp rfl rfl (Lp rfl rfl (Lp rfl rfl ?_)))))
      refine WpL.passU rfl rfl rfl ?_
      refine WpL.passU rfl rfl rfl ?_
      refine WpL.passU rfl rfl rfl ?_
      refine Lp rfl rfl (Ls (Rdo.pick_f rfl rfl) (Ls (Rdo.assign rfl) (Lnt (Wp.ret ?_))))
      refine Rt (ResV.tmp rfl ResV.nil) ⟨rfl, rfl⟩
  · rw [decide_eq_false h1] at s1
    refine Trip.of_body Tryz.func61 rfl Tryz.ntmps61 Tryz.results61 rfl ?_
    refine Wsr ?_
    (refine WpL.step (Stp.boxV rfl (VC.ag _) rfl ?_); intro nb2)
    refine Ls (Rdo.assign rfl) (Lnt (Wsr (Ls (Rdo.fieldAddr0 rfl) (Ls (Rdo.load rfl (Lds.one rfl)) ?_))))
    refine WpL.step (Sc (s1) rfl ?_)
    rintro _ _ ⟨rfl, rfl⟩
    refine Ll ?_
    refine Ls (Rdo.move rfl) (Lp rfl rfl (Lp rfl rfl (Lp rfl rfl (Lp rfl rfl (Lp rfl rfl (Lp rfl rfl (Lp rfl rfl (Ls (Rdo.pick_f rfl rfl) (Ls (Rdo.move rfl) (Lp rfl rfl (Lp rfl rfl (Lp rfl rfl (Lp rfl rfl ?_)))))))))))))
    refine WpL.passU rfl rfl rfl ?_
    refine WpL.passU rfl rfl rfl ?_
    refine WpL.passU rfl rfl rfl ?_
    refine Lp rfl rfl (Ls (Rdo.pick_f rfl rfl) (Ls (Rdo.assign rfl) (Lnt (Wp.ret ?_))))
    refine Rt (ResV.tmp rfl ResV.nil) ⟨rfl, rfl⟩
/-- A mark's bytes; none, where it may not be. -/
def markB (m : Mark) : List UInt8 := if okMark m then numsB [3, m.kind, m.producer, m.epoch, m.txn] else []
theorem markB_len (m : Mark) : (markB m).length ≤ 45 := by
  unfold markB
  split
  · have := numsB_len [3, m.kind, m.producer, m.epoch, m.txn]
    simpa using this
  · simp
theorem encMark_ok (m : Mark) : Trip Tryz.prog 41 [.agg (markC m).toArray] [] (fun r l => ∃ v e, r = .tuple #[v, vi e] ∧ l = [fz (fun g => RdBytes g v (markB m))]) := by
  by_cases h : okMark m
  · have s1 := isMark_yes m h
    have hB : markB m = numsB [3, m.kind, m.producer, m.epoch, m.txn] := by unfold markB; rw [if_pos h]
    have hlen := markB_len m
    rw [hB] at hlen ⊢
    refine Trip.of_body Tryz.func41 rfl Tryz.ntmps41 Tryz.results41 rfl ?_
    refine Wsr ?_
    (refine WpL.step (Stp.boxV rfl (VC.ag _) rfl ?_); intro nb2)
    refine Ls (Rdo.assign rfl) (Ls (Rdo.assign rfl) (Lnt (Wp.seq (Wsr ?_))))
    refine Ls (Rdo.load rfl Ld) ?_
    refine WpL.step (Sc (s1) rfl ?_)
    rintro _ _ ⟨rfl, rfl⟩
    refine Ll ?_
    refine Ls (Rdo.not rfl) (Lnt ?_)
    refine Wp.condF rfl ?_
    refine Wp.skip (Thn.n (Wsr ?_))
    (refine WpL.step (Stp.alloc rfl ?_); intro nb22)
    refine Lnt (Wsr (Ls (Rdo.fieldAddr0 rfl) (Ls (Rdo.load rfl (Lds.next (Lds.one rfl))) (Ls (Rdo.fieldAddr0 rfl) (Ls (Rdo.load rfl (Lds.next (Lds.one rfl))) (Ls (Rdo.fieldAddr0 rfl) (Ls (Rdo.load rfl (Lds.next (Lds.one rfl))) (Ls (Rdo.fieldAddr0 rfl) (Ls (Rdo.load rfl (Lds.next (Lds.one rfl))) ?_)))))))))
    (refine WpL.step (Stp.sliceV rfl rfl (VCs.cons (VC.i _ _) (by first | rfl | assumption | (simp <;> done)) (VCs.cons (VC.i _ _) (by first | rfl | assumption | (simp <;> done)) (VCs.cons (VC.i _ _) (by first | rfl | assumption | (simp <;> done)) (VCs.cons (VC.i _ _) (by first | rfl | assumption | (simp <;> done)) (VCs.cons (VC.i _ _) (by first | rfl | assumption | (simp <;> done)) VCs.nil))))) (by simp only [List.cons_append, List.nil_append, List.append_nil]; exact rfl) rfl rfl ?_); intro nb35)
    refine WpL.gh (wr0 (Pk.next Pk.here)) ?_
    have n1 : ∀ nb, Trip Tryz.prog 26 [vp nb22 0, .slice (some ⟨nb, 0, none⟩) 5 5] [wrA nb22 [], cel nb 3 [vi 3, vi m.kind, vi m.producer, vi m.epoch, vi m.txn]] (fun r l => r = .tuple #[] ∧ l = [wrA nb22 (numsB [3, m.kind, m.producer, m.epoch, m.txn])]) := fun nb => nums_ok nb22 nb [] [3, m.kind, m.producer, m.epoch, m.txn] (by simp)
    have n2 := out_ok nb22 (numsB [3, m.kind, m.producer, m.epoch, m.txn]) (by omega)
    refine WpL.step (Sc (n1 _) rfl ?_)
    rintro _ _ ⟨rfl, rfl⟩
    refine Ll ?_
    refine Lnt (Wsr ?_)
    refine WpL.step (Sc (n2) rfl ?_)
    rintro _ _ ⟨v8_0, ⟨v8_1, ⟨rfl, rfl⟩⟩⟩
    refine Ll ?_
    refine Ls (Rdo.assign rfl) (Ls (Rdo.assign rfl) (Lnt (Wp.ret ?_)))
    refine Rt (ResV.tmp rfl (ResV.tmp rfl ResV.nil)) ⟨_, ⟨_, ⟨rfl, rfl⟩⟩⟩
  · have s1 := isMark_no m h
    have hB : markB m = [] := by unfold markB; rw [if_neg h]
    rw [hB]
    refine Trip.of_body Tryz.func41 rfl Tryz.ntmps41 Tryz.results41 rfl ?_
    refine Wsr ?_
    (refine WpL.step (Stp.boxV rfl (VC.ag _) rfl ?_); intro nb2)
    refine Ls (Rdo.assign rfl) (Ls (Rdo.assign rfl) (Lnt (Wp.seq (Wsr ?_))))
    refine Ls (Rdo.load rfl Ld) ?_
    refine WpL.step (Sc (s1) rfl ?_)
    rintro _ _ ⟨rfl, rfl⟩
    refine Ll ?_
    refine Ls (Rdo.not rfl) (Lnt ?_)
    refine Wp.condT rfl ?_
    refine Wsr (Ls (Rdo.assign rfl) (Ls (Rdo.assign rfl) (Lnt (Wp.ret ?_))))
    refine Thn.r ?_
    exact Ret.now (by repeat (first | exact ResV.nil | apply ResV.tmp rfl | apply ResV.cell rfl (by repeat (first | exact Lds.one rfl | (apply Lds.all; (first | rfl | assumption | (simp <;> fail))) | exact Lds.ione0 | exact Lds.ione rfl | (apply Lds.iall; (first | rfl | assumption | (simp <;> fail))) | apply Lds.next)))) (Gh.trans (Gh.drop Pk.here) Gh.noBytes) ⟨_, 1, rfl, rfl⟩
end Go.Proofs.YtccgdnocldmjeaaGreatDoor
namespace Go.Proofs.YtccgdnocldmjeaaGreatDoor
open Go
set_option maxHeartbeats 4000000
set_option linter.unusedSimpArgs false
set_option linter.unusedVariables false
set_option maxRecDepth 20000
theorem rin_yes (n lo hi : Int) (h : lo ≤ n ∧ n ≤ hi) : Trip Tryz.prog 34 [vi n, vi lo, vi hi] [] (fun r l => r = vb true ∧ l = []) := by
  have h1 : n ≥ lo := h.1
  have h2 := h.2
  refine Trip.of_body Tryz.func34 rfl Tryz.ntmps34 Tryz.results34 rfl ?_
  refine Wsr (Ls (Rdo.assign rfl) (Lnt (Wsr (Ls (Rdo.move rfl) (Ls (Rdo.move rfl) (Ls (Rdo.gei rfl rfl) (Ls (Rdo.move rfl) (Lg rfl rfl (Lw rfl rfl (Rdo.move rfl) (Lw rfl rfl (Rdo.move rfl) (Lw rfl rfl (Rdo.lei rfl rfl) (Ls (Rdo.pick_t rfl rfl) (Ls (Rdo.assign rfl) ?_)))))))))))))
  refine Lnt (Wp.ret ?_)
  refine Rt (ResV.tmp rfl ResV.nil) ⟨(by first | rfl | (simp [packed] <;> done) | (simp_all [packed] <;> done)), rfl⟩
theorem rin_no (n lo hi : Int) (h : ¬ (lo ≤ n ∧ n ≤ hi)) : Trip Tryz.prog 34 [vi n, vi lo, vi hi] [] (fun r l => r = vb false ∧ l = []) := by
  by_cases h1 : n ≥ lo
  · have h2 : ¬ n ≤ hi := fun h2 => h ⟨h1, h2⟩
    refine Trip.of_body Tryz.func34 rfl Tryz.ntmps34 Tryz.results34 rfl ?_
    refine Wsr (Ls (Rdo.assign rfl) (Lnt (Wsr (Ls (Rdo.move rfl) (Ls (Rdo.move rfl) (Ls (Rdo.gei rfl rfl) (Ls (Rdo.move rfl) (Lg rfl rfl (Lw rfl rfl (Rdo.move rfl) (Lw rfl rfl (Rdo.move rfl) (Lw rfl rfl (Rdo.lei rfl rfl) (Ls (Rdo.pick_t rfl rfl) (Ls (Rdo.assign rfl) ?_)))))))))))))
    refine Lnt (Wp.ret ?_)
    refine Rt (ResV.tmp rfl ResV.nil) ⟨(by first | rfl | (simp [packed] <;> done) | (simp_all [packed] <;> done)), rfl⟩
  · refine Trip.of_body Tryz.func34 rfl Tryz.ntmps34 Tryz.results34 rfl ?_
    refine Wsr (Ls (Rdo.assign rfl) (Lnt (Wsr (Ls (Rdo.move rfl) (Ls (Rdo.move rfl) (Ls (Rdo.gei rfl rfl) (Ls (Rdo.move rfl) (Lf rfl rfl (Lp rfl rfl (Lp rfl rfl (Lp rfl rfl (Ls (Rdo.pick_f rfl rfl) (Ls (Rdo.assign rfl) ?_)))))))))))))
    refine Lnt (Wp.ret ?_)
    refine Rt (ResV.tmp rfl ResV.nil) ⟨rfl, rfl⟩
theorem rin_ok (n lo hi : Int) : Trip Tryz.prog 34 [vi n, vi lo, vi hi] [] (fun r l => r = vb (Decidable.decide (lo ≤ n ∧ n ≤ hi)) ∧ l = []) := by
  by_cases h : lo ≤ n ∧ n ≤ hi
  · rw [decide_eq_true h]; exact rin_yes n lo hi h
  · rw [decide_eq_false h]; exact rin_no n lo hi h
theorem rMark_ok (m : Mark) : Trip Tryz.prog 64 [.agg (markC m).toArray] [] (fun r l => r = vb (Decidable.decide (okMark m)) ∧ l = []) := by
  have s1 := rin_ok m.kind 1 3
  have s2 := rin_ok m.producer 0 7
  have s3 := rin_ok m.epoch 0 100
  have s4 := rin_ok m.txn 0 100
  by_cases h1 : 1 ≤ m.kind ∧ m.kind ≤ 3
  · rw [decide_eq_true h1] at s1
    by_cases h2 : 0 ≤ m.producer ∧ m.producer ≤ 7
    · rw [decide_eq_true h2] at s2
      by_cases h3 : 0 ≤ m.epoch ∧ m.epoch ≤ 100
      · rw [decide_eq_true h3] at s3
        by_cases h4 : 0 ≤ m.txn ∧ m.txn ≤ 100
        · rw [decide_eq_true h4] at s4
          by_cases h5 : m.kind = 1
          · by_cases h6 : m.txn = 0
            · rw [decide_eq_true (show okMark m from ⟨h1, ⟨h2, h3, h4⟩, .inr h6⟩)]
              refine Trip.of_body Tryz.func64 rfl Tryz.ntmps64 Tryz.results64 rfl ?_
              refine Wsr ?_
              (refine WpL.step (Stp.boxV rfl (VC.ag _) rfl ?_); intro nb2)
              refine Ls (Rdo.assign rfl) (Lnt (Wsr (Ls (Rdo.fieldAddr0 rfl) (Ls (Rdo.load rfl (Lds.one rfl)) ?_))))
              refine WpL.step (Sc (s1) rfl ?_)
              rintro _ _ ⟨rfl, rfl⟩
              refine Ll ?_
              refine Ls (Rdo.move rfl) (Lw rfl rfl (Rdo.fieldAddr0 rfl) (Lw rfl rfl (Rdo.load rfl (Lds.one rfl)) ?_))
              refine WpL.want rfl rfl rfl (Sc (s2) rfl ?_)
              rintro _ _ ⟨rfl, rfl⟩
              refine Ll ?_
              refine Ls (Rdo.pick_t rfl rfl) (Ls (Rdo.move rfl) (Lw rfl rfl (Rdo.fieldAddr0 rfl) (Lw rfl rfl (Rdo.load rfl (Lds.one rfl)) ?_)))
              refine WpL.want rfl rfl rfl (Sc (s3) rfl ?_)
              rintro _ _ ⟨rfl, rfl⟩
              refine Ll ?_
              refine Ls (Rdo.pick_t rfl rfl) (Ls (Rdo.move rfl) (Lw rfl rfl (Rdo.fieldAddr0 rfl) (Lw rfl rfl (Rdo.load rfl (Lds.one rfl)) ?_)))
              refine WpL.want rfl rfl rfl (Sc (s4) rfl ?_)
              rintro _ _ ⟨rfl, rfl⟩
              refine Ll ?_
              refine Ls (Rdo.pick_t rfl rfl) (Ls (Rdo.move rfl) (Lw rfl rfl (Rdo.fieldAddr0 rfl) (Lw rfl rfl (Rdo.load rfl (Lds.one rfl)) (Lw rfl rfl (Rdo.nei rfl rfl) (Lw rfl rfl (Rdo.move rfl) (Lf rfl rfl (Lw rfl rfl (Rdo.fieldAddr0 rfl) (Lw rfl rfl (Rdo.load rfl (Lds.one rfl)) (Lw rfl rfl (Rdo.eqi rfl rfl) (Lw rfl rfl (Rdo.pick_f rfl rfl) (Ls (Rdo.pick_t rfl rfl) (Ls (Rdo.assign rfl) (Lnt ?_)))))))))))))
              refine Wp.ret ?_
              refine Rt (ResV.tmp rfl ResV.nil) ⟨(by first | rfl | (simp [packed] <;> done) | (simp_all [packed] <;> done)), rfl⟩
            · rw [decide_eq_false (show ¬ okMark m from fun h => h6 (h.2.2.resolve_left fun h => h h5))]
              refine Trip.of_body Tryz.func64 rfl Tryz.ntmps64 Tryz.results64 rfl ?_
              refine Wsr ?_
              (refine WpL.step (Stp.boxV rfl (VC.ag _) rfl ?_); intro nb2)
              refine Ls (Rdo.assign rfl) (Lnt (Wsr (Ls (Rdo.fieldAddr0 rfl) (Ls (Rdo.load rfl (Lds.one rfl)) ?_))))
              refine WpL.step (Sc (s1) rfl ?_)
              rintro _ _ ⟨rfl, rfl⟩
              refine Ll ?_
              refine Ls (Rdo.move rfl) (Lw rfl rfl (Rdo.fieldAddr0 rfl) (Lw rfl rfl (Rdo.load rfl (Lds.one rfl)) ?_))
              refine WpL.want rfl rfl rfl (Sc (s2) rfl ?_)
              rintro _ _ ⟨rfl, rfl⟩
              refine Ll ?_
              refine Ls (Rdo.pick_t rfl rfl) (Ls (Rdo.move rfl) (Lw rfl rfl (Rdo.fieldAddr0 rfl) (Lw rfl rfl (Rdo.load rfl (Lds.one rfl)) ?_)))
              refine WpL.want rfl rfl rfl (Sc (s3) rfl ?_)
              rintro _ _ ⟨rfl, rfl⟩
              refine Ll ?_
              refine Ls (Rdo.pick_t rfl rfl) (Ls (Rdo.move rfl) (Lw rfl rfl (Rdo.fieldAddr0 rfl) (Lw rfl rfl (Rdo.load rfl (Lds.one rfl)) ?_)))
              refine WpL.want rfl rfl rfl (Sc (s4) rfl ?_)
              rintro _ _ ⟨rfl, rfl⟩
              refine Ll ?_
              refine Ls (Rdo.pick_t rfl rfl) (Ls (Rdo.move rfl) (Lw rfl rfl (Rdo.fieldAddr0 rfl) (Lw rfl rfl (Rdo.load rfl (Lds.one rfl)) (Lw rfl rfl (Rdo.nei rfl rfl) (Lw rfl rfl (Rdo.move rfl) (Lf rfl rfl (Lw rfl rfl (Rdo.fieldAddr0 rfl) (Lw rfl rfl (Rdo.load rfl (Lds.one rfl)) (Lw rfl rfl (Rdo.eqi rfl rfl) (Lw rfl rfl (Rdo.pick_f rfl rfl) (Ls (Rdo.pick_t rfl rfl) (Ls (Rdo.assign rfl) (Lnt ?_)))))))))))))
              refine Wp.ret ?_
              refine Rt (ResV.tmp rfl ResV.nil) ⟨(by first | rfl | (simp [packed] <;> done) | (simp_all [packed] <;> done)), rfl⟩
          · rw [decide_eq_true (show okMark m from ⟨h1, ⟨h2, h3, h4⟩, .inl h5⟩)]
            refine Trip.of_body Tryz.func64 rfl Tryz.ntmps64 Tryz.results64 rfl ?_
            refine Wsr ?_
            (refine WpL.step (Stp.boxV rfl (VC.ag _) rfl ?_); intro nb2)
            refine Ls (Rdo.assign rfl) (Lnt (Wsr (Ls (Rdo.fieldAddr0 rfl) (Ls (Rdo.load rfl (Lds.one rfl)) ?_))))
            refine WpL.step (Sc (s1) rfl ?_)
            rintro _ _ ⟨rfl, rfl⟩
            refine Ll ?_
            refine Ls (Rdo.move rfl) (Lw rfl rfl (Rdo.fieldAddr0 rfl) (Lw rfl rfl (Rdo.load rfl (Lds.one rfl)) ?_))
            refine WpL.want rfl rfl rfl (Sc (s2) rfl ?_)
            rintro _ _ ⟨rfl, rfl⟩
            refine Ll ?_
            refine Ls (Rdo.pick_t rfl rfl) (Ls (Rdo.move rfl) (Lw rfl rfl (Rdo.fieldAddr0 rfl) (Lw rfl rfl (Rdo.load rfl (Lds.one rfl)) ?_)))
            refine WpL.want rfl rfl rfl (Sc (s3) rfl ?_)
            rintro _ _ ⟨rfl, rfl⟩
            refine Ll ?_
            refine Ls (Rdo.pick_t rfl rfl) (Ls (Rdo.move rfl) (Lw rfl rfl (Rdo.fieldAddr0 rfl) (Lw rfl rfl (Rdo.load rfl (Lds.one rfl)) ?_)))
            refine WpL.want rfl rfl rfl (Sc (s4) rfl ?_)
            rintro _ _ ⟨rfl, rfl⟩
            refine Ll ?_
            refine Ls (Rdo.pick_t rfl rfl) (Ls (Rdo.move rfl) (Lw rfl rfl (Rdo.fieldAddr0 rfl) (Lw rfl rfl (Rdo.load rfl (Lds.one rfl)) (Lw rfl rfl (Rdo.nei rfl rfl) (Lw rfl rfl (Rdo.move rfl) (Lg rfl rfl (Lp rfl rfl (Lp rfl rfl (Lp rfl rfl (Lw rfl rfl (Rdo.pick_t rfl rfl) (Ls (Rdo.pick_t rfl rfl) (Ls (Rdo.assign rfl) (Lnt ?_)))))))))))))
            refine Wp.ret ?_
            refine Rt (ResV.tmp rfl ResV.nil) ⟨rfl, rfl⟩
        · rw [decide_eq_false h4] at s4
          rw [decide_eq_false (show ¬ okMark m from fun h => h4 h.2.1.2.2)]
          refine Trip.of_body Tryz.func64 rfl Tryz.ntmps64 Tryz.results64 rfl ?_
          refine Wsr ?_
          (refine WpL.step (Stp.boxV rfl (VC.ag _) rfl ?_); intro nb2)
          refine Ls (Rdo.assign rfl) (Lnt (Wsr (Ls (Rdo.fieldAddr0 rfl) (Ls (Rdo.load rfl (Lds.one rfl)) ?_))))
          refine WpL.step (Sc (s1) rfl ?_)
          rintro _ _ ⟨rfl, rfl⟩
          refine Ll ?_
          refine Ls (Rdo.move rfl) (Lw rfl rfl (Rdo.fieldAddr0 rfl) (Lw rfl rfl (Rdo.load rfl (Lds.one rfl)) ?_))
          refine WpL.want rfl rfl rfl (Sc (s2) rfl ?_)
          rintro _ _ ⟨rfl, rfl⟩
          refine Ll ?_
          refine Ls (Rdo.pick_t rfl rfl) (Ls (Rdo.move rfl) (Lw rfl rfl (Rdo.fieldAddr0 rfl) (Lw rfl rfl (Rdo.load rfl (Lds.one rfl)) ?_)))
          refine WpL.want rfl rfl rfl (Sc (s3) rfl ?_)
          rintro _ _ ⟨rfl, rfl⟩
          refine Ll ?_
          refine Ls (Rdo.pick_t rfl rfl) (Ls (Rdo.move rfl) (Lw rfl rfl (Rdo.fieldAddr0 rfl) (Lw rfl rfl (Rdo.load rfl (Lds.one rfl)) ?_)))
          refine WpL.want rfl rfl rfl (Sc (s4) rfl ?_)
          rintro _ _ ⟨rfl, rfl⟩
          refine Ll ?_
          refine Ls (Rdo.pick_t rfl rfl) (Ls (Rdo.move rfl) (Lp rfl rfl (Lp rfl rfl (Lp rfl rfl (Lp rfl rfl ?_)))))
          refine WpL.passU rfl rfl rfl ?_
          refine WpL.passU rfl rfl rfl ?_
          refine WpL.passU rfl rfl rfl ?_
          refine Lp rfl rfl (Ls (Rdo.pick_f rfl rfl) (Ls (Rdo.assign rfl) (Lnt (Wp.ret ?_))))
          refine Rt (ResV.tmp rfl ResV.nil) ⟨rfl, rfl⟩
      · rw [decide_eq_false h3] at s3
        rw [decide_eq_false (show ¬ okMark m from fun h => h3 h.2.1.2.1)]
        refine Trip.of_body Tryz.func64 rfl Tryz.ntmps64 Tryz.results64 rfl ?_
        refine Wsr ?_
        (refine WpL.step (Stp.boxV rfl (VC.ag _) rfl ?_); intro nb2)
        refine Ls (Rdo.assign rfl) (Lnt (Wsr (Ls (Rdo.fieldAddr0 rfl) (Ls (Rdo.load rfl (Lds.one rfl)) ?_))))
        refine WpL.step (Sc (s1) rfl ?_)
        rintro _ _ ⟨rfl, rfl⟩
        refine Ll ?_
        refine Ls (Rdo.move rfl) (Lw rfl rfl (Rdo.fieldAddr0 rfl) (Lw rfl rfl (Rdo.load rfl (Lds.one rfl)) ?_))
        refine WpL.want rfl rfl rfl (Sc (s2) rfl ?_)
        rintro _ _ ⟨rfl, rfl⟩
        refine Ll ?_
        refine Ls (Rdo.pick_t rfl rfl) (Ls (Rdo.move rfl) (Lw rfl rfl (Rdo.fieldAddr0 rfl) (Lw rfl rfl (Rdo.load rfl (Lds.one rfl)) ?_)))
        refine WpL.want rfl rfl rfl (Sc (s3) rfl ?_)
        rintro _ _ ⟨rfl, rfl⟩
        refine Ll ?_
        refine Ls (Rdo.pick_t rfl rfl) (Ls (Rdo.move rfl) (Lp rfl rfl (Lp rfl rfl (Lp rfl rfl (Ls (Rdo.pick_f rfl rfl) (Ls (Rdo.move rfl) (Lp rfl rfl (Lp rfl rfl (Lp rfl rfl (Lp rfl rfl ?_))))))))))
        refine WpL.passU rfl rfl rfl ?_
        refine WpL.passU rfl rfl rfl ?_
        refine WpL.passU rfl rfl rfl ?_
        refine Lp rfl rfl (Ls (Rdo.pick_f rfl rfl) (Ls (Rdo.assign rfl) (Lnt (Wp.ret ?_))))
        refine Rt (ResV.tmp rfl ResV.nil) ⟨rfl, rfl⟩
    · rw [decide_eq_false h2] at s2
      rw [decide_eq_false (show ¬ okMark m from fun h => h2 h.2.1.1)]
      refine Trip.of_body Tryz.func64 rfl Tryz.ntmps64 Tryz.results64 rfl ?_
      refine Wsr ?_
      (refine WpL.step (Stp.boxV rfl (VC.ag _) rfl ?_); intro nb2)
      refine Ls (Rdo.assign rfl) (Lnt (Wsr (Ls (Rdo.fieldAddr0 rfl) (Ls (Rdo.load rfl (Lds.one rfl)) ?_))))
      refine WpL.step (Sc (s1) rfl ?_)
      rintro _ _ ⟨rfl, rfl⟩
      refine Ll ?_
      refine Ls (Rdo.move rfl) (Lw rfl rfl (Rdo.fieldAddr0 rfl) (Lw rfl rfl (Rdo.load rfl (Lds.one rfl)) ?_))
      refine WpL.want rfl rfl rfl (Sc (s2) rfl ?_)
      rintro _ _ ⟨rfl, rfl⟩
      refine Ll ?_
      refine Ls (Rdo.pick_t rfl rfl) (Ls (Rdo.move rfl) (Lp rfl rfl (Lp rfl rfl (Lp rfl rfl (Ls (Rdo.pick_f rfl rfl) (Ls (Rdo.move rfl) (Lp rfl rfl (Lp rfl rfl (Lp rfl rfl (Ls (Rdo.pick_f rfl rfl) (Ls (Rdo.move rfl) (Lp rfl rfl (Lp rfl rfl ?_)))))))))))))
      refine Lp rfl rfl (Lp rfl rfl ?_)
      refine WpL.passU rfl rfl rfl ?_
      refine WpL.passU rfl rfl rfl ?_
      refine WpL.passU rfl rfl rfl ?_
      refine Lp rfl rfl (Ls (Rdo.pick_f rfl rfl) (Ls (Rdo.assign rfl) (Lnt (Wp.ret ?_))))
      refine Rt (ResV.tmp rfl ResV.nil) ⟨rfl, rfl⟩
  · rw [decide_eq_false h1] at s1
    rw [decide_eq_false (show ¬ okMark m from fun h => h1 h.1)]
    refine Trip.of_body Tryz.func64 rfl Tryz.ntmps64 Tryz.results64 rfl ?_
    refine Wsr ?_
    (refine WpL.step (Stp.boxV rfl (VC.ag _) rfl ?_); intro nb2)
    refine Ls (Rdo.assign rfl) (Lnt (Wsr (Ls (Rdo.fieldAddr0 rfl) (Ls (Rdo.load rfl (Lds.one rfl)) ?_))))
    refine WpL.step (Sc (s1) rfl ?_)
    rintro _ _ ⟨rfl, rfl⟩
    refine Ll ?_
    refine Ls (Rdo.move rfl) (Lp rfl rfl (Lp rfl rfl (Lp rfl rfl (Ls (Rdo.pick_f rfl rfl) (Ls (Rdo.move rfl) (Lp rfl rfl (Lp rfl rfl (Lp rfl rfl (Ls (Rdo.pick_f rfl rfl) (Ls (Rdo.move rfl) (Lp rfl rfl (Lp rfl rfl (Lp rfl rfl ?_)))))))))))))
    refine Ls (Rdo.pick_f rfl rfl) (Ls (Rdo.move rfl) (Lp rfl rfl (Lp rfl rfl (Lp rfl rfl (Lp rfl rfl ?_)))))
    refine WpL.passU rfl rfl rfl ?_
    refine WpL.passU rfl rfl rfl ?_
    refine WpL.passU rfl rfl rfl ?_
    refine Lp rfl rfl (Ls (Rdo.pick_f rfl rfl) (Ls (Rdo.assign rfl) (Lnt (Wp.ret ?_))))
    refine Rt (ResV.tmp rfl ResV.nil) ⟨rfl, rfl⟩
theorem rEncMark_ok (m : Mark) : Trip Tryz.prog 43 [.agg (markC m).toArray] [] (fun r l => ∃ v e, r = .tuple #[v, vi e] ∧ l = [fz (fun g => RdBytes g v (markB m))]) := by
  have s1 := rMark_ok m
  by_cases h : okMark m
  · have hB : markB m = numsB [3, m.kind, m.producer, m.epoch, m.txn] := by unfold markB; rw [if_pos h]
    have hlen := markB_len m
    rw [hB] at hlen ⊢
    rw [decide_eq_true h] at s1
    obtain ⟨h1, ⟨h2, h3, h4⟩, -⟩ := h
    have n1 : ∀ nb, Trip Tryz.prog 65 [.slice (some ⟨nb, 0, none⟩) 5 5] [cel nb 3 [vi 3, vi m.kind, vi m.producer, vi m.epoch, vi m.txn]]
      (fun r l => ∃ a c, r = .slice a (numsB [3, m.kind, m.producer, m.epoch, m.txn]).length c ∧ l = [rowA 5 1 (.slice a (numsB [3, m.kind, m.producer, m.epoch, m.txn]).length c) (numsB [3, m.kind, m.producer, m.epoch, m.txn]).length (bytesC (numsB [3, m.kind, m.producer, m.epoch, m.txn]))]) := fun nb => numsR_ok nb [3, m.kind, m.producer, m.epoch, m.txn] (by simp) (by
        intro x hx
        simp only [List.mem_cons, List.not_mem_nil, or_false] at hx
        rcases hx with rfl | rfl | rfl | rfl | rfl <;> omega)
    generalize numsB [3, m.kind, m.producer, m.epoch, m.txn] = B at *
    refine Trip.of_body Tryz.func43 rfl Tryz.ntmps43 Tryz.results43 rfl ?_
    refine Wsr ?_
    (refine WpL.step (Stp.boxV rfl (VC.ag _) rfl ?_); intro nb2)
    refine Ls (Rdo.assign rfl) (Ls (Rdo.assign rfl) (Lnt (Wp.seq (Wsr ?_))))
    refine Ls (Rdo.load rfl Ld) ?_
    refine WpL.step (Sc (s1) rfl ?_)
    rintro _ _ ⟨rfl, rfl⟩
    refine Ll ?_
    refine Ls (Rdo.not rfl) (Lnt ?_)
    refine Wp.condF rfl ?_
    refine Wp.skip (Thn.n (Wsr (Ls (Rdo.fieldAddr0 rfl) (Ls (Rdo.load rfl (Lds.one rfl)) (Ls (Rdo.fieldAddr0 rfl) (Ls (Rdo.load rfl (Lds.one rfl)) (Ls (Rdo.fieldAddr0 rfl) (Ls (Rdo.load rfl (Lds.one rfl)) (Ls (Rdo.fieldAddr0 rfl) (Ls (Rdo.load rfl (Lds.one rfl)) ?_))))))))))
    (refine WpL.step (Stp.sliceV rfl rfl (VCs.cons (VC.i _ _) (by first | rfl | assumption | (simp <;> done)) (VCs.cons (VC.i _ _) (by first | rfl | assumption | (simp <;> done)) (VCs.cons (VC.i _ _) (by first | rfl | assumption | (simp <;> done)) (VCs.cons (VC.i _ _) (by first | rfl | assumption | (simp <;> done)) (VCs.cons (VC.i _ _) (by first | rfl | assumption | (simp <;> done)) VCs.nil))))) (by simp only [List.cons_append, List.nil_append, List.append_nil]; exact rfl) rfl rfl ?_); intro nb30)
    refine WpL.step (Sc (n1 _) rfl ?_)
    rintro _ _ ⟨v32_0, ⟨v32_1, ⟨rfl, rfl⟩⟩⟩
    refine Ll ?_
    refine Ls (Rdo.assign rfl) (Ls (Rdo.assign rfl) (Lnt (Wp.ret ?_)))
    exact Ret.now (by repeat (first | exact ResV.nil | apply ResV.tmp rfl | apply ResV.cell rfl (by repeat (first | exact Lds.one rfl | (apply Lds.all; (first | rfl | assumption | (simp <;> fail))) | exact Lds.ione0 | exact Lds.ione rfl | (apply Lds.iall; (first | rfl | assumption | (simp <;> fail))) | apply Lds.next)))) (Gh.trans (Gh.ice Pk.here) Gk) ⟨_, 0, rfl, rfl⟩
  · have hB : markB m = [] := by unfold markB; rw [if_neg h]
    rw [decide_eq_false h] at s1
    rw [hB]
    refine Trip.of_body Tryz.func43 rfl Tryz.ntmps43 Tryz.results43 rfl ?_
    refine Wsr ?_
    (refine WpL.step (Stp.boxV rfl (VC.ag _) rfl ?_); intro nb2)
    refine Ls (Rdo.assign rfl) (Ls (Rdo.assign rfl) (Lnt (Wp.seq (Wsr ?_))))
    refine Ls (Rdo.load rfl Ld) ?_
    refine WpL.step (Sc (s1) rfl ?_)
    rintro _ _ ⟨rfl, rfl⟩
    refine Ll ?_
    refine Ls (Rdo.not rfl) (Lnt ?_)
    refine Wp.condT rfl ?_
    refine Wsr (Ls (Rdo.assign rfl) (Ls (Rdo.assign rfl) (Lnt (Wp.ret ?_))))
    refine Thn.r ?_
    exact Ret.now (by repeat (first | exact ResV.nil | apply ResV.tmp rfl | apply ResV.cell rfl (by repeat (first | exact Lds.one rfl | (apply Lds.all; (first | rfl | assumption | (simp <;> fail))) | exact Lds.ione0 | exact Lds.ione rfl | (apply Lds.iall; (first | rfl | assumption | (simp <;> fail))) | apply Lds.next)))) (Gh.trans (Gh.drop Pk.here) Gh.noBytes) ⟨_, 1, rfl, rfl⟩
end Go.Proofs.YtccgdnocldmjeaaGreatDoor
