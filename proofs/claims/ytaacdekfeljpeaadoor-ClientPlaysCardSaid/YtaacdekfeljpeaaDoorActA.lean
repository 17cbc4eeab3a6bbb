/- An act, in the client and in the document's. -/
import Derived.Test.YtaacdekfeljpeaaDoorRx5
import Derived.Test.YtaacdekfeljpeaaDoorSameR
namespace Go.Proofs.YtaacdekfeljpeaaDoor
open Go
set_option maxHeartbeats 4000000
set_option linter.unusedSimpArgs false
set_option linter.unusedVariables false
set_option maxRecDepth 20000

structure Act where
  kind : Int
  n : Int
  r : Rep
  value : List UInt8
  commit : Bool
abbrev actC (a : Act) (v : Value) : List Value := [vi a.kind, vi a.n, vi a.r.err, vi a.r.producer, vi a.r.epoch, v, vb a.commit]
def fin_ (q : CliS × Go.Proofs.YtaacdekfeljpeaaDoor.Op × Int) : CliS × Int := (q.1, if q.2.2 = 0 then q.2.1.seq else -1)
/-- What an act does; the operation's number, -1: there is none. -/
def CliS.act (c : CliS) (a : Act) : CliS × Int :=
  if a.kind = 1 then fin_ c.init else if a.kind = 2 then ((c.told a.n a.r).1, -1) else if a.kind = 3 then fin_ (c.begin_ a.n)
  else if a.kind = 4 then ((c.record a.n a.value).1, -1) else if a.kind = 5 then ((c.acked a.n).1, -1) else fin_ (c.end_ a.commit)

theorem part_mem {c : CliS} (hok : CliOk c) (n : Int) : c.part n ∈ c.parts ∨ c.part n = part0 := by
  unfold CliS.part
  cases h : c.parts[n.toNat]? with
  | none => exact .inr rfl
  | some p => exact .inl (List.mem_of_getElem? h)

theorem act_ok (cb xb : Nat) (c : CliS) (a : Act) (v : Value) (hok : CliOk c) : Trip Tryd.prog 21 [vp cb 0, vp xb 0, .agg (actC a v).toArray] [cliA cb c, simA xb c, fz (fun g => RdBytes g v a.value)]
    (fun r l => r = .tuple #[vi (c.act a).2, vb true] ∧ l = [cliA cb (c.act a).1, simA xb (c.act a).1, fz (fun g => RdBytes g v a.value)]) := by
  refine Trip.get (Pk.next (Pk.next Pk.here)) shape_bytes ?_
  rintro ⟨av, cv, rfl⟩
  have hl60 := hok.len
  have hn0 := hok.n0
  have hl0 := hok.l0
  have hl1 := hok.l1
  unfold CliS.act
  by_cases k1 : a.kind = 1
  · rw [if_pos k1]
    have s1 := init_ok cb c hn0 (by omega)
    have s2 := rinit_ok xb c hn0 hl60
    unfold fin_
    by_cases he : (c.init).2.2 = 0
    · rw [if_pos he]
      rw [he] at s1 s2
      refine Trip.of_body Tryd.func21 rfl Tryd.ntmps21 Tryd.results21 rfl ?_
      refine Wp.seq ?_
      refine Wp.region ?_
      (refine WpL.step (Stp.boxV rfl (VC.ag _) rfl ?_); intro nb2)
      refine WpL.step (Stp.rd (Rdo.assign rfl) rfl ?_)
      refine WpL.step (Stp.rd (Rdo.assign rfl) rfl ?_)
      refine WpL.nil ?_
      refine Thn.n ?_
      refine Wp.seq ?_
      refine Wp.region ?_
      (refine WpL.step (Stp.alloc rfl ?_); intro nb9)
      (refine WpL.step (Stp.alloc rfl ?_); intro nb10)
      refine WpL.nil ?_
      refine Thn.n ?_
      refine Wp.seq ?_
      refine Wp.region ?_
      refine WpL.step (Stp.rd (Rdo.assign rfl) rfl ?_)
      refine WpL.nil ?_
      refine Thn.n ?_
      refine Wp.seq ?_
      refine Wp.region ?_
      refine WpL.step (Stp.rd (Rdo.assign rfl) rfl ?_)
      refine WpL.nil ?_
      refine Thn.n ?_
      refine Wp.seq ?_
      refine Wp.seq ?_
      refine Wp.region ?_
      refine WpL.step (Stp.rd (Rdo.fieldAddr0 rfl) rfl ?_)
      refine WpL.step (Stp.rd (Rdo.load rfl (Lds.next (Lds.next (Lds.one rfl)))) rfl ?_)
      refine WpL.nil ?_
      refine Thn.n ?_
      refine Wp.block ?_
      refine Wp.seq ?_
      refine Wp.region ?_
      refine WpL.step (Stp.rd (Rdo.eqi rfl rfl) rfl ?_)
      refine WpL.step (Stp.rd (Rdo.assign rfl) rfl ?_)
      refine WpL.nil ?_
      refine Thn.n ?_
      refine Wp.condK rfl (by first | rfl | assumption | (simp only [decide_eq_true_eq, decide_eq_false_iff_not, Bool.not_eq_true', Bool.not_eq_false', List.length_cons, List.length_nil]; first | assumption | omega) | (simp <;> done) | (simp <;> omega)) ?_
      refine Wp.seq ?_
      refine Wp.region ?_
      refine WpL.step (Stp.rd (Rdo.move rfl) rfl ?_)
      refine WpL.step (Stp.call (s1) (by kernel_rfl) rfl (by repeat (first | exact Tk.nil | apply Tk.cons (by repeat (first | exact Pk.here | apply Pk.next)))) rfl ?_)
      rintro _ _ ⟨rfl, rfl⟩
      refine WpL.lst (by simp only [List.cons_append, List.nil_append]; exact rfl) ?_
      refine WpL.step (Stp.rd (Rdo.move rfl) rfl ?_)
      refine WpL.step (Stp.rd (Rdo.extract rfl rfl) rfl ?_)
      refine WpL.step (Stp.rd (Rdo.extract rfl rfl) rfl ?_)
      refine WpL.step (Stp.storeV rfl rfl (VC.ag _) (by first | rfl | assumption | (simp <;> done)) (by repeat (first | (apply Sts.all; (focus (first | rfl | assumption | (simp <;> done))); (focus (first | exact oneCells1 rfl | assumption | exact oneCells1 (by assumption) | ((repeat (first | assumption | exact oneCells_nil | exact oneCells_bytesC _ | (apply oneCells_cons; (focus (first | rfl | assumption))) | apply oneCells_append)); done) | (simp [oneCells, Value.oneCell'] <;> done)))) | (apply Sts.lp (by repeat (first | exact LPut.nil _ | apply LPut.here | apply LPut.next)); (focus (first | exact oneCells1 rfl | assumption | exact oneCells1 (by assumption) | ((repeat (first | assumption | exact oneCells_nil | exact oneCells_bytesC _ | (apply oneCells_cons; (focus (first | rfl | assumption))) | apply oneCells_append)); done) | (simp [oneCells, Value.oneCell'] <;> done)))) | (refine Sts.row1 (by first | assumption | omega | (simp <;> omega)) (by first | rfl | assumption)) | (refine Sts.rowP (by assumption) (by first | rfl | assumption | (simp <;> done)) (by rfl) (by (first | exact oneCells1 rfl | assumption | exact oneCells1 (by assumption) | ((repeat (first | assumption | exact oneCells_nil | exact oneCells_bytesC _ | (apply oneCells_cons; (focus (first | rfl | assumption))) | apply oneCells_append)); done) | (simp [oneCells, Value.oneCell'] <;> done)))) | apply Sts.next)) ?_)
      refine WpL.step (Stp.rd (Rdo.assign rfl) rfl ?_)
      refine WpL.nil ?_
      refine Thn.n ?_
      refine Wp.region ?_
      refine WpL.step (Stp.rd (Rdo.move rfl) rfl ?_)
      refine WpL.step (Stp.call (s2) (by kernel_rfl) rfl (by repeat (first | exact Tk.nil | apply Tk.cons (by repeat (first | exact Pk.here | apply Pk.next)))) rfl ?_)
      rintro _ _ ⟨rfl, rfl⟩
      refine WpL.lst (by simp only [List.cons_append, List.nil_append]; exact rfl) ?_
      refine WpL.step (Stp.rd (Rdo.move rfl) rfl ?_)
      refine WpL.step (Stp.rd (Rdo.extract rfl rfl) rfl ?_)
      refine WpL.step (Stp.rd (Rdo.extract rfl rfl) rfl ?_)
      refine WpL.step (Stp.storeV rfl rfl (VC.ag _) (by first | rfl | assumption | (simp <;> done)) (by repeat (first | (apply Sts.all; (focus (first | rfl | assumption | (simp <;> done))); (focus (first | exact oneCells1 rfl | assumption | exact oneCells1 (by assumption) | ((repeat (first | assumption | exact oneCells_nil | exact oneCells_bytesC _ | (apply oneCells_cons; (focus (first | rfl | assumption))) | apply oneCells_append)); done) | (simp [oneCells, Value.oneCell'] <;> done)))) | (apply Sts.lp (by repeat (first | exact LPut.nil _ | apply LPut.here | apply LPut.next)); (focus (first | exact oneCells1 rfl | assumption | exact oneCells1 (by assumption) | ((repeat (first | assumption | exact oneCells_nil | exact oneCells_bytesC _ | (apply oneCells_cons; (focus (first | rfl | assumption))) | apply oneCells_append)); done) | (simp [oneCells, Value.oneCell'] <;> done)))) | (refine Sts.row1 (by first | assumption | omega | (simp <;> omega)) (by first | rfl | assumption)) | (refine Sts.rowP (by assumption) (by first | rfl | assumption | (simp <;> done)) (by rfl) (by (first | exact oneCells1 rfl | assumption | exact oneCells1 (by assumption) | ((repeat (first | assumption | exact oneCells_nil | exact oneCells_bytesC _ | (apply oneCells_cons; (focus (first | rfl | assumption))) | apply oneCells_append)); done) | (simp [oneCells, Value.oneCell'] <;> done)))) | apply Sts.next)) ?_)
      refine WpL.step (Stp.rd (Rdo.assign rfl) rfl ?_)
      refine WpL.nil ?_
      refine Blk.n ?_
      refine Thn.n ?_
      refine Wp.seq ?_
      refine Wp.seq ?_
      refine Wp.region ?_
      refine WpL.step (Stp.rd (Rdo.move rfl) rfl ?_)
      refine WpL.step (Stp.rd (Rdo.nei rfl rfl) rfl ?_)
      refine WpL.nil ?_
      refine Thn.n ?_
      refine Wp.condF rfl ?_
      refine Wp.skip ?_
      refine Thn.n ?_
      refine Wp.seq ?_
      refine Wp.draw (by kernel_rfl) ?_
      refine WpR.take (i := 0) rfl (by kernel_rfl) (by kernel_rfl) (by kernel_rfl) (Rdo.fieldAddr0 rfl) rfl ?_
      refine WpR.phaseL (m := 0) #[true, true, true, true, true, true, true, true, true, true, true, true] 11 _ rfl (by kernel_rfl) (Tk.cons (Pk.next (Pk.next Pk.here)) (Tk.cons (Pk.next (Pk.next Pk.here)) Tk.nil)) ?_
      refine WpA.take (i := 1) rfl rfl (by kernel_rfl) (by kernel_rfl) (by kernel_rfl) (Rdo.load rfl (Lds.one rfl)) rfl ?_
      refine WpA.take (i := 2) rfl rfl (by kernel_rfl) (by kernel_rfl) (by kernel_rfl) (Rdo.load rfl (Lds.next (by apply Lds.all; (first | rfl | assumption | (simp <;> fail))))) rfl ?_
      refine WpA.take (i := 3) rfl rfl (by kernel_rfl) (by kernel_rfl) (by kernel_rfl) (Rdo.load rfl (by apply Lds.all; (first | rfl | assumption | (simp <;> fail)))) rfl ?_
      refine WpA.take (i := 4) rfl rfl (by kernel_rfl) (by kernel_rfl) (by kernel_rfl) (Rdo.eqagg rfl rfl (by first | rfl | exact oks_hc _ | exact oks_voteC _ | assumption) (by first | rfl | exact oks_hc _ | exact oks_voteC _ | assumption)) rfl ?_
      refine WpA.take (i := 5) rfl rfl (by kernel_rfl) (by kernel_rfl) (by kernel_rfl) (Rdo.move rfl) rfl ?_
      refine WpA.tT 129 rfl (by first | rfl | assumption | (simp only [decide_eq_true_eq, decide_eq_false_iff_not, Bool.not_eq_true', Bool.not_eq_false', List.length_cons, List.length_nil]; first | assumption | omega) | (simp <;> done) | (simp <;> omega)) ?_
      refine WpA.want (i := 6) rfl rfl rfl rfl rfl (by kernel_rfl) (by kernel_rfl) (by kernel_rfl) (Rdo.move rfl) rfl ?_
      refine WpA.want (i := 7) rfl rfl rfl rfl rfl (by kernel_rfl) (by kernel_rfl) (by kernel_rfl) (Rdo.move rfl) rfl ?_
      refine WpA.want (i := 8) rfl rfl rfl rfl rfl (by kernel_rfl) (by kernel_rfl) (by kernel_rfl) (Rdo.eqi rfl rfl) rfl ?_
      refine WpA.take (i := 9) rfl rfl (by kernel_rfl) (by kernel_rfl) (by kernel_rfl) (Rdo.pick_t rfl rfl) rfl ?_
      refine WpA.take (i := 10) rfl rfl (by kernel_rfl) (by kernel_rfl) (by kernel_rfl) (Rdo.assign rfl) rfl ?_
      refine WpA.take (i := 11) rfl rfl (by kernel_rfl) (by kernel_rfl) (by kernel_rfl) (Rdo.assign rfl) rfl ?_
      refine WpA.stop (by kernel_rfl) ?_
      refine WpR.lst (by simp only [List.cons_append, List.nil_append]; exact rfl) ?_
      refine WpR.done (by kernel_rfl) ?_
      refine Thn.n ?_
      refine Wp.ret ?_
      refine Ret.now (ResV.tmp rfl (ResV.tmp rfl ResV.nil)) (Gh.tk (by repeat (first | exact Tk.nil | apply Tk.cons (by repeat (first | exact Pk.here | apply Pk.next))))) ⟨rfl, rfl⟩
    · rw [if_neg he]
      refine Trip.of_body Tryd.func21 rfl Tryd.ntmps21 Tryd.results21 rfl ?_
      refine Wp.seq ?_
      refine Wp.region ?_
      (refine WpL.step (Stp.boxV rfl (VC.ag _) rfl ?_); intro nb2)
      refine WpL.step (Stp.rd (Rdo.assign rfl) rfl ?_)
      refine WpL.step (Stp.rd (Rdo.assign rfl) rfl ?_)
      refine WpL.nil ?_
      refine Thn.n ?_
      refine Wp.seq ?_
      refine Wp.region ?_
      (refine WpL.step (Stp.alloc rfl ?_); intro nb9)
      (refine WpL.step (Stp.alloc rfl ?_); intro nb10)
      refine WpL.nil ?_
      refine Thn.n ?_
      refine Wp.seq ?_
      refine Wp.region ?_
      refine WpL.step (Stp.rd (Rdo.assign rfl) rfl ?_)
      refine WpL.nil ?_
      refine Thn.n ?_
      refine Wp.seq ?_
      refine Wp.region ?_
      refine WpL.step (Stp.rd (Rdo.assign rfl) rfl ?_)
      refine WpL.nil ?_
      refine Thn.n ?_
      refine Wp.seq ?_
      refine Wp.seq ?_
      refine Wp.region ?_
      refine WpL.step (Stp.rd (Rdo.fieldAddr0 rfl) rfl ?_)
      refine WpL.step (Stp.rd (Rdo.load rfl (Lds.next (Lds.next (Lds.one rfl)))) rfl ?_)
      refine WpL.nil ?_
      refine Thn.n ?_
      refine Wp.block ?_
      refine Wp.seq ?_
      refine Wp.region ?_
      refine WpL.step (Stp.rd (Rdo.eqi rfl rfl) rfl ?_)
      refine WpL.step (Stp.rd (Rdo.assign rfl) rfl ?_)
      refine WpL.nil ?_
      refine Thn.n ?_
      refine Wp.condK rfl (by first | rfl | assumption | (simp only [decide_eq_true_eq, decide_eq_false_iff_not, Bool.not_eq_true', Bool.not_eq_false', List.length_cons, List.length_nil]; first | assumption | omega) | (simp <;> done) | (simp <;> omega)) ?_
      refine Wp.seq ?_
      refine Wp.region ?_
      refine WpL.step (Stp.rd (Rdo.move rfl) rfl ?_)
      refine WpL.step (Stp.call (s1) (by kernel_rfl) rfl (by repeat (first | exact Tk.nil | apply Tk.cons (by repeat (first | exact Pk.here | apply Pk.next)))) rfl ?_)
      rintro _ _ ⟨rfl, rfl⟩
      refine WpL.lst (by simp only [List.cons_append, List.nil_append]; exact rfl) ?_
      refine WpL.step (Stp.rd (Rdo.move rfl) rfl ?_)
      refine WpL.step (Stp.rd (Rdo.extract rfl rfl) rfl ?_)
      refine WpL.step (Stp.rd (Rdo.extract rfl rfl) rfl ?_)
      refine WpL.step (Stp.storeV rfl rfl (VC.ag _) (by first | rfl | assumption | (simp <;> done)) (by repeat (first | (apply Sts.all; (focus (first | rfl | assumption | (simp <;> done))); (focus (first | exact oneCells1 rfl | assumption | exact oneCells1 (by assumption) | ((repeat (first | assumption | exact oneCells_nil | exact oneCells_bytesC _ | (apply oneCells_cons; (focus (first | rfl | assumption))) | apply oneCells_append)); done) | (simp [oneCells, Value.oneCell'] <;> done)))) | (apply Sts.lp (by repeat (first | exact LPut.nil _ | apply LPut.here | apply LPut.next)); (focus (first | exact oneCells1 rfl | assumption | exact oneCells1 (by assumption) | ((repeat (first | assumption | exact oneCells_nil | exact oneCells_bytesC _ | (apply oneCells_cons; (focus (first | rfl | assumption))) | apply oneCells_append)); done) | (simp [oneCells, Value.oneCell'] <;> done)))) | (refine Sts.row1 (by first | assumption | omega | (simp <;> omega)) (by first | rfl | assumption)) | (refine Sts.rowP (by assumption) (by first | rfl | assumption | (simp <;> done)) (by rfl) (by (first | exact oneCells1 rfl | assumption | exact oneCells1 (by assumption) | ((repeat (first | assumption | exact oneCells_nil | exact oneCells_bytesC _ | (apply oneCells_cons; (focus (first | rfl | assumption))) | apply oneCells_append)); done) | (simp [oneCells, Value.oneCell'] <;> done)))) | apply Sts.next)) ?_)
      refine WpL.step (Stp.rd (Rdo.assign rfl) rfl ?_)
      refine WpL.nil ?_
      refine Thn.n ?_
      refine Wp.region ?_
      refine WpL.step (Stp.rd (Rdo.move rfl) rfl ?_)
      refine WpL.step (Stp.call (s2) (by kernel_rfl) rfl (by repeat (first | exact Tk.nil | apply Tk.cons (by repeat (first | exact Pk.here | apply Pk.next)))) rfl ?_)
      rintro _ _ ⟨rfl, rfl⟩
      refine WpL.lst (by simp only [List.cons_append, List.nil_append]; exact rfl) ?_
      refine WpL.step (Stp.rd (Rdo.move rfl) rfl ?_)
      refine WpL.step (Stp.rd (Rdo.extract rfl rfl) rfl ?_)
      refine WpL.step (Stp.rd (Rdo.extract rfl rfl) rfl ?_)
      refine WpL.step (Stp.storeV rfl rfl (VC.ag _) (by first | rfl | assumption | (simp <;> done)) (by repeat (first | (apply Sts.all; (focus (first | rfl | assumption | (simp <;> done))); (focus (first | exact oneCells1 rfl | assumption | exact oneCells1 (by assumption) | ((repeat (first | assumption | exact oneCells_nil | exact oneCells_bytesC _ | (apply oneCells_cons; (focus (first | rfl | assumption))) | apply oneCells_append)); done) | (simp [oneCells, Value.oneCell'] <;> done)))) | (apply Sts.lp (by repeat (first | exact LPut.nil _ | apply LPut.here | apply LPut.next)); (focus (first | exact oneCells1 rfl | assumption | exact oneCells1 (by assumption) | ((repeat (first | assumption | exact oneCells_nil | exact oneCells_bytesC _ | (apply oneCells_cons; (focus (first | rfl | assumption))) | apply oneCells_append)); done) | (simp [oneCells, Value.oneCell'] <;> done)))) | (refine Sts.row1 (by first | assumption | omega | (simp <;> omega)) (by first | rfl | assumption)) | (refine Sts.rowP (by assumption) (by first | rfl | assumption | (simp <;> done)) (by rfl) (by (first | exact oneCells1 rfl | assumption | exact oneCells1 (by assumption) | ((repeat (first | assumption | exact oneCells_nil | exact oneCells_bytesC _ | (apply oneCells_cons; (focus (first | rfl | assumption))) | apply oneCells_append)); done) | (simp [oneCells, Value.oneCell'] <;> done)))) | apply Sts.next)) ?_)
      refine WpL.step (Stp.rd (Rdo.assign rfl) rfl ?_)
      refine WpL.nil ?_
      refine Blk.n ?_
      refine Thn.n ?_
      refine Wp.seq ?_
      refine Wp.seq ?_
      refine Wp.region ?_
      refine WpL.step (Stp.rd (Rdo.move rfl) rfl ?_)
      refine WpL.step (Stp.rd (Rdo.nei rfl rfl) rfl ?_)
      refine WpL.nil ?_
      refine Thn.n ?_
      refine Wp.condK rfl (by first | rfl | assumption | (simp only [decide_eq_true_eq, decide_eq_false_iff_not, Bool.not_eq_true', Bool.not_eq_false', List.length_cons, List.length_nil]; first | assumption | omega) | (simp <;> done) | (simp <;> omega)) ?_
      refine Wp.seq ?_
      refine Wp.region ?_
      refine WpL.step (Stp.rd (Rdo.load rfl (Lds.next (Lds.next (Lds.next (by apply Lds.all; (first | rfl | assumption | (simp <;> fail))))))) rfl ?_)
      refine WpL.step (Stp.rd (Rdo.load rfl (Lds.next (Lds.next (by apply Lds.all; (first | rfl | assumption | (simp <;> fail)))))) rfl ?_)
      refine WpL.step (Stp.rd (Rdo.eqagg rfl rfl (by first | rfl | exact oks_hc _ | exact oks_voteC _ | assumption) (by first | rfl | exact oks_hc _ | exact oks_voteC _ | assumption)) rfl ?_)
      refine WpL.step (Stp.rd (Rdo.move rfl) rfl ?_)
      refine WpL.gT rfl rfl (by first | rfl | assumption | (simp only [decide_eq_true_eq, decide_eq_false_iff_not, Bool.not_eq_true', Bool.not_eq_false', List.length_cons, List.length_nil]; first | assumption | omega) | (simp <;> done) | (simp <;> omega)) ?_
      refine WpL.want rfl rfl rfl (Stp.rd (Rdo.move rfl) rfl ?_)
      refine WpL.want rfl rfl rfl (Stp.rd (Rdo.move rfl) rfl ?_)
      refine WpL.want rfl rfl rfl (Stp.rd (Rdo.eqi rfl rfl) rfl ?_)
      refine WpL.step (Stp.rd (Rdo.pick_t rfl rfl) rfl ?_)
      refine WpL.step (Stp.rd (Rdo.assign rfl) rfl ?_)
      refine WpL.step (Stp.rd (Rdo.assign rfl) rfl ?_)
      refine WpL.nil ?_
      refine Thn.n ?_
      refine Wp.ret ?_
      refine Thn.r ?_
      refine Ret.now (ResV.tmp rfl (ResV.tmp rfl ResV.nil)) (Gh.tk (by repeat (first | exact Tk.nil | apply Tk.cons (by repeat (first | exact Pk.here | apply Pk.next))))) ⟨(by first | rfl | (simp [packed] <;> done) | (simp_all [packed] <;> done)), rfl⟩
  rw [if_neg k1]
  by_cases k2 : a.kind = 2
  · rw [if_pos k2]
    have s1 := told_ok cb c a.n a.r
    have s2 := rtold_ok xb c a.n a.r
    refine Trip.of_body Tryd.func21 rfl Tryd.ntmps21 Tryd.results21 rfl ?_
    refine Wp.seq ?_
    refine Wp.region ?_
    (refine WpL.step (Stp.boxV rfl (VC.ag _) rfl ?_); intro nb2)
    refine WpL.step (Stp.rd (Rdo.assign rfl) rfl ?_)
    refine WpL.step (Stp.rd (Rdo.assign rfl) rfl ?_)
    refine WpL.nil ?_
    refine Thn.n ?_
    refine Wp.seq ?_
    refine Wp.region ?_
    (refine WpL.step (Stp.alloc rfl ?_); intro nb9)
    (refine WpL.step (Stp.alloc rfl ?_); intro nb10)
    refine WpL.nil ?_
    refine Thn.n ?_
    refine Wp.seq ?_
    refine Wp.region ?_
    refine WpL.step (Stp.rd (Rdo.assign rfl) rfl ?_)
    refine WpL.nil ?_
    refine Thn.n ?_
    refine Wp.seq ?_
    refine Wp.region ?_
    refine WpL.step (Stp.rd (Rdo.assign rfl) rfl ?_)
    refine WpL.nil ?_
    refine Thn.n ?_
    refine Wp.seq ?_
    refine Wp.seq ?_
    refine Wp.region ?_
    refine WpL.step (Stp.rd (Rdo.fieldAddr0 rfl) rfl ?_)
    refine WpL.step (Stp.rd (Rdo.load rfl (Lds.next (Lds.next (Lds.one rfl)))) rfl ?_)
    refine WpL.nil ?_
    refine Thn.n ?_
    refine Wp.block ?_
    refine Wp.seq ?_
    refine Wp.region ?_
    refine WpL.step (Stp.rd (Rdo.eqi rfl rfl) rfl ?_)
    refine WpL.step (Stp.rd (Rdo.assign rfl) rfl ?_)
    refine WpL.nil ?_
    refine Thn.n ?_
    refine Wp.condL rfl (by first | rfl | assumption | (simp only [decide_eq_true_eq, decide_eq_false_iff_not, Bool.not_eq_true', Bool.not_eq_false', List.length_cons, List.length_nil]; first | assumption | omega) | (simp <;> done) | (simp <;> omega)) ?_
    refine Wp.seq ?_
    refine Wp.region ?_
    refine WpL.step (Stp.rd (Rdo.eqi rfl rfl) rfl ?_)
    refine WpL.step (Stp.rd (Rdo.assign rfl) rfl ?_)
    refine WpL.nil ?_
    refine Thn.n ?_
    refine Wp.condK rfl (by first | rfl | assumption | (simp only [decide_eq_true_eq, decide_eq_false_iff_not, Bool.not_eq_true', Bool.not_eq_false', List.length_cons, List.length_nil]; first | assumption | omega) | (simp <;> done) | (simp <;> omega)) ?_
    refine Wp.seq ?_
    refine Wp.draw (by kernel_rfl) ?_
    refine WpR.take (i := 0) rfl (by kernel_rfl) (by kernel_rfl) (by kernel_rfl) (Rdo.move rfl) rfl ?_
    refine WpR.take (i := 1) rfl (by kernel_rfl) (by kernel_rfl) (by kernel_rfl) (Rdo.fieldAddr0 rfl) rfl ?_
    refine WpR.take (i := 3) rfl (by kernel_rfl) (by kernel_rfl) (by kernel_rfl) (Rdo.fieldAddr0 rfl) rfl ?_
    refine WpR.take (i := 6) rfl (by kernel_rfl) (by kernel_rfl) (by kernel_rfl) (Rdo.move rfl) rfl ?_
    refine WpR.take (i := 7) rfl (by kernel_rfl) (by kernel_rfl) (by kernel_rfl) (Rdo.fieldAddr0 rfl) rfl ?_
    refine WpR.take (i := 9) rfl (by kernel_rfl) (by kernel_rfl) (by kernel_rfl) (Rdo.fieldAddr0 rfl) rfl ?_
    refine WpR.phaseL (m := 0) #[true, true, true, true, true, true, true, true, true, true, true, true, true, true, true] 9 _ rfl (by kernel_rfl) (Tk.cons (Pk.next (Pk.next Pk.here)) Tk.nil) ?_
    refine WpA.take (i := 2) rfl rfl (by kernel_rfl) (by kernel_rfl) (by kernel_rfl) (Rdo.load rfl (Lds.one rfl)) rfl ?_
    refine WpA.take (i := 4) rfl rfl (by kernel_rfl) (by kernel_rfl) (by kernel_rfl) (Rdo.load rfl (Lds.cut rfl (by first | rfl | assumption | (simp <;> done)))) rfl ?_
    refine WpA.take (i := 8) rfl rfl (by kernel_rfl) (by kernel_rfl) (by kernel_rfl) (Rdo.load rfl (Lds.one rfl)) rfl ?_
    refine WpA.take (i := 10) rfl rfl (by kernel_rfl) (by kernel_rfl) (by kernel_rfl) (Rdo.load rfl (Lds.cut rfl (by first | rfl | assumption | (simp <;> done)))) rfl ?_
    refine WpA.one (i := 5) rfl (by kernel_rfl) (Stp.call (s1) (by kernel_rfl) rfl (by repeat (first | exact Tk.nil | apply Tk.cons (by repeat (first | exact Pk.here | apply Pk.next)))) rfl ?_)
    rintro _ _ ⟨rfl, rfl⟩
    refine WpA.lst (by simp only [List.cons_append, List.nil_append]; exact rfl) ?_
    refine WpA.one (i := 11) rfl (by kernel_rfl) (Stp.call (s2) (by kernel_rfl) rfl (by repeat (first | exact Tk.nil | apply Tk.cons (by repeat (first | exact Pk.here | apply Pk.next)))) rfl ?_)
    rintro _ _ ⟨rfl, rfl⟩
    refine WpA.lst (by simp only [List.cons_append, List.nil_append]; exact rfl) ?_
    refine WpA.take (i := 12) rfl rfl (by kernel_rfl) (by kernel_rfl) (by kernel_rfl) (Rdo.eqi rfl rfl) rfl ?_
    refine WpA.take (i := 13) rfl rfl (by kernel_rfl) (by kernel_rfl) (by kernel_rfl) (Rdo.assign rfl) rfl ?_
    refine WpA.take (i := 14) rfl rfl (by kernel_rfl) (by kernel_rfl) (by kernel_rfl) (Rdo.assign rfl) rfl ?_
    refine WpA.stop (by kernel_rfl) ?_
    refine WpR.lst (by simp only [List.cons_append, List.nil_append]; exact rfl) ?_
    refine WpR.done (by kernel_rfl) ?_
    refine Thn.n ?_
    refine Wp.ret ?_
    refine Blk.r ?_
    refine Thn.r ?_
    refine Ret.now (ResV.tmp rfl (ResV.tmp rfl ResV.nil)) (Gh.tk (by repeat (first | exact Tk.nil | apply Tk.cons (by repeat (first | exact Pk.here | apply Pk.next))))) ⟨(by first | rfl | (simp [packed] <;> done) | (simp_all [packed] <;> done)), rfl⟩
  rw [if_neg k2]
  by_cases k3 : a.kind = 3
  · rw [if_pos k3]
    have s1 := begin_ok cb c a.n hn0 hl0 (by omega)
    have s2 := rbegin_ok xb c a.n hok
    unfold fin_
    by_cases he : (c.begin_ a.n).2.2 = 0
    · rw [if_pos he]
      rw [he] at s1 s2
      refine Trip.of_body Tryd.func21 rfl Tryd.ntmps21 Tryd.results21 rfl ?_
      refine Wp.seq ?_
      refine Wp.region ?_
      (refine WpL.step (Stp.boxV rfl (VC.ag _) rfl ?_); intro nb2)
      refine WpL.step (Stp.rd (Rdo.assign rfl) rfl ?_)
      refine WpL.step (Stp.rd (Rdo.assign rfl) rfl ?_)
      refine WpL.nil ?_
      refine Thn.n ?_
      refine Wp.seq ?_
      refine Wp.region ?_
      (refine WpL.step (Stp.alloc rfl ?_); intro nb9)
      (refine WpL.step (Stp.alloc rfl ?_); intro nb10)
      refine WpL.nil ?_
      refine Thn.n ?_
      refine Wp.seq ?_
      refine Wp.region ?_
      refine WpL.step (Stp.rd (Rdo.assign rfl) rfl ?_)
      refine WpL.nil ?_
      refine Thn.n ?_
      refine Wp.seq ?_
      refine Wp.region ?_
      refine WpL.step (Stp.rd (Rdo.assign rfl) rfl ?_)
      refine WpL.nil ?_
      refine Thn.n ?_
      refine Wp.seq ?_
      refine Wp.seq ?_
      refine Wp.region ?_
      refine WpL.step (Stp.rd (Rdo.fieldAddr0 rfl) rfl ?_)
      refine WpL.step (Stp.rd (Rdo.load rfl (Lds.next (Lds.next (Lds.one rfl)))) rfl ?_)
      refine WpL.nil ?_
      refine Thn.n ?_
      refine Wp.block ?_
      refine Wp.seq ?_
      refine Wp.region ?_
      refine WpL.step (Stp.rd (Rdo.eqi rfl rfl) rfl ?_)
      refine WpL.step (Stp.rd (Rdo.assign rfl) rfl ?_)
      refine WpL.nil ?_
      refine Thn.n ?_
      refine Wp.condL rfl (by first | rfl | assumption | (simp only [decide_eq_true_eq, decide_eq_false_iff_not, Bool.not_eq_true', Bool.not_eq_false', List.length_cons, List.length_nil]; first | assumption | omega) | (simp <;> done) | (simp <;> omega)) ?_
      refine Wp.seq ?_
      refine Wp.region ?_
      refine WpL.step (Stp.rd (Rdo.eqi rfl rfl) rfl ?_)
      refine WpL.step (Stp.rd (Rdo.assign rfl) rfl ?_)
      refine WpL.nil ?_
      refine Thn.n ?_
      refine Wp.condL rfl (by first | rfl | assumption | (simp only [decide_eq_true_eq, decide_eq_false_iff_not, Bool.not_eq_true', Bool.not_eq_false', List.length_cons, List.length_nil]; first | assumption | omega) | (simp <;> done) | (simp <;> omega)) ?_
      refine Wp.seq ?_
      refine Wp.region ?_
      refine WpL.step (Stp.rd (Rdo.eqi rfl rfl) rfl ?_)
      refine WpL.step (Stp.rd (Rdo.assign rfl) rfl ?_)
      refine WpL.nil ?_
      refine Thn.n ?_
      refine Wp.condK rfl (by first | rfl | assumption | (simp only [decide_eq_true_eq, decide_eq_false_iff_not, Bool.not_eq_true', Bool.not_eq_false', List.length_cons, List.length_nil]; first | assumption | omega) | (simp <;> done) | (simp <;> omega)) ?_
      refine Wp.seq ?_
      refine Wp.region ?_
      refine WpL.step (Stp.rd (Rdo.move rfl) rfl ?_)
      refine WpL.step (Stp.rd (Rdo.fieldAddr0 rfl) rfl ?_)
      refine WpL.step (Stp.rd (Rdo.load rfl (Lds.next (Lds.next (Lds.one rfl)))) rfl ?_)
      refine WpL.step (Stp.call (s1) (by kernel_rfl) rfl (by repeat (first | exact Tk.nil | apply Tk.cons (by repeat (first | exact Pk.here | apply Pk.next)))) rfl ?_)
      rintro _ _ ⟨rfl, rfl⟩
      refine WpL.lst (by simp only [List.cons_append, List.nil_append]; exact rfl) ?_
      refine WpL.step (Stp.rd (Rdo.move rfl) rfl ?_)
      refine WpL.step (Stp.rd (Rdo.extract rfl rfl) rfl ?_)
      refine WpL.step (Stp.rd (Rdo.extract rfl rfl) rfl ?_)
      refine WpL.step (Stp.storeV rfl rfl (VC.ag _) (by first | rfl | assumption | (simp <;> done)) (by repeat (first | (apply Sts.all; (focus (first | rfl | assumption | (simp <;> done))); (focus (first | exact oneCells1 rfl | assumption | exact oneCells1 (by assumption) | ((repeat (first | assumption | exact oneCells_nil | exact oneCells_bytesC _ | (apply oneCells_cons; (focus (first | rfl | assumption))) | apply oneCells_append)); done) | (simp [oneCells, Value.oneCell'] <;> done)))) | (apply Sts.lp (by repeat (first | exact LPut.nil _ | apply LPut.here | apply LPut.next)); (focus (first | exact oneCells1 rfl | assumption | exact oneCells1 (by assumption) | ((repeat (first | assumption | exact oneCells_nil | exact oneCells_bytesC _ | (apply oneCells_cons; (focus (first | rfl | assumption))) | apply oneCells_append)); done) | (simp [oneCells, Value.oneCell'] <;> done)))) | (refine Sts.row1 (by first | assumption | omega | (simp <;> omega)) (by first | rfl | assumption)) | (refine Sts.rowP (by assumption) (by first | rfl | assumption | (simp <;> done)) (by rfl) (by (first | exact oneCells1 rfl | assumption | exact oneCells1 (by assumption) | ((repeat (first | assumption | exact oneCells_nil | exact oneCells_bytesC _ | (apply oneCells_cons; (focus (first | rfl | assumption))) | apply oneCells_append)); done) | (simp [oneCells, Value.oneCell'] <;> done)))) | apply Sts.next)) ?_)
      refine WpL.step (Stp.rd (Rdo.assign rfl) rfl ?_)
      refine WpL.nil ?_
      refine Thn.n ?_
      refine Wp.region ?_
      refine WpL.step (Stp.rd (Rdo.move rfl) rfl ?_)
      refine WpL.step (Stp.rd (Rdo.fieldAddr0 rfl) rfl ?_)
      refine WpL.step (Stp.rd (Rdo.load rfl (Lds.next (Lds.next (Lds.next (Lds.one rfl))))) rfl ?_)
      refine WpL.step (Stp.call (s2) (by kernel_rfl) rfl (by repeat (first | exact Tk.nil | apply Tk.cons (by repeat (first | exact Pk.here | apply Pk.next)))) rfl ?_)
      rintro _ _ ⟨rfl, rfl⟩
      refine WpL.lst (by simp only [List.cons_append, List.nil_append]; exact rfl) ?_
      refine WpL.step (Stp.rd (Rdo.move rfl) rfl ?_)
      refine WpL.step (Stp.rd (Rdo.extract rfl rfl) rfl ?_)
      refine WpL.step (Stp.rd (Rdo.extract rfl rfl) rfl ?_)
      refine WpL.step (Stp.storeV rfl rfl (VC.ag _) (by first | rfl | assumption | (simp <;> done)) (by repeat (first | (apply Sts.all; (focus (first | rfl | assumption | (simp <;> done))); (focus (first | exact oneCells1 rfl | assumption | exact oneCells1 (by assumption) | ((repeat (first | assumption | exact oneCells_nil | exact oneCells_bytesC _ | (apply oneCells_cons; (focus (first | rfl | assumption))) | apply oneCells_append)); done) | (simp [oneCells, Value.oneCell'] <;> done)))) | (apply Sts.lp (by repeat (first | exact LPut.nil _ | apply LPut.here | apply LPut.next)); (focus (first | exact oneCells1 rfl | assumption | exact oneCells1 (by assumption) | ((repeat (first | assumption | exact oneCells_nil | exact oneCells_bytesC _ | (apply oneCells_cons; (focus (first | rfl | assumption))) | apply oneCells_append)); done) | (simp [oneCells, Value.oneCell'] <;> done)))) | (refine Sts.row1 (by first | assumption | omega | (simp <;> omega)) (by first | rfl | assumption)) | (refine Sts.rowP (by assumption) (by first | rfl | assumption | (simp <;> done)) (by rfl) (by (first | exact oneCells1 rfl | assumption | exact oneCells1 (by assumption) | ((repeat (first | assumption | exact oneCells_nil | exact oneCells_bytesC _ | (apply oneCells_cons; (focus (first | rfl | assumption))) | apply oneCells_append)); done) | (simp [oneCells, Value.oneCell'] <;> done)))) | apply Sts.next)) ?_)
      refine WpL.step (Stp.rd (Rdo.assign rfl) rfl ?_)
      refine WpL.nil ?_
      refine Blk.n ?_
      refine Thn.n ?_
      refine Wp.seq ?_
      refine Wp.seq ?_
      refine Wp.region ?_
      refine WpL.step (Stp.rd (Rdo.move rfl) rfl ?_)
      refine WpL.step (Stp.rd (Rdo.nei rfl rfl) rfl ?_)
      refine WpL.nil ?_
      refine Thn.n ?_
      refine Wp.condF rfl ?_
      refine Wp.skip ?_
      refine Thn.n ?_
      refine Wp.seq ?_
      refine Wp.draw (by kernel_rfl) ?_
      refine WpR.take (i := 0) rfl (by kernel_rfl) (by kernel_rfl) (by kernel_rfl) (Rdo.fieldAddr0 rfl) rfl ?_
      refine WpR.phaseL (m := 0) #[true, true, true, true, true, true, true, true, true, true, true, true] 11 _ rfl (by kernel_rfl) (Tk.cons (Pk.next (Pk.next Pk.here)) (Tk.cons (Pk.next (Pk.next Pk.here)) Tk.nil)) ?_
      refine WpA.take (i := 1) rfl rfl (by kernel_rfl) (by kernel_rfl) (by kernel_rfl) (Rdo.load rfl (Lds.one rfl)) rfl ?_
      refine WpA.take (i := 2) rfl rfl (by kernel_rfl) (by kernel_rfl) (by kernel_rfl) (Rdo.load rfl (Lds.next (by apply Lds.all; (first | rfl | assumption | (simp <;> fail))))) rfl ?_
      refine WpA.take (i := 3) rfl rfl (by kernel_rfl) (by kernel_rfl) (by kernel_rfl) (Rdo.load rfl (by apply Lds.all; (first | rfl | assumption | (simp <;> fail)))) rfl ?_
      refine WpA.take (i := 4) rfl rfl (by kernel_rfl) (by kernel_rfl) (by kernel_rfl) (Rdo.eqagg rfl rfl (by first | rfl | exact oks_hc _ | exact oks_voteC _ | assumption) (by first | rfl | exact oks_hc _ | exact oks_voteC _ | assumption)) rfl ?_
      refine WpA.take (i := 5) rfl rfl (by kernel_rfl) (by kernel_rfl) (by kernel_rfl) (Rdo.move rfl) rfl ?_
      refine WpA.tT 129 rfl (by first | rfl | assumption | (simp only [decide_eq_true_eq, decide_eq_false_iff_not, Bool.not_eq_true', Bool.not_eq_false', List.length_cons, List.length_nil]; first | assumption | omega) | (simp <;> done) | (simp <;> omega)) ?_
      refine WpA.want (i := 6) rfl rfl rfl rfl rfl (by kernel_rfl) (by kernel_rfl) (by kernel_rfl) (Rdo.move rfl) rfl ?_
      refine WpA.want (i := 7) rfl rfl rfl rfl rfl (by kernel_rfl) (by kernel_rfl) (by kernel_rfl) (Rdo.move rfl) rfl ?_
      refine WpA.want (i := 8) rfl rfl rfl rfl rfl (by kernel_rfl) (by kernel_rfl) (by kernel_rfl) (Rdo.eqi rfl rfl) rfl ?_
      refine WpA.take (i := 9) rfl rfl (by kernel_rfl) (by kernel_rfl) (by kernel_rfl) (Rdo.pick_t rfl rfl) rfl ?_
      refine WpA.take (i := 10) rfl rfl (by kernel_rfl) (by kernel_rfl) (by kernel_rfl) (Rdo.assign rfl) rfl ?_
      refine WpA.take (i := 11) rfl rfl (by kernel_rfl) (by kernel_rfl) (by kernel_rfl) (Rdo.assign rfl) rfl ?_
      refine WpA.stop (by kernel_rfl) ?_
      refine WpR.lst (by simp only [List.cons_append, List.nil_append]; exact rfl) ?_
      refine WpR.done (by kernel_rfl) ?_
      refine Thn.n ?_
      refine Wp.ret ?_
      refine Ret.now (ResV.tmp rfl (ResV.tmp rfl ResV.nil)) (Gh.tk (by repeat (first | exact Tk.nil | apply Tk.cons (by repeat (first | exact Pk.here | apply Pk.next))))) ⟨rfl, rfl⟩
    · rw [if_neg he]
      refine Trip.of_body Tryd.func21 rfl Tryd.ntmps21 Tryd.results21 rfl ?_
      refine Wp.seq ?_
      refine Wp.region ?_
      (refine WpL.step (Stp.boxV rfl (VC.ag _) rfl ?_); intro nb2)
      refine WpL.step (Stp.rd (Rdo.assign rfl) rfl ?_)
      refine WpL.step (Stp.rd (Rdo.assign rfl) rfl ?_)
      refine WpL.nil ?_
      refine Thn.n ?_
      refine Wp.seq ?_
      refine Wp.region ?_
      (refine WpL.step (Stp.alloc rfl ?_); intro nb9)
      (refine WpL.step (Stp.alloc rfl ?_); intro nb10)
      refine WpL.nil ?_
      refine Thn.n ?_
      refine Wp.seq ?_
      refine Wp.region ?_
      refine WpL.step (Stp.rd (Rdo.assign rfl) rfl ?_)
      refine WpL.nil ?_
      refine Thn.n ?_
      refine Wp.seq ?_
      refine Wp.region ?_
      refine WpL.step (Stp.rd (Rdo.assign rfl) rfl ?_)
      refine WpL.nil ?_
      refine Thn.n ?_
      refine Wp.seq ?_
      refine Wp.seq ?_
      refine Wp.region ?_
      refine WpL.step (Stp.rd (Rdo.fieldAddr0 rfl) rfl ?_)
      refine WpL.step (Stp.rd (Rdo.load rfl (Lds.next (Lds.next (Lds.one rfl)))) rfl ?_)
      refine WpL.nil ?_
      refine Thn.n ?_
      refine Wp.block ?_
      refine Wp.seq ?_
      refine Wp.region ?_
      refine WpL.step (Stp.rd (Rdo.eqi rfl rfl) rfl ?_)
      refine WpL.step (Stp.rd (Rdo.assign rfl) rfl ?_)
      refine WpL.nil ?_
      refine Thn.n ?_
      refine Wp.condL rfl (by first | rfl | assumption | (simp only [decide_eq_true_eq, decide_eq_false_iff_not, Bool.not_eq_true', Bool.not_eq_false', List.length_cons, List.length_nil]; first | assumption | omega) | (simp <;> done) | (simp <;> omega)) ?_
      refine Wp.seq ?_
      refine Wp.region ?_
      refine WpL.step (Stp.rd (Rdo.eqi rfl rfl) rfl ?_)
      refine WpL.step (Stp.rd (Rdo.assign rfl) rfl ?_)
      refine WpL.nil ?_
      refine Thn.n ?_
      refine Wp.condL rfl (by first | rfl | assumption | (simp only [decide_eq_true_eq, decide_eq_false_iff_not, Bool.not_eq_true', Bool.not_eq_false', List.length_cons, List.length_nil]; first | assumption | omega) | (simp <;> done) | (simp <;> omega)) ?_
      refine Wp.seq ?_
      refine Wp.region ?_
      refine WpL.step (Stp.rd (Rdo.eqi rfl rfl) rfl ?_)
      refine WpL.step (Stp.rd (Rdo.assign rfl) rfl ?_)
      refine WpL.nil ?_
      refine Thn.n ?_
      refine Wp.condK rfl (by first | rfl | assumption | (simp only [decide_eq_true_eq, decide_eq_false_iff_not, Bool.not_eq_true', Bool.not_eq_false', List.length_cons, List.length_nil]; first | assumption | omega) | (simp <;> done) | (simp <;> omega)) ?_
      refine Wp.seq ?_
      refine Wp.region ?_
      refine WpL.step (Stp.rd (Rdo.move rfl) rfl ?_)
      refine WpL.step (Stp.rd (Rdo.fieldAddr0 rfl) rfl ?_)
      refine WpL.step (Stp.rd (Rdo.load rfl (Lds.next (Lds.next (Lds.one rfl)))) rfl ?_)
      refine WpL.step (Stp.call (s1) (by kernel_rfl) rfl (by repeat (first | exact Tk.nil | apply Tk.cons (by repeat (first | exact Pk.here | apply Pk.next)))) rfl ?_)
      rintro _ _ ⟨rfl, rfl⟩
      refine WpL.lst (by simp only [List.cons_append, List.nil_append]; exact rfl) ?_
      refine WpL.step (Stp.rd (Rdo.move rfl) rfl ?_)
      refine WpL.step (Stp.rd (Rdo.extract rfl rfl) rfl ?_)
      refine WpL.step (Stp.rd (Rdo.extract rfl rfl) rfl ?_)
      refine WpL.step (Stp.storeV rfl rfl (VC.ag _) (by first | rfl | assumption | (simp <;> done)) (by repeat (first | (apply Sts.all; (focus (first | rfl | assumption | (simp <;> done))); (focus (first | exact oneCells1 rfl | assumption | exact oneCells1 (by assumption) | ((repeat (first | assumption | exact oneCells_nil | exact oneCells_bytesC _ | (apply oneCells_cons; (focus (first | rfl | assumption))) | apply oneCells_append)); done) | (simp [oneCells, Value.oneCell'] <;> done)))) | (apply Sts.lp (by repeat (first | exact LPut.nil _ | apply LPut.here | apply LPut.next)); (focus (first | exact oneCells1 rfl | assumption | exact oneCells1 (by assumption) | ((repeat (first | assumption | exact oneCells_nil | exact oneCells_bytesC _ | (apply oneCells_cons; (focus (first | rfl | assumption))) | apply oneCells_append)); done) | (simp [oneCells, Value.oneCell'] <;> done)))) | (refine Sts.row1 (by first | assumption | omega | (simp <;> omega)) (by first | rfl | assumption)) | (refine Sts.rowP (by assumption) (by first | rfl | assumption | (simp <;> done)) (by rfl) (by (first | exact oneCells1 rfl | assumption | exact oneCells1 (by assumption) | ((repeat (first | assumption | exact oneCells_nil | exact oneCells_bytesC _ | (apply oneCells_cons; (focus (first | rfl | assumption))) | apply oneCells_append)); done) | (simp [oneCells, Value.oneCell'] <;> done)))) | apply Sts.next)) ?_)
      refine WpL.step (Stp.rd (Rdo.assign rfl) rfl ?_)
      refine WpL.nil ?_
      refine Thn.n ?_
      refine Wp.region ?_
      refine WpL.step (Stp.rd (Rdo.move rfl) rfl ?_)
      refine WpL.step (Stp.rd (Rdo.fieldAddr0 rfl) rfl ?_)
      refine WpL.step (Stp.rd (Rdo.load rfl (Lds.next (Lds.next (Lds.next (Lds.one rfl))))) rfl ?_)
      refine WpL.step (Stp.call (s2) (by kernel_rfl) rfl (by repeat (first | exact Tk.nil | apply Tk.cons (by repeat (first | exact Pk.here | apply Pk.next)))) rfl ?_)
      rintro _ _ ⟨rfl, rfl⟩
      refine WpL.lst (by simp only [List.cons_append, List.nil_append]; exact rfl) ?_
      refine WpL.step (Stp.rd (Rdo.move rfl) rfl ?_)
      refine WpL.step (Stp.rd (Rdo.extract rfl rfl) rfl ?_)
      refine WpL.step (Stp.rd (Rdo.extract rfl rfl) rfl ?_)
      refine WpL.step (Stp.storeV rfl rfl (VC.ag _) (by first | rfl | assumption | (simp <;> done)) (by repeat (first | (apply Sts.all; (focus (first | rfl | assumption | (simp <;> done))); (focus (first | exact oneCells1 rfl | assumption | exact oneCells1 (by assumption) | ((repeat (first | assumption | exact oneCells_nil | exact oneCells_bytesC _ | (apply oneCells_cons; (focus (first | rfl | assumption))) | apply oneCells_append)); done) | (simp [oneCells, Value.oneCell'] <;> done)))) | (apply Sts.lp (by repeat (first | exact LPut.nil _ | apply LPut.here | apply LPut.next)); (focus (first | exact oneCells1 rfl | assumption | exact oneCells1 (by assumption) | ((repeat (first | assumption | exact oneCells_nil | exact oneCells_bytesC _ | (apply oneCells_cons; (focus (first | rfl | assumption))) | apply oneCells_append)); done) | (simp [oneCells, Value.oneCell'] <;> done)))) | (refine Sts.row1 (by first | assumption | omega | (simp <;> omega)) (by first | rfl | assumption)) | (refine Sts.rowP (by assumption) (by first | rfl | assumption | (simp <;> done)) (by rfl) (by (first | exact oneCells1 rfl | assumption | exact oneCells1 (by assumption) | ((repeat (first | assumption | exact oneCells_nil | exact oneCells_bytesC _ | (apply oneCells_cons; (focus (first | rfl | assumption))) | apply oneCells_append)); done) | (simp [oneCells, Value.oneCell'] <;> done)))) | apply Sts.next)) ?_)
      refine WpL.step (Stp.rd (Rdo.assign rfl) rfl ?_)
      refine WpL.nil ?_
      refine Blk.n ?_
      refine Thn.n ?_
      refine Wp.seq ?_
      refine Wp.seq ?_
      refine Wp.region ?_
      refine WpL.step (Stp.rd (Rdo.move rfl) rfl ?_)
      refine WpL.step (Stp.rd (Rdo.nei rfl rfl) rfl ?_)
      refine WpL.nil ?_
      refine Thn.n ?_
      refine Wp.condK rfl (by first | rfl | assumption | (simp only [decide_eq_true_eq, decide_eq_false_iff_not, Bool.not_eq_true', Bool.not_eq_false', List.length_cons, List.length_nil]; first | assumption | omega) | (simp <;> done) | (simp <;> omega)) ?_
      refine Wp.seq ?_
      refine Wp.region ?_
      refine WpL.step (Stp.rd (Rdo.load rfl (Lds.next (Lds.next (Lds.next (by apply Lds.all; (first | rfl | assumption | (simp <;> fail))))))) rfl ?_)
      refine WpL.step (Stp.rd (Rdo.load rfl (Lds.next (Lds.next (by apply Lds.all; (first | rfl | assumption | (simp <;> fail)))))) rfl ?_)
      refine WpL.step (Stp.rd (Rdo.eqagg rfl rfl (by first | rfl | exact oks_hc _ | exact oks_voteC _ | assumption) (by first | rfl | exact oks_hc _ | exact oks_voteC _ | assumption)) rfl ?_)
      refine WpL.step (Stp.rd (Rdo.move rfl) rfl ?_)
      refine WpL.gT rfl rfl (by first | rfl | assumption | (simp only [decide_eq_true_eq, decide_eq_false_iff_not, Bool.not_eq_true', Bool.not_eq_false', List.length_cons, List.length_nil]; first | assumption | omega) | (simp <;> done) | (simp <;> omega)) ?_
      refine WpL.want rfl rfl rfl (Stp.rd (Rdo.move rfl) rfl ?_)
      refine WpL.want rfl rfl rfl (Stp.rd (Rdo.move rfl) rfl ?_)
      refine WpL.want rfl rfl rfl (Stp.rd (Rdo.eqi rfl rfl) rfl ?_)
      refine WpL.step (Stp.rd (Rdo.pick_t rfl rfl) rfl ?_)
      refine WpL.step (Stp.rd (Rdo.assign rfl) rfl ?_)
      refine WpL.step (Stp.rd (Rdo.assign rfl) rfl ?_)
      refine WpL.nil ?_
      refine Thn.n ?_
      refine Wp.ret ?_
      refine Thn.r ?_
      refine Ret.now (ResV.tmp rfl (ResV.tmp rfl ResV.nil)) (Gh.tk (by repeat (first | exact Tk.nil | apply Tk.cons (by repeat (first | exact Pk.here | apply Pk.next))))) ⟨(by first | rfl | (simp [packed] <;> done) | (simp_all [packed] <;> done)), rfl⟩
  rw [if_neg k3]
  by_cases k4 : a.kind = 4
  · rw [if_pos k4]
    have hp : (∀ r, (c.part a.n).out = some r → r.value.length ≤ 200) ∧ 0 ≤ (c.part a.n).next := by
      rcases part_mem hok a.n with h | h
      · exact ⟨fun r hr => hok.pv _ h r hr, (hok.pn _ h).1⟩
      · rw [h]; exact ⟨fun r hr => (by cases hr), Int.le_refl 0⟩
    have s1 := record_ok cb c a.n (.slice av a.value.length cv) a.value (fun r hr => by have := hp.1 r hr; omega) hp.2
    have s2 := rrecord_ok xb c a.n (.slice av a.value.length cv) a.value hok
    generalize c.record a.n a.value = q at s1 s2
    have s1 : Trip Tryd.prog 16 [vp cb 0, vi a.n, .slice av a.value.length cv] [cliA cb c, fz (fun g => RdBytes g (.slice av a.value.length cv) a.value)]
        (fun x l => ∃ a2 c2, x = .tuple #[.agg (recC q.2.1 (.slice a2 q.2.1.value.length c2)).toArray, vi q.2.2] ∧ l = [fz (fun g => RdBytes g (.slice a2 q.2.1.value.length c2) q.2.1.value), cliA cb q.1, fz (fun g => RdBytes g (.slice av a.value.length cv) a.value)]) := by
      refine Trip.viaG s1 Tk.rfl_ ?_
      rintro x l ⟨v', rfl, rfl⟩ F w hl
      obtain ⟨a2, c2, rfl⟩ := hl.fact shape_bytes
      exact ⟨_, ⟨a2, c2, rfl, rfl⟩, (Gh.tk (by repeat (first | exact Tk.nil | apply Tk.cons (by repeat (first | exact Pk.here | apply Pk.next))))).use hl⟩
    have s2 : Trip Tryd.prog 35 [vp xb 0, vi a.n, .slice av a.value.length cv] [simA xb c, fz (fun g => RdBytes g (.slice av a.value.length cv) a.value)]
        (fun x l => ∃ a2 c2, x = .tuple #[.agg (recC q.2.1 (.slice a2 q.2.1.value.length c2)).toArray, vi q.2.2] ∧ l = [fz (fun g => RdBytes g (.slice a2 q.2.1.value.length c2) q.2.1.value), simA xb q.1, fz (fun g => RdBytes g (.slice av a.value.length cv) a.value)]) := by
      refine Trip.viaG s2 Tk.rfl_ ?_
      rintro x l ⟨v', rfl, rfl⟩ F w hl
      obtain ⟨a2, c2, rfl⟩ := hl.fact shape_bytes
      exact ⟨_, ⟨a2, c2, rfl, rfl⟩, (Gh.tk (by repeat (first | exact Tk.nil | apply Tk.cons (by repeat (first | exact Pk.here | apply Pk.next))))).use hl⟩
    have s3 := fun u v => same_ok q.2.1 q.2.1 u v
    simp only [decide_true] at s3
    refine Trip.of_body Tryd.func21 rfl Tryd.ntmps21 Tryd.results21 rfl ?_
    refine Wp.seq ?_
    refine Wp.region ?_
    (refine WpL.step (Stp.boxV rfl (VC.ag _) rfl ?_); intro nb2)
    refine WpL.step (Stp.rd (Rdo.assign rfl) rfl ?_)
    refine WpL.step (Stp.rd (Rdo.assign rfl) rfl ?_)
    refine WpL.nil ?_
    refine Thn.n ?_
    refine Wp.seq ?_
    refine Wp.region ?_
    (refine WpL.step (Stp.alloc rfl ?_); intro nb9)
    (refine WpL.step (Stp.alloc rfl ?_); intro nb10)
    refine WpL.nil ?_
    refine Thn.n ?_
    refine Wp.seq ?_
    refine Wp.region ?_
    refine WpL.step (Stp.rd (Rdo.assign rfl) rfl ?_)
    refine WpL.nil ?_
    refine Thn.n ?_
    refine Wp.seq ?_
    refine Wp.region ?_
    refine WpL.step (Stp.rd (Rdo.assign rfl) rfl ?_)
    refine WpL.nil ?_
    refine Thn.n ?_
    refine Wp.seq ?_
    refine Wp.seq ?_
    refine Wp.region ?_
    refine WpL.step (Stp.rd (Rdo.fieldAddr0 rfl) rfl ?_)
    refine WpL.step (Stp.rd (Rdo.load rfl (Lds.next (Lds.next (Lds.one rfl)))) rfl ?_)
    refine WpL.nil ?_
    refine Thn.n ?_
    refine Wp.block ?_
    refine Wp.seq ?_
    refine Wp.region ?_
    refine WpL.step (Stp.rd (Rdo.eqi rfl rfl) rfl ?_)
    refine WpL.step (Stp.rd (Rdo.assign rfl) rfl ?_)
    refine WpL.nil ?_
    refine Thn.n ?_
    refine Wp.condL rfl (by first | rfl | assumption | (simp only [decide_eq_true_eq, decide_eq_false_iff_not, Bool.not_eq_true', Bool.not_eq_false', List.length_cons, List.length_nil]; first | assumption | omega) | (simp <;> done) | (simp <;> omega)) ?_
    refine Wp.seq ?_
    refine Wp.region ?_
    refine WpL.step (Stp.rd (Rdo.eqi rfl rfl) rfl ?_)
    refine WpL.step (Stp.rd (Rdo.assign rfl) rfl ?_)
    refine WpL.nil ?_
    refine Thn.n ?_
    refine Wp.condL rfl (by first | rfl | assumption | (simp only [decide_eq_true_eq, decide_eq_false_iff_not, Bool.not_eq_true', Bool.not_eq_false', List.length_cons, List.length_nil]; first | assumption | omega) | (simp <;> done) | (simp <;> omega)) ?_
    refine Wp.seq ?_
    refine Wp.region ?_
    refine WpL.step (Stp.rd (Rdo.eqi rfl rfl) rfl ?_)
    refine WpL.step (Stp.rd (Rdo.assign rfl) rfl ?_)
    refine WpL.nil ?_
    refine Thn.n ?_
    refine Wp.condL rfl (by first | rfl | assumption | (simp only [decide_eq_true_eq, decide_eq_false_iff_not, Bool.not_eq_true', Bool.not_eq_false', List.length_cons, List.length_nil]; first | assumption | omega) | (simp <;> done) | (simp <;> omega)) ?_
    refine Wp.seq ?_
    refine Wp.region ?_
    refine WpL.step (Stp.rd (Rdo.eqi rfl rfl) rfl ?_)
    refine WpL.step (Stp.rd (Rdo.assign rfl) rfl ?_)
    refine WpL.nil ?_
    refine Thn.n ?_
    refine Wp.condK rfl (by first | rfl | assumption | (simp only [decide_eq_true_eq, decide_eq_false_iff_not, Bool.not_eq_true', Bool.not_eq_false', List.length_cons, List.length_nil]; first | assumption | omega) | (simp <;> done) | (simp <;> omega)) ?_
    refine Wp.seq ?_
    refine Wp.region ?_
    refine WpL.step (Stp.rd (Rdo.move rfl) rfl ?_)
    refine WpL.step (Stp.rd (Rdo.fieldAddr0 rfl) rfl ?_)
    refine WpL.step (Stp.rd (Rdo.load rfl (Lds.next (Lds.next (Lds.one rfl)))) rfl ?_)
    refine WpL.step (Stp.rd (Rdo.fieldAddr0 rfl) rfl ?_)
    refine WpL.step (Stp.rd (Rdo.load rfl (Lds.next (Lds.next (Lds.one rfl)))) rfl ?_)
    refine WpL.step (Stp.call (s1) (by kernel_rfl) rfl (by repeat (first | exact Tk.nil | apply Tk.cons (by repeat (first | exact Pk.here | apply Pk.next)))) rfl ?_)
    rintro _ _ ⟨v67_0, ⟨v67_1, ⟨rfl, rfl⟩⟩⟩
    refine WpL.lst (by simp only [List.cons_append, List.nil_append]; exact rfl) ?_
    refine WpL.step (Stp.rd (Rdo.move rfl) rfl ?_)
    refine WpL.step (Stp.rd (Rdo.extract rfl rfl) rfl ?_)
    refine WpL.step (Stp.rd (Rdo.extract rfl rfl) rfl ?_)
    (refine WpL.step (Stp.alloc rfl ?_); intro nb72)
    refine WpL.step (Stp.storeV rfl rfl (VC.ag _) (by first | rfl | assumption | (simp <;> done)) (by repeat (first | (apply Sts.all; (focus (first | rfl | assumption | (simp <;> done))); (focus (first | exact oneCells1 rfl | assumption | exact oneCells1 (by assumption) | ((repeat (first | assumption | exact oneCells_nil | exact oneCells_bytesC _ | (apply oneCells_cons; (focus (first | rfl | assumption))) | apply oneCells_append)); done) | (simp [oneCells, Value.oneCell'] <;> done)))) | (apply Sts.lp (by repeat (first | exact LPut.nil _ | apply LPut.here | apply LPut.next)); (focus (first | exact oneCells1 rfl | assumption | exact oneCells1 (by assumption) | ((repeat (first | assumption | exact oneCells_nil | exact oneCells_bytesC _ | (apply oneCells_cons; (focus (first | rfl | assumption))) | apply oneCells_append)); done) | (simp [oneCells, Value.oneCell'] <;> done)))) | (refine Sts.row1 (by first | assumption | omega | (simp <;> omega)) (by first | rfl | assumption)) | (refine Sts.rowP (by assumption) (by first | rfl | assumption | (simp <;> done)) (by rfl) (by (first | exact oneCells1 rfl | assumption | exact oneCells1 (by assumption) | ((repeat (first | assumption | exact oneCells_nil | exact oneCells_bytesC _ | (apply oneCells_cons; (focus (first | rfl | assumption))) | apply oneCells_append)); done) | (simp [oneCells, Value.oneCell'] <;> done)))) | apply Sts.next)) ?_)
    refine WpL.step (Stp.rd (Rdo.assign rfl) rfl ?_)
    refine WpL.nil ?_
    refine Thn.n ?_
    refine Wp.seq ?_
    refine Wp.region ?_
    refine WpL.step (Stp.rd (Rdo.move rfl) rfl ?_)
    refine WpL.step (Stp.rd (Rdo.fieldAddr0 rfl) rfl ?_)
    refine WpL.step (Stp.rd (Rdo.load rfl (Lds.next (Lds.next (Lds.next (Lds.next (Lds.next (Lds.next (Lds.one rfl)))))))) rfl ?_)
    refine WpL.step (Stp.rd (Rdo.fieldAddr0 rfl) rfl ?_)
    refine WpL.step (Stp.rd (Rdo.load rfl (Lds.next (Lds.next (Lds.next (Lds.next (Lds.next (Lds.next (Lds.one rfl)))))))) rfl ?_)
    refine WpL.step (Stp.call (s2) (by kernel_rfl) rfl (by repeat (first | exact Tk.nil | apply Tk.cons (by repeat (first | exact Pk.here | apply Pk.next)))) rfl ?_)
    rintro _ _ ⟨v85_0, ⟨v85_1, ⟨rfl, rfl⟩⟩⟩
    refine WpL.lst (by simp only [List.cons_append, List.nil_append]; exact rfl) ?_
    refine WpL.step (Stp.rd (Rdo.move rfl) rfl ?_)
    refine WpL.step (Stp.rd (Rdo.extract rfl rfl) rfl ?_)
    refine WpL.step (Stp.rd (Rdo.extract rfl rfl) rfl ?_)
    (refine WpL.step (Stp.alloc rfl ?_); intro nb90)
    refine WpL.step (Stp.storeV rfl rfl (VC.ag _) (by first | rfl | assumption | (simp <;> done)) (by repeat (first | (apply Sts.all; (focus (first | rfl | assumption | (simp <;> done))); (focus (first | exact oneCells1 rfl | assumption | exact oneCells1 (by assumption) | ((repeat (first | assumption | exact oneCells_nil | exact oneCells_bytesC _ | (apply oneCells_cons; (focus (first | rfl | assumption))) | apply oneCells_append)); done) | (simp [oneCells, Value.oneCell'] <;> done)))) | (apply Sts.lp (by repeat (first | exact LPut.nil _ | apply LPut.here | apply LPut.next)); (focus (first | exact oneCells1 rfl | assumption | exact oneCells1 (by assumption) | ((repeat (first | assumption | exact oneCells_nil | exact oneCells_bytesC _ | (apply oneCells_cons; (focus (first | rfl | assumption))) | apply oneCells_append)); done) | (simp [oneCells, Value.oneCell'] <;> done)))) | (refine Sts.row1 (by first | assumption | omega | (simp <;> omega)) (by first | rfl | assumption)) | (refine Sts.rowP (by assumption) (by first | rfl | assumption | (simp <;> done)) (by rfl) (by (first | exact oneCells1 rfl | assumption | exact oneCells1 (by assumption) | ((repeat (first | assumption | exact oneCells_nil | exact oneCells_bytesC _ | (apply oneCells_cons; (focus (first | rfl | assumption))) | apply oneCells_append)); done) | (simp [oneCells, Value.oneCell'] <;> done)))) | apply Sts.next)) ?_)
    refine WpL.step (Stp.rd (Rdo.assign rfl) rfl ?_)
    refine WpL.nil ?_
    refine Thn.n ?_
    refine Wp.seq ?_
    refine Wp.region ?_
    refine WpL.step (Stp.rd (Rdo.load rfl (Lds.next (Lds.next (Lds.next (Lds.next (by apply Lds.all; (first | rfl | assumption | (simp <;> fail)))))))) rfl ?_)
    refine WpL.step (Stp.rd (Rdo.load rfl (by apply Lds.all; (first | rfl | assumption | (simp <;> fail)))) rfl ?_)
    refine WpL.step (Stp.call (s3 _ _) (by kernel_rfl) rfl (by repeat (first | exact Tk.nil | apply Tk.cons (by repeat (first | exact Pk.here | apply Pk.next)))) rfl ?_)
    rintro _ _ ⟨rfl, rfl⟩
    refine WpL.lst (by simp only [List.cons_append, List.nil_append]; exact rfl) ?_
    refine WpL.step (Stp.rd (Rdo.move rfl) rfl ?_)
    refine WpL.want rfl rfl rfl (Stp.rd (Rdo.move rfl) rfl ?_)
    refine WpL.want rfl rfl rfl (Stp.rd (Rdo.move rfl) rfl ?_)
    refine WpL.want rfl rfl rfl (Stp.rd (Rdo.eqi rfl rfl) rfl ?_)
    refine WpL.step (Stp.rd (Rdo.pick_t rfl rfl) rfl ?_)
    refine WpL.step (Stp.rd (Rdo.assign rfl) rfl ?_)
    refine WpL.step (Stp.rd (Rdo.assign rfl) rfl ?_)
    refine WpL.nil ?_
    refine Thn.n ?_
    refine Wp.ret ?_
    refine Blk.r ?_
    refine Thn.r ?_
    refine Ret.now (ResV.tmp rfl (ResV.tmp rfl ResV.nil)) (Gh.tk (by repeat (first | exact Tk.nil | apply Tk.cons (by repeat (first | exact Pk.here | apply Pk.next))))) ⟨(by first | rfl | (simp [packed] <;> done) | (simp_all [packed] <;> done)), rfl⟩
  rw [if_neg k4]
  by_cases k5 : a.kind = 5
  · rw [if_pos k5]
    have s1 := acked_ok cb c a.n
    have s2 := racked_ok xb c a.n
    refine Trip.of_body Tryd.func21 rfl Tryd.ntmps21 Tryd.results21 rfl ?_
    refine Wp.seq ?_
    refine Wp.region ?_
    (refine WpL.step (Stp.boxV rfl (VC.ag _) rfl ?_); intro nb2)
    refine WpL.step (Stp.rd (Rdo.assign rfl) rfl ?_)
    refine WpL.step (Stp.rd (Rdo.assign rfl) rfl ?_)
    refine WpL.nil ?_
    refine Thn.n ?_
    refine Wp.seq ?_
    refine Wp.region ?_
    (refine WpL.step (Stp.alloc rfl ?_); intro nb9)
    (refine WpL.step (Stp.alloc rfl ?_); intro nb10)
    refine WpL.nil ?_
    refine Thn.n ?_
    refine Wp.seq ?_
    refine Wp.region ?_
    refine WpL.step (Stp.rd (Rdo.assign rfl) rfl ?_)
    refine WpL.nil ?_
    refine Thn.n ?_
    refine Wp.seq ?_
    refine Wp.region ?_
    refine WpL.step (Stp.rd (Rdo.assign rfl) rfl ?_)
    refine WpL.nil ?_
    refine Thn.n ?_
    refine Wp.seq ?_
    refine Wp.seq ?_
    refine Wp.region ?_
    refine WpL.step (Stp.rd (Rdo.fieldAddr0 rfl) rfl ?_)
    refine WpL.step (Stp.rd (Rdo.load rfl (Lds.next (Lds.next (Lds.one rfl)))) rfl ?_)
    refine WpL.nil ?_
    refine Thn.n ?_
    refine Wp.block ?_
    refine Wp.seq ?_
    refine Wp.region ?_
    refine WpL.step (Stp.rd (Rdo.eqi rfl rfl) rfl ?_)
    refine WpL.step (Stp.rd (Rdo.assign rfl) rfl ?_)
    refine WpL.nil ?_
    refine Thn.n ?_
    refine Wp.condL rfl (by first | rfl | assumption | (simp only [decide_eq_true_eq, decide_eq_false_iff_not, Bool.not_eq_true', Bool.not_eq_false', List.length_cons, List.length_nil]; first | assumption | omega) | (simp <;> done) | (simp <;> omega)) ?_
    refine Wp.seq ?_
    refine Wp.region ?_
    refine WpL.step (Stp.rd (Rdo.eqi rfl rfl) rfl ?_)
    refine WpL.step (Stp.rd (Rdo.assign rfl) rfl ?_)
    refine WpL.nil ?_
    refine Thn.n ?_
    refine Wp.condL rfl (by first | rfl | assumption | (simp only [decide_eq_true_eq, decide_eq_false_iff_not, Bool.not_eq_true', Bool.not_eq_false', List.length_cons, List.length_nil]; first | assumption | omega) | (simp <;> done) | (simp <;> omega)) ?_
    refine Wp.seq ?_
    refine Wp.region ?_
    refine WpL.step (Stp.rd (Rdo.eqi rfl rfl) rfl ?_)
    refine WpL.step (Stp.rd (Rdo.assign rfl) rfl ?_)
    refine WpL.nil ?_
    refine Thn.n ?_
    refine Wp.condL rfl (by first | rfl | assumption | (simp only [decide_eq_true_eq, decide_eq_false_iff_not, Bool.not_eq_true', Bool.not_eq_false', List.length_cons, List.length_nil]; first | assumption | omega) | (simp <;> done) | (simp <;> omega)) ?_
    refine Wp.seq ?_
    refine Wp.region ?_
    refine WpL.step (Stp.rd (Rdo.eqi rfl rfl) rfl ?_)
    refine WpL.step (Stp.rd (Rdo.assign rfl) rfl ?_)
    refine WpL.nil ?_
    refine Thn.n ?_
    refine Wp.condL rfl (by first | rfl | assumption | (simp only [decide_eq_true_eq, decide_eq_false_iff_not, Bool.not_eq_true', Bool.not_eq_false', List.length_cons, List.length_nil]; first | assumption | omega) | (simp <;> done) | (simp <;> omega)) ?_
    refine Wp.seq ?_
    refine Wp.region ?_
    refine WpL.step (Stp.rd (Rdo.eqi rfl rfl) rfl ?_)
    refine WpL.step (Stp.rd (Rdo.assign rfl) rfl ?_)
    refine WpL.nil ?_
    refine Thn.n ?_
    refine Wp.condK rfl (by first | rfl | assumption | (simp only [decide_eq_true_eq, decide_eq_false_iff_not, Bool.not_eq_true', Bool.not_eq_false', List.length_cons, List.length_nil]; first | assumption | omega) | (simp <;> done) | (simp <;> omega)) ?_
    refine Wp.seq ?_
    refine Wp.draw (by kernel_rfl) ?_
    refine WpR.take (i := 0) rfl (by kernel_rfl) (by kernel_rfl) (by kernel_rfl) (Rdo.move rfl) rfl ?_
    refine WpR.take (i := 1) rfl (by kernel_rfl) (by kernel_rfl) (by kernel_rfl) (Rdo.fieldAddr0 rfl) rfl ?_
    refine WpR.take (i := 4) rfl (by kernel_rfl) (by kernel_rfl) (by kernel_rfl) (Rdo.move rfl) rfl ?_
    refine WpR.take (i := 5) rfl (by kernel_rfl) (by kernel_rfl) (by kernel_rfl) (Rdo.fieldAddr0 rfl) rfl ?_
    refine WpR.load (i := 2) [6] rfl (by kernel_rfl) (by kernel_rfl) (by kernel_rfl) (by kernel_rfl) (by kernel_rfl) rfl Tk.rfl_ (Harm.rd rfl (Rdo.load rfl (Lds.next (Lds.next (Lds.one rfl)))) Harm.nil) (Rdo.load rfl (Lds.next (Lds.next (Lds.one rfl)))) rfl ?_
    refine WpR.phaseL (m := 0) #[true, true, true, true, true, true, true, true, true, true, true] 6 _ rfl (by kernel_rfl) (Tk.cons (Pk.next (Pk.next Pk.here)) Tk.nil) ?_
    refine WpA.take (i := 6) rfl rfl (by kernel_rfl) (by kernel_rfl) (by kernel_rfl) (Rdo.load rfl (Lds.one rfl)) rfl ?_
    refine WpA.one (i := 3) rfl (by kernel_rfl) (Stp.call (s1) (by kernel_rfl) rfl (by repeat (first | exact Tk.nil | apply Tk.cons (by repeat (first | exact Pk.here | apply Pk.next)))) rfl ?_)
    rintro _ _ ⟨rfl, rfl⟩
    refine WpA.lst (by simp only [List.cons_append, List.nil_append]; exact rfl) ?_
    refine WpA.one (i := 7) rfl (by kernel_rfl) (Stp.call (s2) (by kernel_rfl) rfl (by repeat (first | exact Tk.nil | apply Tk.cons (by repeat (first | exact Pk.here | apply Pk.next)))) rfl ?_)
    rintro _ _ ⟨rfl, rfl⟩
    refine WpA.lst (by simp only [List.cons_append, List.nil_append]; exact rfl) ?_
    refine WpA.take (i := 8) rfl rfl (by kernel_rfl) (by kernel_rfl) (by kernel_rfl) (Rdo.eqi rfl rfl) rfl ?_
    refine WpA.take (i := 9) rfl rfl (by kernel_rfl) (by kernel_rfl) (by kernel_rfl) (Rdo.assign rfl) rfl ?_
    refine WpA.take (i := 10) rfl rfl (by kernel_rfl) (by kernel_rfl) (by kernel_rfl) (Rdo.assign rfl) rfl ?_
    refine WpA.stop (by kernel_rfl) ?_
    refine WpR.lst (by simp only [List.cons_append, List.nil_append]; exact rfl) ?_
    refine WpR.done (by kernel_rfl) ?_
    refine Thn.n ?_
    refine Wp.ret ?_
    refine Blk.r ?_
    refine Thn.r ?_
    refine Ret.now (ResV.tmp rfl (ResV.tmp rfl ResV.nil)) (Gh.tk (by repeat (first | exact Tk.nil | apply Tk.cons (by repeat (first | exact Pk.here | apply Pk.next))))) ⟨(by first | rfl | (simp [packed] <;> done) | (simp_all [packed] <;> done)), rfl⟩
  rw [if_neg k5]
  have s1 := end_ok cb c a.commit hn0
  have s2 := rend_ok xb c a.commit hn0
  unfold fin_
  by_cases he : (c.end_ a.commit).2.2 = 0
  · rw [if_pos he]
    rw [he] at s1 s2
    refine Trip.of_body Tryd.func21 rfl Tryd.ntmps21 Tryd.results21 rfl ?_
    refine Wp.seq ?_
    refine Wp.region ?_
    (refine WpL.step (Stp.boxV rfl (VC.ag _) rfl ?_); intro nb2)
    refine WpL.step (Stp.rd (Rdo.assign rfl) rfl ?_)
    refine WpL.step (Stp.rd (Rdo.assign rfl) rfl ?_)
    refine WpL.nil ?_
    refine Thn.n ?_
    refine Wp.seq ?_
    refine Wp.region ?_
    (refine WpL.step (Stp.alloc rfl ?_); intro nb9)
    (refine WpL.step (Stp.alloc rfl ?_); intro nb10)
    refine WpL.nil ?_
    refine Thn.n ?_
    refine Wp.seq ?_
    refine Wp.region ?_
    refine WpL.step (Stp.rd (Rdo.assign rfl) rfl ?_)
    refine WpL.nil ?_
    refine Thn.n ?_
    refine Wp.seq ?_
    refine Wp.region ?_
    refine WpL.step (Stp.rd (Rdo.assign rfl) rfl ?_)
    refine WpL.nil ?_
    refine Thn.n ?_
    refine Wp.seq ?_
    refine Wp.seq ?_
    refine Wp.region ?_
    refine WpL.step (Stp.rd (Rdo.fieldAddr0 rfl) rfl ?_)
    refine WpL.step (Stp.rd (Rdo.load rfl (Lds.next (Lds.next (Lds.one rfl)))) rfl ?_)
    refine WpL.nil ?_
    refine Thn.n ?_
    refine Wp.block ?_
    refine Wp.seq ?_
    refine Wp.region ?_
    refine WpL.step (Stp.rd (Rdo.eqi rfl rfl) rfl ?_)
    refine WpL.step (Stp.rd (Rdo.assign rfl) rfl ?_)
    refine WpL.nil ?_
    refine Thn.n ?_
    refine Wp.condL rfl (by first | rfl | assumption | (simp only [decide_eq_true_eq, decide_eq_false_iff_not, Bool.not_eq_true', Bool.not_eq_false', List.length_cons, List.length_nil]; first | assumption | omega) | (simp <;> done) | (simp <;> omega)) ?_
    refine Wp.seq ?_
    refine Wp.region ?_
    refine WpL.step (Stp.rd (Rdo.eqi rfl rfl) rfl ?_)
    refine WpL.step (Stp.rd (Rdo.assign rfl) rfl ?_)
    refine WpL.nil ?_
    refine Thn.n ?_
    refine Wp.condL rfl (by first | rfl | assumption | (simp only [decide_eq_true_eq, decide_eq_false_iff_not, Bool.not_eq_true', Bool.not_eq_false', List.length_cons, List.length_nil]; first | assumption | omega) | (simp <;> done) | (simp <;> omega)) ?_
    refine Wp.seq ?_
    refine Wp.region ?_
    refine WpL.step (Stp.rd (Rdo.eqi rfl rfl) rfl ?_)
    refine WpL.step (Stp.rd (Rdo.assign rfl) rfl ?_)
    refine WpL.nil ?_
    refine Thn.n ?_
    refine Wp.condL rfl (by first | rfl | assumption | (simp only [decide_eq_true_eq, decide_eq_false_iff_not, Bool.not_eq_true', Bool.not_eq_false', List.length_cons, List.length_nil]; first | assumption | omega) | (simp <;> done) | (simp <;> omega)) ?_
    refine Wp.seq ?_
    refine Wp.region ?_
    refine WpL.step (Stp.rd (Rdo.eqi rfl rfl) rfl ?_)
    refine WpL.step (Stp.rd (Rdo.assign rfl) rfl ?_)
    refine WpL.nil ?_
    refine Thn.n ?_
    refine Wp.condL rfl (by first | rfl | assumption | (simp only [decide_eq_true_eq, decide_eq_false_iff_not, Bool.not_eq_true', Bool.not_eq_false', List.length_cons, List.length_nil]; first | assumption | omega) | (simp <;> done) | (simp <;> omega)) ?_
    refine Wp.seq ?_
    refine Wp.region ?_
    refine WpL.step (Stp.rd (Rdo.eqi rfl rfl) rfl ?_)
    refine WpL.step (Stp.rd (Rdo.assign rfl) rfl ?_)
    refine WpL.nil ?_
    refine Thn.n ?_
    refine Wp.condL rfl (by first | rfl | assumption | (simp only [decide_eq_true_eq, decide_eq_false_iff_not, Bool.not_eq_true', Bool.not_eq_false', List.length_cons, List.length_nil]; first | assumption | omega) | (simp <;> done) | (simp <;> omega)) ?_
    refine Wp.seq ?_
    refine Wp.region ?_
    refine WpL.step (Stp.rd (Rdo.move rfl) rfl ?_)
    refine WpL.step (Stp.rd (Rdo.fieldAddr0 rfl) rfl ?_)
    refine WpL.step (Stp.rd (Rdo.load rfl (Lds.next (Lds.next (Lds.one rfl)))) rfl ?_)
    refine WpL.step (Stp.call (s1) (by kernel_rfl) rfl (by repeat (first | exact Tk.nil | apply Tk.cons (by repeat (first | exact Pk.here | apply Pk.next)))) rfl ?_)
    rintro _ _ ⟨rfl, rfl⟩
    refine WpL.lst (by simp only [List.cons_append, List.nil_append]; exact rfl) ?_
    refine WpL.step (Stp.rd (Rdo.move rfl) rfl ?_)
    refine WpL.step (Stp.rd (Rdo.extract rfl rfl) rfl ?_)
    refine WpL.step (Stp.rd (Rdo.extract rfl rfl) rfl ?_)
    refine WpL.step (Stp.storeV rfl rfl (VC.ag _) (by first | rfl | assumption | (simp <;> done)) (by repeat (first | (apply Sts.all; (focus (first | rfl | assumption | (simp <;> done))); (focus (first | exact oneCells1 rfl | assumption | exact oneCells1 (by assumption) | ((repeat (first | assumption | exact oneCells_nil | exact oneCells_bytesC _ | (apply oneCells_cons; (focus (first | rfl | assumption))) | apply oneCells_append)); done) | (simp [oneCells, Value.oneCell'] <;> done)))) | (apply Sts.lp (by repeat (first | exact LPut.nil _ | apply LPut.here | apply LPut.next)); (focus (first | exact oneCells1 rfl | assumption | exact oneCells1 (by assumption) | ((repeat (first | assumption | exact oneCells_nil | exact oneCells_bytesC _ | (apply oneCells_cons; (focus (first | rfl | assumption))) | apply oneCells_append)); done) | (simp [oneCells, Value.oneCell'] <;> done)))) | (refine Sts.row1 (by first | assumption | omega | (simp <;> omega)) (by first | rfl | assumption)) | (refine Sts.rowP (by assumption) (by first | rfl | assumption | (simp <;> done)) (by rfl) (by (first | exact oneCells1 rfl | assumption | exact oneCells1 (by assumption) | ((repeat (first | assumption | exact oneCells_nil | exact oneCells_bytesC _ | (apply oneCells_cons; (focus (first | rfl | assumption))) | apply oneCells_append)); done) | (simp [oneCells, Value.oneCell'] <;> done)))) | apply Sts.next)) ?_)
    refine WpL.step (Stp.rd (Rdo.assign rfl) rfl ?_)
    refine WpL.nil ?_
    refine Thn.n ?_
    refine Wp.region ?_
    refine WpL.step (Stp.rd (Rdo.move rfl) rfl ?_)
    refine WpL.step (Stp.rd (Rdo.fieldAddr0 rfl) rfl ?_)
    refine WpL.step (Stp.rd (Rdo.load rfl (Lds.next (Lds.next (Lds.next (Lds.one rfl))))) rfl ?_)
    refine WpL.step (Stp.call (s2) (by kernel_rfl) rfl (by repeat (first | exact Tk.nil | apply Tk.cons (by repeat (first | exact Pk.here | apply Pk.next)))) rfl ?_)
    rintro _ _ ⟨rfl, rfl⟩
    refine WpL.lst (by simp only [List.cons_append, List.nil_append]; exact rfl) ?_
    refine WpL.step (Stp.rd (Rdo.move rfl) rfl ?_)
    refine WpL.step (Stp.rd (Rdo.extract rfl rfl) rfl ?_)
    refine WpL.step (Stp.rd (Rdo.extract rfl rfl) rfl ?_)
    refine WpL.step (Stp.storeV rfl rfl (VC.ag _) (by first | rfl | assumption | (simp <;> done)) (by repeat (first | (apply Sts.all; (focus (first | rfl | assumption | (simp <;> done))); (focus (first | exact oneCells1 rfl | assumption | exact oneCells1 (by assumption) | ((repeat (first | assumption | exact oneCells_nil | exact oneCells_bytesC _ | (apply oneCells_cons; (focus (first | rfl | assumption))) | apply oneCells_append)); done) | (simp [oneCells, Value.oneCell'] <;> done)))) | (apply Sts.lp (by repeat (first | exact LPut.nil _ | apply LPut.here | apply LPut.next)); (focus (first | exact oneCells1 rfl | assumption | exact oneCells1 (by assumption) | ((repeat (first | assumption | exact oneCells_nil | exact oneCells_bytesC _ | (apply oneCells_cons; (focus (first | rfl | assumption))) | apply oneCells_append)); done) | (simp [oneCells, Value.oneCell'] <;> done)))) | (refine Sts.row1 (by first | assumption | omega | (simp <;> omega)) (by first | rfl | assumption)) | (refine Sts.rowP (by assumption) (by first | rfl | assumption | (simp <;> done)) (by rfl) (by (first | exact oneCells1 rfl | assumption | exact oneCells1 (by assumption) | ((repeat (first | assumption | exact oneCells_nil | exact oneCells_bytesC _ | (apply oneCells_cons; (focus (first | rfl | assumption))) | apply oneCells_append)); done) | (simp [oneCells, Value.oneCell'] <;> done)))) | apply Sts.next)) ?_)
    refine WpL.step (Stp.rd (Rdo.assign rfl) rfl ?_)
    refine WpL.nil ?_
    refine Blk.n ?_
    refine Thn.n ?_
    refine Wp.seq ?_
    refine Wp.seq ?_
    refine Wp.region ?_
    refine WpL.step (Stp.rd (Rdo.move rfl) rfl ?_)
    refine WpL.step (Stp.rd (Rdo.nei rfl rfl) rfl ?_)
    refine WpL.nil ?_
    refine Thn.n ?_
    refine Wp.condF rfl ?_
    refine Wp.skip ?_
    refine Thn.n ?_
    refine Wp.seq ?_
    refine Wp.draw (by kernel_rfl) ?_
    refine WpR.take (i := 0) rfl (by kernel_rfl) (by kernel_rfl) (by kernel_rfl) (Rdo.fieldAddr0 rfl) rfl ?_
    refine WpR.phaseL (m := 0) #[true, true, true, true, true, true, true, true, true, true, true, true] 11 _ rfl (by kernel_rfl) (Tk.cons (Pk.next (Pk.next Pk.here)) (Tk.cons (Pk.next (Pk.next Pk.here)) Tk.nil)) ?_
    refine WpA.take (i := 1) rfl rfl (by kernel_rfl) (by kernel_rfl) (by kernel_rfl) (Rdo.load rfl (Lds.one rfl)) rfl ?_
    refine WpA.take (i := 2) rfl rfl (by kernel_rfl) (by kernel_rfl) (by kernel_rfl) (Rdo.load rfl (Lds.next (by apply Lds.all; (first | rfl | assumption | (simp <;> fail))))) rfl ?_
    refine WpA.take (i := 3) rfl rfl (by kernel_rfl) (by kernel_rfl) (by kernel_rfl) (Rdo.load rfl (by apply Lds.all; (first | rfl | assumption | (simp <;> fail)))) rfl ?_
    refine WpA.take (i := 4) rfl rfl (by kernel_rfl) (by kernel_rfl) (by kernel_rfl) (Rdo.eqagg rfl rfl (by first | rfl | exact oks_hc _ | exact oks_voteC _ | assumption) (by first | rfl | exact oks_hc _ | exact oks_voteC _ | assumption)) rfl ?_
    refine WpA.take (i := 5) rfl rfl (by kernel_rfl) (by kernel_rfl) (by kernel_rfl) (Rdo.move rfl) rfl ?_
    refine WpA.tT 129 rfl (by first | rfl | assumption | (simp only [decide_eq_true_eq, decide_eq_false_iff_not, Bool.not_eq_true', Bool.not_eq_false', List.length_cons, List.length_nil]; first | assumption | omega) | (simp <;> done) | (simp <;> omega)) ?_
    refine WpA.want (i := 6) rfl rfl rfl rfl rfl (by kernel_rfl) (by kernel_rfl) (by kernel_rfl) (Rdo.move rfl) rfl ?_
    refine WpA.want (i := 7) rfl rfl rfl rfl rfl (by kernel_rfl) (by kernel_rfl) (by kernel_rfl) (Rdo.move rfl) rfl ?_
    refine WpA.want (i := 8) rfl rfl rfl rfl rfl (by kernel_rfl) (by kernel_rfl) (by kernel_rfl) (Rdo.eqi rfl rfl) rfl ?_
    refine WpA.take (i := 9) rfl rfl (by kernel_rfl) (by kernel_rfl) (by kernel_rfl) (Rdo.pick_t rfl rfl) rfl ?_
    refine WpA.take (i := 10) rfl rfl (by kernel_rfl) (by kernel_rfl) (by kernel_rfl) (Rdo.assign rfl) rfl ?_
    refine WpA.take (i := 11) rfl rfl (by kernel_rfl) (by kernel_rfl) (by kernel_rfl) (Rdo.assign rfl) rfl ?_
    refine WpA.stop (by kernel_rfl) ?_
    refine WpR.lst (by simp only [List.cons_append, List.nil_append]; exact rfl) ?_
    refine WpR.done (by kernel_rfl) ?_
    refine Thn.n ?_
    refine Wp.ret ?_
    refine Ret.now (ResV.tmp rfl (ResV.tmp rfl ResV.nil)) (Gh.tk (by repeat (first | exact Tk.nil | apply Tk.cons (by repeat (first | exact Pk.here | apply Pk.next))))) ⟨rfl, rfl⟩
  · rw [if_neg he]
    refine Trip.of_body Tryd.func21 rfl Tryd.ntmps21 Tryd.results21 rfl ?_
    refine Wp.seq ?_
    refine Wp.region ?_
    (refine WpL.step (Stp.boxV rfl (VC.ag _) rfl ?_); intro nb2)
    refine WpL.step (Stp.rd (Rdo.assign rfl) rfl ?_)
    refine WpL.step (Stp.rd (Rdo.assign rfl) rfl ?_)
    refine WpL.nil ?_
    refine Thn.n ?_
    refine Wp.seq ?_
    refine Wp.region ?_
    (refine WpL.step (Stp.alloc rfl ?_); intro nb9)
    (refine WpL.step (Stp.alloc rfl ?_); intro nb10)
    refine WpL.nil ?_
    refine Thn.n ?_
    refine Wp.seq ?_
    refine Wp.region ?_
    refine WpL.step (Stp.rd (Rdo.assign rfl) rfl ?_)
    refine WpL.nil ?_
    refine Thn.n ?_
    refine Wp.seq ?_
    refine Wp.region ?_
    refine WpL.step (Stp.rd (Rdo.assign rfl) rfl ?_)
    refine WpL.nil ?_
    refine Thn.n ?_
    refine Wp.seq ?_
    refine Wp.seq ?_
    refine Wp.region ?_
    refine WpL.step (Stp.rd (Rdo.fieldAddr0 rfl) rfl ?_)
    refine WpL.step (Stp.rd (Rdo.load rfl (Lds.next (Lds.next (Lds.one rfl)))) rfl ?_)
    refine WpL.nil ?_
    refine Thn.n ?_
    refine Wp.block ?_
    refine Wp.seq ?_
    refine Wp.region ?_
    refine WpL.step (Stp.rd (Rdo.eqi rfl rfl) rfl ?_)
    refine WpL.step (Stp.rd (Rdo.assign rfl) rfl ?_)
    refine WpL.nil ?_
    refine Thn.n ?_
    refine Wp.condL rfl (by first | rfl | assumption | (simp only [decide_eq_true_eq, decide_eq_false_iff_not, Bool.not_eq_true', Bool.not_eq_false', List.length_cons, List.length_nil]; first | assumption | omega) | (simp <;> done) | (simp <;> omega)) ?_
    refine Wp.seq ?_
    refine Wp.region ?_
    refine WpL.step (Stp.rd (Rdo.eqi rfl rfl) rfl ?_)
    refine WpL.step (Stp.rd (Rdo.assign rfl) rfl ?_)
    refine WpL.nil ?_
    refine Thn.n ?_
    refine Wp.condL rfl (by first | rfl | assumption | (simp only [decide_eq_true_eq, decide_eq_false_iff_not, Bool.not_eq_true', Bool.not_eq_false', List.length_cons, List.length_nil]; first | assumption | omega) | (simp <;> done) | (simp <;> omega)) ?_
    refine Wp.seq ?_
    refine Wp.region ?_
    refine WpL.step (Stp.rd (Rdo.eqi rfl rfl) rfl ?_)
    refine WpL.step (Stp.rd (Rdo.assign rfl) rfl ?_)
    refine WpL.nil ?_
    refine Thn.n ?_
    refine Wp.condL rfl (by first | rfl | assumption | (simp only [decide_eq_true_eq, decide_eq_false_iff_not, Bool.not_eq_true', Bool.not_eq_false', List.length_cons, List.length_nil]; first | assumption | omega) | (simp <;> done) | (simp <;> omega)) ?_
    refine Wp.seq ?_
    refine Wp.region ?_
    refine WpL.step (Stp.rd (Rdo.eqi rfl rfl) rfl ?_)
    refine WpL.step (Stp.rd (Rdo.assign rfl) rfl ?_)
    refine WpL.nil ?_
    refine Thn.n ?_
    refine Wp.condL rfl (by first | rfl | assumption | (simp only [decide_eq_true_eq, decide_eq_false_iff_not, Bool.not_eq_true', Bool.not_eq_false', List.length_cons, List.length_nil]; first | assumption | omega) | (simp <;> done) | (simp <;> omega)) ?_
    refine Wp.seq ?_
    refine Wp.region ?_
    refine WpL.step (Stp.rd (Rdo.eqi rfl rfl) rfl ?_)
    refine WpL.step (Stp.rd (Rdo.assign rfl) rfl ?_)
    refine WpL.nil ?_
    refine Thn.n ?_
    refine Wp.condL rfl (by first | rfl | assumption | (simp only [decide_eq_true_eq, decide_eq_false_iff_not, Bool.not_eq_true', Bool.not_eq_false', List.length_cons, List.length_nil]; first | assumption | omega) | (simp <;> done) | (simp <;> omega)) ?_
    refine Wp.seq ?_
    refine Wp.region ?_
    refine WpL.step (Stp.rd (Rdo.move rfl) rfl ?_)
    refine WpL.step (Stp.rd (Rdo.fieldAddr0 rfl) rfl ?_)
    refine WpL.step (Stp.rd (Rdo.load rfl (Lds.next (Lds.next (Lds.one rfl)))) rfl ?_)
    refine WpL.step (Stp.call (s1) (by kernel_rfl) rfl (by repeat (first | exact Tk.nil | apply Tk.cons (by repeat (first | exact Pk.here | apply Pk.next)))) rfl ?_)
    rintro _ _ ⟨rfl, rfl⟩
    refine WpL.lst (by simp only [List.cons_append, List.nil_append]; exact rfl) ?_
    refine WpL.step (Stp.rd (Rdo.move rfl) rfl ?_)
    refine WpL.step (Stp.rd (Rdo.extract rfl rfl) rfl ?_)
    refine WpL.step (Stp.rd (Rdo.extract rfl rfl) rfl ?_)
    refine WpL.step (Stp.storeV rfl rfl (VC.ag _) (by first | rfl | assumption | (simp <;> done)) (by repeat (first | (apply Sts.all; (focus (first | rfl | assumption | (simp <;> done))); (focus (first | exact oneCells1 rfl | assumption | exact oneCells1 (by assumption) | ((repeat (first | assumption | exact oneCells_nil | exact oneCells_bytesC _ | (apply oneCells_cons; (focus (first | rfl | assumption))) | apply oneCells_append)); done) | (simp [oneCells, Value.oneCell'] <;> done)))) | (apply Sts.lp (by repeat (first | exact LPut.nil _ | apply LPut.here | apply LPut.next)); (focus (first | exact oneCells1 rfl | assumption | exact oneCells1 (by assumption) | ((repeat (first | assumption | exact oneCells_nil | exact oneCells_bytesC _ | (apply oneCells_cons; (focus (first | rfl | assumption))) | apply oneCells_append)); done) | (simp [oneCells, Value.oneCell'] <;> done)))) | (refine Sts.row1 (by first | assumption | omega | (simp <;> omega)) (by first | rfl | assumption)) | (refine Sts.rowP (by assumption) (by first | rfl | assumption | (simp <;> done)) (by rfl) (by (first | exact oneCells1 rfl | assumption | exact oneCells1 (by assumption) | ((repeat (first | assumption | exact oneCells_nil | exact oneCells_bytesC _ | (apply oneCells_cons; (focus (first | rfl | assumption))) | apply oneCells_append)); done) | (simp [oneCells, Value.oneCell'] <;> done)))) | apply Sts.next)) ?_)
    refine WpL.step (Stp.rd (Rdo.assign rfl) rfl ?_)
    refine WpL.nil ?_
    refine Thn.n ?_
    refine Wp.region ?_
    refine WpL.step (Stp.rd (Rdo.move rfl) rfl ?_)
    refine WpL.step (Stp.rd (Rdo.fieldAddr0 rfl) rfl ?_)
    refine WpL.step (Stp.rd (Rdo.load rfl (Lds.next (Lds.next (Lds.next (Lds.one rfl))))) rfl ?_)
    refine WpL.step (Stp.call (s2) (by kernel_rfl) rfl (by repeat (first | exact Tk.nil | apply Tk.cons (by repeat (first | exact Pk.here | apply Pk.next)))) rfl ?_)
    rintro _ _ ⟨rfl, rfl⟩
    refine WpL.lst (by simp only [List.cons_append, List.nil_append]; exact rfl) ?_
    refine WpL.step (Stp.rd (Rdo.move rfl) rfl ?_)
    refine WpL.step (Stp.rd (Rdo.extract rfl rfl) rfl ?_)
    refine WpL.step (Stp.rd (Rdo.extract rfl rfl) rfl ?_)
    refine WpL.step (Stp.storeV rfl rfl (VC.ag _) (by first | rfl | assumption | (simp <;> done)) (by repeat (first | (apply Sts.all; (focus (first | rfl | assumption | (simp <;> done))); (focus (first | exact oneCells1 rfl | assumption | exact oneCells1 (by assumption) | ((repeat (first | assumption | exact oneCells_nil | exact oneCells_bytesC _ | (apply oneCells_cons; (focus (first | rfl | assumption))) | apply oneCells_append)); done) | (simp [oneCells, Value.oneCell'] <;> done)))) | (apply Sts.lp (by repeat (first | exact LPut.nil _ | apply LPut.here | apply LPut.next)); (focus (first | exact oneCells1 rfl | assumption | exact oneCells1 (by assumption) | ((repeat (first | assumption | exact oneCells_nil | exact oneCells_bytesC _ | (apply oneCells_cons; (focus (first | rfl | assumption))) | apply oneCells_append)); done) | (simp [oneCells, Value.oneCell'] <;> done)))) | (refine Sts.row1 (by first | assumption | omega | (simp <;> omega)) (by first | rfl | assumption)) | (refine Sts.rowP (by assumption) (by first | rfl | assumption | (simp <;> done)) (by rfl) (by (first | exact oneCells1 rfl | assumption | exact oneCells1 (by assumption) | ((repeat (first | assumption | exact oneCells_nil | exact oneCells_bytesC _ | (apply oneCells_cons; (focus (first | rfl | assumption))) | apply oneCells_append)); done) | (simp [oneCells, Value.oneCell'] <;> done)))) | apply Sts.next)) ?_)
    refine WpL.step (Stp.rd (Rdo.assign rfl) rfl ?_)
    refine WpL.nil ?_
    refine Blk.n ?_
    refine Thn.n ?_
    refine Wp.seq ?_
    refine Wp.seq ?_
    refine Wp.region ?_
    refine WpL.step (Stp.rd (Rdo.move rfl) rfl ?_)
    refine WpL.step (Stp.rd (Rdo.nei rfl rfl) rfl ?_)
    refine WpL.nil ?_
    refine Thn.n ?_
    refine Wp.condK rfl (by first | rfl | assumption | (simp only [decide_eq_true_eq, decide_eq_false_iff_not, Bool.not_eq_true', Bool.not_eq_false', List.length_cons, List.length_nil]; first | assumption | omega) | (simp <;> done) | (simp <;> omega)) ?_
    refine Wp.seq ?_
    refine Wp.region ?_
    refine WpL.step (Stp.rd (Rdo.load rfl (Lds.next (Lds.next (Lds.next (by apply Lds.all; (first | rfl | assumption | (simp <;> fail))))))) rfl ?_)
    refine WpL.step (Stp.rd (Rdo.load rfl (Lds.next (Lds.next (by apply Lds.all; (first | rfl | assumption | (simp <;> fail)))))) rfl ?_)
    refine WpL.step (Stp.rd (Rdo.eqagg rfl rfl (by first | rfl | exact oks_hc _ | exact oks_voteC _ | assumption) (by first | rfl | exact oks_hc _ | exact oks_voteC _ | assumption)) rfl ?_)
    refine WpL.step (Stp.rd (Rdo.move rfl) rfl ?_)
    refine WpL.gT rfl rfl (by first | rfl | assumption | (simp only [decide_eq_true_eq, decide_eq_false_iff_not, Bool.not_eq_true', Bool.not_eq_false', List.length_cons, List.length_nil]; first | assumption | omega) | (simp <;> done) | (simp <;> omega)) ?_
    refine WpL.want rfl rfl rfl (Stp.rd (Rdo.move rfl) rfl ?_)
    refine WpL.want rfl rfl rfl (Stp.rd (Rdo.move rfl) rfl ?_)
    refine WpL.want rfl rfl rfl (Stp.rd (Rdo.eqi rfl rfl) rfl ?_)
    refine WpL.step (Stp.rd (Rdo.pick_t rfl rfl) rfl ?_)
    refine WpL.step (Stp.rd (Rdo.assign rfl) rfl ?_)
    refine WpL.step (Stp.rd (Rdo.assign rfl) rfl ?_)
    refine WpL.nil ?_
    refine Thn.n ?_
    refine Wp.ret ?_
    refine Thn.r ?_
    refine Ret.now (ResV.tmp rfl (ResV.tmp rfl ResV.nil)) (Gh.tk (by repeat (first | exact Tk.nil | apply Tk.cons (by repeat (first | exact Pk.here | apply Pk.next))))) ⟨(by first | rfl | (simp [packed] <;> done) | (simp_all [packed] <;> done)), rfl⟩
end Go.Proofs.YtaacdekfeljpeaaDoor
