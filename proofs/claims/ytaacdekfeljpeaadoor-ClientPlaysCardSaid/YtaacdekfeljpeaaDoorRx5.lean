/- The document's client: Record. Written by gen_rx5.py. -/
import Derived.Test.YtaacdekfeljpeaaDoorRx4
namespace Go.Proofs.YtaacdekfeljpeaaDoor
open Go
set_option maxHeartbeats 4000000
set_option linter.unusedSimpArgs false
set_option linter.unusedVariables false
set_option maxRecDepth 20000
attribute [simp] bytesC_length

theorem pxOk.rec_ {c c' : CliS} {p : PartS} {x : PX} (h : pxOk c p x) (ho : c'.opn = c.opn) (hl : c'.last = c.last) {r : Rec} {n : Int} (hn : n = p.next + 1) : pxOk c' { p with next := n, out := some r } { x with next := n, out := true, r := r } :=
  ⟨rfl, rfl, (by intro r' hr; cases hr; rfl), fun h2 => by rw [hl]; exact h.2.2.2 (ho ▸ h2)⟩

theorem rrecord_ok (b : Nat) (c : CliS) (n : Int) (v : Value) (value : List UInt8) (hok : CliOk c) :
    Trip Tryd.prog 35 [vp b 0, vi n, v] [simA b c, fz (fun g => RdBytes g v value)]
      (fun x l => ∃ v', x = .tuple #[.agg (recC (c.record n value).2.1 v').toArray, vi (c.record n value).2.2] ∧ l = [fz (fun g => RdBytes g v' (c.record n value).2.1.value), simA b (c.record n value).1, fz (fun g => RdBytes g v value)]) := by
  have hpn := hok.pn
  refine Trip.get (Pk.next Pk.here) shape_bytes ?_
  rintro ⟨av, cv, rfl⟩
  refine Trip.ghE simA_open ?_; rintro ⟨⟨x0, x1, x2, x3⟩, ⟨a0, c0⟩, ⟨a1, c1⟩, ⟨a2, c2⟩, ⟨a3, c3⟩⟩ hs; simp only at hs ⊢
  by_cases hop : c.opn = false
  · have hr : c.record n value = (c, rec0, 6) := by
      unfold CliS.record
      split
      · rfl
      · rw [if_pos (.inl hop)]
    rw [hr]
    refine Trip.of_body Tryd.func35 rfl Tryd.ntmps35 Tryd.results35 rfl ?_
    refine Wp.seq ?_
    refine Wp.region ?_
    (refine WpL.step (Stp.alloc rfl ?_); intro nb2)
    refine WpL.step (Stp.rd (Rdo.assign rfl) rfl ?_)
    refine WpL.nil ?_
    refine Thn.n ?_
    refine Wp.seq ?_
    refine Wp.seq ?_
    refine Wp.region ?_
    refine WpL.step (Stp.rd (Rdo.move rfl) rfl ?_)
    refine WpL.step (Stp.rd (Rdo.nilCheck rfl) rfl ?_)
    refine WpL.step (Stp.rd (Rdo.fieldAddr0 rfl) rfl ?_)
    refine WpL.step (Stp.rd (Rdo.load rfl (Lds.next (Lds.one rfl))) rfl ?_)
    refine WpL.step (Stp.rd (Rdo.not rfl) rfl ?_)
    refine WpL.step (Stp.rd (Rdo.move rfl) rfl ?_)
    refine WpL.gT rfl rfl (by first | rfl | assumption | (simp only [decide_eq_true_eq, decide_eq_false_iff_not, Bool.not_eq_true', Bool.not_eq_false', List.length_cons, List.length_nil]; first | assumption | omega) | (simp <;> done) | (simp <;> omega)) ?_
    refine WpL.pass rfl rfl rfl rfl ?_
    refine WpL.pass rfl rfl rfl rfl ?_
    refine WpL.step (Stp.rd (Rdo.pick_t rfl rfl) rfl ?_)
    refine WpL.step (Stp.rd (Rdo.move rfl) rfl ?_)
    refine WpL.pass rfl rfl rfl rfl ?_
    refine WpL.pass rfl rfl rfl rfl ?_
    refine WpL.step (Stp.rd (Rdo.pick_t rfl rfl) rfl ?_)
    refine WpL.step (Stp.rd (Rdo.move rfl) rfl ?_)
    refine WpL.pass rfl rfl rfl rfl ?_
    refine WpL.pass rfl rfl rfl rfl ?_
    refine WpL.pass rfl rfl rfl rfl ?_
    refine WpL.pass rfl rfl rfl rfl ?_
    refine WpL.pass rfl rfl rfl rfl ?_
    refine WpL.pass rfl rfl rfl rfl ?_
    refine WpL.pass rfl rfl rfl rfl ?_
    refine WpL.pass rfl rfl rfl rfl ?_
    refine WpL.step (Stp.rd (Rdo.pick_t rfl rfl) rfl ?_)
    refine WpL.nil ?_
    refine Thn.n ?_
    refine Wp.condT rfl ?_
    refine Wp.seq ?_
    refine Wp.region ?_
    refine WpL.step (Stp.rd (Rdo.bld rfl (BldL.nil _)) rfl ?_)
    refine WpL.step (Stp.storeV rfl rfl (VC.ag _) (by first | rfl | assumption | (simp <;> done)) (by repeat (first | (apply Sts.all; (focus (first | rfl | assumption | (simp <;> done))); (focus (first | exact oneCells1 rfl | assumption | exact oneCells1 (by assumption) | ((repeat (first | assumption | exact oneCells_nil | exact oneCells_bytesC _ | (apply oneCells_cons; (focus (first | rfl | assumption))) | apply oneCells_append)); done) | (simp [oneCells, Value.oneCell'] <;> done)))) | (apply Sts.lp (by repeat (first | exact LPut.nil _ | apply LPut.here | apply LPut.next)); (focus (first | exact oneCells1 rfl | assumption | exact oneCells1 (by assumption) | ((repeat (first | assumption | exact oneCells_nil | exact oneCells_bytesC _ | (apply oneCells_cons; (focus (first | rfl | assumption))) | apply oneCells_append)); done) | (simp [oneCells, Value.oneCell'] <;> done)))) | (refine Sts.row1 (by first | assumption | omega | (simp <;> omega)) (by first | rfl | assumption)) | (refine Sts.rowP (by assumption) (by first | rfl | assumption | (simp <;> done)) (by rfl) (by (first | exact oneCells1 rfl | assumption | exact oneCells1 (by assumption) | ((repeat (first | assumption | exact oneCells_nil | exact oneCells_bytesC _ | (apply oneCells_cons; (focus (first | rfl | assumption))) | apply oneCells_append)); done) | (simp [oneCells, Value.oneCell'] <;> done)))) | apply Sts.next)) ?_)
    refine WpL.step (Stp.rd (Rdo.assign rfl) rfl ?_)
    refine WpL.nil ?_
    refine Thn.n ?_
    refine Wp.ret ?_
    refine Thn.r ?_
    refine Ret.now (ResV.cell rfl (by repeat (first | exact Lds.one rfl | (apply Lds.all; (first | rfl | assumption | (simp <;> fail))) | exact Lds.ione0 | exact Lds.ione rfl | (apply Lds.iall; (first | rfl | assumption | (simp <;> fail))) | apply Lds.next)) (ResV.tmp rfl ResV.nil)) ?_ ⟨_, ⟨rfl, rfl⟩⟩
    exact Gh.trans (Gh.noBytes (a := none) (c := 0)) (Gh.trans (Gh.tk (by repeat (first | exact Tk.nil | apply Tk.cons (by repeat (first | exact Pk.here | apply Pk.next))))) (Gh.trans (simA_shut (l := [fz (fun g => RdBytes g (.slice none 0 0) []), fz (fun g => RdBytes g (.slice av value.length cv) value)]) (b := b) (c := c) (x0, x1, x2, x3) (vals4 (x0, x1, x2, x3) a0 c0 a1 c1 a2 c2 a3 c3) hs) (Gh.tk (by repeat (first | exact Tk.nil | apply Tk.cons (by repeat (first | exact Pk.here | apply Pk.next)))))))
  have ho : c.opn = true := by simpa using hop
  unfold CliS.record
  by_cases h1 : n < 0
  · rw [if_pos (.inl h1)]
    refine Trip.of_body Tryd.func35 rfl Tryd.ntmps35 Tryd.results35 rfl ?_
    refine Wp.seq ?_
    refine Wp.region ?_
    (refine WpL.step (Stp.alloc rfl ?_); intro nb2)
    refine WpL.step (Stp.rd (Rdo.assign rfl) rfl ?_)
    refine WpL.nil ?_
    refine Thn.n ?_
    refine Wp.seq ?_
    refine Wp.seq ?_
    refine Wp.region ?_
    refine WpL.step (Stp.rd (Rdo.move rfl) rfl ?_)
    refine WpL.step (Stp.rd (Rdo.nilCheck rfl) rfl ?_)
    refine WpL.step (Stp.rd (Rdo.fieldAddr0 rfl) rfl ?_)
    refine WpL.step (Stp.rd (Rdo.load rfl (Lds.next (Lds.one rfl))) rfl ?_)
    refine WpL.step (Stp.rd (Rdo.not rfl) rfl ?_)
    refine WpL.step (Stp.rd (Rdo.move rfl) rfl ?_)
    refine WpL.gF rfl rfl (by first | rfl | assumption | (simp only [decide_eq_true_eq, decide_eq_false_iff_not, Bool.not_eq_true', Bool.not_eq_false', List.length_cons, List.length_nil]; first | assumption | omega) | (simp <;> done) | (simp <;> omega)) ?_
    refine WpL.want rfl rfl rfl (Stp.rd (Rdo.move rfl) rfl ?_)
    refine WpL.want rfl rfl rfl (Stp.rd (Rdo.lti rfl rfl) rfl ?_)
    refine WpL.step (Stp.rd (Rdo.pick_f rfl rfl) rfl ?_)
    refine WpL.step (Stp.rd (Rdo.move rfl) rfl ?_)
    refine WpL.gT rfl rfl (by first | rfl | assumption | (simp only [decide_eq_true_eq, decide_eq_false_iff_not, Bool.not_eq_true', Bool.not_eq_false', List.length_cons, List.length_nil]; first | assumption | omega) | (simp <;> done) | (simp <;> omega)) ?_
    refine WpL.pass rfl rfl rfl rfl ?_
    refine WpL.pass rfl rfl rfl rfl ?_
    refine WpL.step (Stp.rd (Rdo.pick_t rfl rfl) rfl ?_)
    refine WpL.step (Stp.rd (Rdo.move rfl) rfl ?_)
    refine WpL.pass rfl rfl rfl rfl ?_
    refine WpL.pass rfl rfl rfl rfl ?_
    refine WpL.pass rfl rfl rfl rfl ?_
    refine WpL.pass rfl rfl rfl rfl ?_
    refine WpL.pass rfl rfl rfl rfl ?_
    refine WpL.pass rfl rfl rfl rfl ?_
    refine WpL.pass rfl rfl rfl rfl ?_
    refine WpL.pass rfl rfl rfl rfl ?_
    refine WpL.step (Stp.rd (Rdo.pick_t rfl rfl) rfl ?_)
    refine WpL.nil ?_
    refine Thn.n ?_
    refine Wp.condT rfl ?_
    refine Wp.seq ?_
    refine Wp.region ?_
    refine WpL.step (Stp.rd (Rdo.bld rfl (BldL.nil _)) rfl ?_)
    refine WpL.step (Stp.storeV rfl rfl (VC.ag _) (by first | rfl | assumption | (simp <;> done)) (by repeat (first | (apply Sts.all; (focus (first | rfl | assumption | (simp <;> done))); (focus (first | exact oneCells1 rfl | assumption | exact oneCells1 (by assumption) | ((repeat (first | assumption | exact oneCells_nil | exact oneCells_bytesC _ | (apply oneCells_cons; (focus (first | rfl | assumption))) | apply oneCells_append)); done) | (simp [oneCells, Value.oneCell'] <;> done)))) | (apply Sts.lp (by repeat (first | exact LPut.nil _ | apply LPut.here | apply LPut.next)); (focus (first | exact oneCells1 rfl | assumption | exact oneCells1 (by assumption) | ((repeat (first | assumption | exact oneCells_nil | exact oneCells_bytesC _ | (apply oneCells_cons; (focus (first | rfl | assumption))) | apply oneCells_append)); done) | (simp [oneCells, Value.oneCell'] <;> done)))) | (refine Sts.row1 (by first | assumption | omega | (simp <;> omega)) (by first | rfl | assumption)) | (refine Sts.rowP (by assumption) (by first | rfl | assumption | (simp <;> done)) (by rfl) (by (first | exact oneCells1 rfl | assumption | exact oneCells1 (by assumption) | ((repeat (first | assumption | exact oneCells_nil | exact oneCells_bytesC _ | (apply oneCells_cons; (focus (first | rfl | assumption))) | apply oneCells_append)); done) | (simp [oneCells, Value.oneCell'] <;> done)))) | apply Sts.next)) ?_)
    refine WpL.step (Stp.rd (Rdo.assign rfl) rfl ?_)
    refine WpL.nil ?_
    refine Thn.n ?_
    refine Wp.ret ?_
    refine Thn.r ?_
    refine Ret.now (ResV.cell rfl (by repeat (first | exact Lds.one rfl | (apply Lds.all; (first | rfl | assumption | (simp <;> fail))) | exact Lds.ione0 | exact Lds.ione rfl | (apply Lds.iall; (first | rfl | assumption | (simp <;> fail))) | apply Lds.next)) (ResV.tmp rfl ResV.nil)) ?_ ⟨_, ⟨rfl, rfl⟩⟩
    exact Gh.trans (Gh.noBytes (a := none) (c := 0)) (Gh.trans (Gh.tk (by repeat (first | exact Tk.nil | apply Tk.cons (by repeat (first | exact Pk.here | apply Pk.next))))) (Gh.trans (simA_shut (l := [fz (fun g => RdBytes g (.slice none 0 0) []), fz (fun g => RdBytes g (.slice av value.length cv) value)]) (b := b) (c := c) (x0, x1, x2, x3) (vals4 (x0, x1, x2, x3) a0 c0 a1 c1 a2 c2 a3 c3) hs) (Gh.tk (by repeat (first | exact Tk.nil | apply Tk.cons (by repeat (first | exact Pk.here | apply Pk.next)))))))
  by_cases h2 : 3 < n
  · rw [if_pos (.inr h2)]
    refine Trip.of_body Tryd.func35 rfl Tryd.ntmps35 Tryd.results35 rfl ?_
    refine Wp.seq ?_
    refine Wp.region ?_
    (refine WpL.step (Stp.alloc rfl ?_); intro nb2)
    refine WpL.step (Stp.rd (Rdo.assign rfl) rfl ?_)
    refine WpL.nil ?_
    refine Thn.n ?_
    refine Wp.seq ?_
    refine Wp.seq ?_
    refine Wp.region ?_
    refine WpL.step (Stp.rd (Rdo.move rfl) rfl ?_)
    refine WpL.step (Stp.rd (Rdo.nilCheck rfl) rfl ?_)
    refine WpL.step (Stp.rd (Rdo.fieldAddr0 rfl) rfl ?_)
    refine WpL.step (Stp.rd (Rdo.load rfl (Lds.next (Lds.one rfl))) rfl ?_)
    refine WpL.step (Stp.rd (Rdo.not rfl) rfl ?_)
    refine WpL.step (Stp.rd (Rdo.move rfl) rfl ?_)
    refine WpL.gF rfl rfl (by first | rfl | assumption | (simp only [decide_eq_true_eq, decide_eq_false_iff_not, Bool.not_eq_true', Bool.not_eq_false', List.length_cons, List.length_nil]; first | assumption | omega) | (simp <;> done) | (simp <;> omega)) ?_
    refine WpL.want rfl rfl rfl (Stp.rd (Rdo.move rfl) rfl ?_)
    refine WpL.want rfl rfl rfl (Stp.rd (Rdo.lti rfl rfl) rfl ?_)
    refine WpL.step (Stp.rd (Rdo.pick_f rfl rfl) rfl ?_)
    refine WpL.step (Stp.rd (Rdo.move rfl) rfl ?_)
    refine WpL.gF rfl rfl (by first | rfl | assumption | (simp only [decide_eq_true_eq, decide_eq_false_iff_not, Bool.not_eq_true', Bool.not_eq_false', List.length_cons, List.length_nil]; first | assumption | omega) | (simp <;> done) | (simp <;> omega)) ?_
    refine WpL.want rfl rfl rfl (Stp.rd (Rdo.move rfl) rfl ?_)
    refine WpL.want rfl rfl rfl (Stp.rd (Rdo.gti rfl rfl) rfl ?_)
    refine WpL.step (Stp.rd (Rdo.pick_f rfl rfl) rfl ?_)
    refine WpL.step (Stp.rd (Rdo.move rfl) rfl ?_)
    refine WpL.gT rfl rfl (by first | rfl | assumption | (simp only [decide_eq_true_eq, decide_eq_false_iff_not, Bool.not_eq_true', Bool.not_eq_false', List.length_cons, List.length_nil]; first | assumption | omega) | (simp <;> done) | (simp <;> omega)) ?_
    refine WpL.pass rfl rfl rfl rfl ?_
    refine WpL.pass rfl rfl rfl rfl ?_
    refine WpL.pass rfl rfl rfl rfl ?_
    refine WpL.pass rfl rfl rfl rfl ?_
    refine WpL.pass rfl rfl rfl rfl ?_
    refine WpL.pass rfl rfl rfl rfl ?_
    refine WpL.pass rfl rfl rfl rfl ?_
    refine WpL.pass rfl rfl rfl rfl ?_
    refine WpL.step (Stp.rd (Rdo.pick_t rfl rfl) rfl ?_)
    refine WpL.nil ?_
    refine Thn.n ?_
    refine Wp.condT rfl ?_
    refine Wp.seq ?_
    refine Wp.region ?_
    refine WpL.step (Stp.rd (Rdo.bld rfl (BldL.nil _)) rfl ?_)
    refine WpL.step (Stp.storeV rfl rfl (VC.ag _) (by first | rfl | assumption | (simp <;> done)) (by repeat (first | (apply Sts.all; (focus (first | rfl | assumption | (simp <;> done))); (focus (first | exact oneCells1 rfl | assumption | exact oneCells1 (by assumption) | ((repeat (first | assumption | exact oneCells_nil | exact oneCells_bytesC _ | (apply oneCells_cons; (focus (first | rfl | assumption))) | apply oneCells_append)); done) | (simp [oneCells, Value.oneCell'] <;> done)))) | (apply Sts.lp (by repeat (first | exact LPut.nil _ | apply LPut.here | apply LPut.next)); (focus (first | exact oneCells1 rfl | assumption | exact oneCells1 (by assumption) | ((repeat (first | assumption | exact oneCells_nil | exact oneCells_bytesC _ | (apply oneCells_cons; (focus (first | rfl | assumption))) | apply oneCells_append)); done) | (simp [oneCells, Value.oneCell'] <;> done)))) | (refine Sts.row1 (by first | assumption | omega | (simp <;> omega)) (by first | rfl | assumption)) | (refine Sts.rowP (by assumption) (by first | rfl | assumption | (simp <;> done)) (by rfl) (by (first | exact oneCells1 rfl | assumption | exact oneCells1 (by assumption) | ((repeat (first | assumption | exact oneCells_nil | exact oneCells_bytesC _ | (apply oneCells_cons; (focus (first | rfl | assumption))) | apply oneCells_append)); done) | (simp [oneCells, Value.oneCell'] <;> done)))) | apply Sts.next)) ?_)
    refine WpL.step (Stp.rd (Rdo.assign rfl) rfl ?_)
    refine WpL.nil ?_
    refine Thn.n ?_
    refine Wp.ret ?_
    refine Thn.r ?_
    refine Ret.now (ResV.cell rfl (by repeat (first | exact Lds.one rfl | (apply Lds.all; (first | rfl | assumption | (simp <;> fail))) | exact Lds.ione0 | exact Lds.ione rfl | (apply Lds.iall; (first | rfl | assumption | (simp <;> fail))) | apply Lds.next)) (ResV.tmp rfl ResV.nil)) ?_ ⟨_, ⟨rfl, rfl⟩⟩
    exact Gh.trans (Gh.noBytes (a := none) (c := 0)) (Gh.trans (Gh.tk (by repeat (first | exact Tk.nil | apply Tk.cons (by repeat (first | exact Pk.here | apply Pk.next))))) (Gh.trans (simA_shut (l := [fz (fun g => RdBytes g (.slice none 0 0) []), fz (fun g => RdBytes g (.slice av value.length cv) value)]) (b := b) (c := c) (x0, x1, x2, x3) (vals4 (x0, x1, x2, x3) a0 c0 a1 c1 a2 c2 a3 c3) hs) (Gh.tk (by repeat (first | exact Tk.nil | apply Tk.cons (by repeat (first | exact Pk.here | apply Pk.next)))))))
  rw [if_neg (by omega)]
  obtain ⟨p0, p1, p2, p3, hp, g0, g1, g2, g3⟩ := id hs
  simp only at g0 g1 g2 g3
  rcases (by omega : n = 0 ∨ n = 1 ∨ n = 2 ∨ n = 3) with rfl | rfl | rfl | rfl
  · have hpt : c.part 0 = p0 := by unfold CliS.part; rw [hp]; rfl
    rw [hpt]
    have hbg := g0.2.2.2 ho
    have hxn := g0.1
    have hxo := g0.2.1
    have hnb := hpn p0 (by rw [hp]; simp)
    by_cases hb : p0.begun = c.last
    · rw [if_neg (by rw [ho]; simp [hb])]
      rw [decide_eq_true hb] at hbg
      cases hpo : p0.out with
      | some r =>
        rw [hpo] at hxo
        have hxo' : x0.out = true := hxo
        obtain rfl := g0.2.2.1 r hpo
        simp only
        refine Trip.gh (Gh.trans (Gh.fzAlso (Φ := fun g => RdBytes g (.slice a0 x0.r.value.length c0) x0.r.value) (by repeat (first | exact Pk.here | apply Pk.next)) fun g h => h) (Gh.tk (l' := [cel b 63 (simC c (x0, x1, x2, x3) (vals4 (x0, x1, x2, x3) a0 c0 a1 c1 a2 c2 a3 c3)), simF (.slice a0 x0.r.value.length c0) x0, simF (.slice a1 x1.r.value.length c1) x1, simF (.slice a2 x2.r.value.length c2) x2, simF (.slice a3 x3.r.value.length c3) x3, fz (fun g => RdBytes g (.slice a0 x0.r.value.length c0) x0.r.value), fz (fun g => RdBytes g (.slice av value.length cv) value)]) (by repeat (first | exact Tk.nil | apply Tk.cons (by repeat (first | exact Pk.here | apply Pk.next)))))) ?_
        refine Trip.of_body Tryd.func35 rfl Tryd.ntmps35 Tryd.results35 rfl ?_
        refine Wp.seq ?_
        refine Wp.region ?_
        (refine WpL.step (Stp.alloc rfl ?_); intro nb2)
        refine WpL.step (Stp.rd (Rdo.assign rfl) rfl ?_)
        refine WpL.nil ?_
        refine Thn.n ?_
        refine Wp.seq ?_
        refine Wp.seq ?_
        refine Wp.region ?_
        refine WpL.step (Stp.rd (Rdo.move rfl) rfl ?_)
        refine WpL.step (Stp.rd (Rdo.nilCheck rfl) rfl ?_)
        refine WpL.step (Stp.rd (Rdo.fieldAddr0 rfl) rfl ?_)
        refine WpL.step (Stp.rd (Rdo.load rfl (Lds.next (Lds.one rfl))) rfl ?_)
        refine WpL.step (Stp.rd (Rdo.not rfl) rfl ?_)
        refine WpL.step (Stp.rd (Rdo.move rfl) rfl ?_)
        refine WpL.gF rfl rfl (by first | rfl | assumption | (simp only [decide_eq_true_eq, decide_eq_false_iff_not, Bool.not_eq_true', Bool.not_eq_false', List.length_cons, List.length_nil]; first | assumption | omega) | (simp <;> done) | (simp <;> omega)) ?_
        refine WpL.want rfl rfl rfl (Stp.rd (Rdo.move rfl) rfl ?_)
        refine WpL.want rfl rfl rfl (Stp.rd (Rdo.lti rfl rfl) rfl ?_)
        refine WpL.step (Stp.rd (Rdo.pick_f rfl rfl) rfl ?_)
        refine WpL.step (Stp.rd (Rdo.move rfl) rfl ?_)
        refine WpL.want rfl rfl rfl (Stp.rd (Rdo.move rfl) rfl ?_)
        refine WpL.want rfl rfl rfl (Stp.rd (Rdo.gti rfl rfl) rfl ?_)
        refine WpL.step (Stp.rd (Rdo.pick_f rfl rfl) rfl ?_)
        refine WpL.step (Stp.rd (Rdo.move rfl) rfl ?_)
        refine WpL.want rfl rfl rfl (Stp.rd (Rdo.move rfl) rfl ?_)
        refine WpL.want rfl rfl rfl (Stp.rd (Rdo.move rfl) rfl ?_)
        refine WpL.want rfl rfl rfl (Stp.rd (Rdo.nilCheck rfl) rfl ?_)
        refine WpL.want rfl rfl rfl (Stp.rd (Rdo.fieldAddr0 rfl) rfl ?_)
        refine WpL.want rfl rfl rfl (Stp.rd (Rdo.indexArrE (i := 0) rfl rfl rfl (by first | omega | (simp <;> omega))) rfl ?_)
        refine WpL.want rfl rfl rfl (Stp.rd (Rdo.fieldAddr rfl) rfl ?_)
        refine WpL.want rfl rfl rfl (Stp.rd (Rdo.load rfl (Lds.next (Lds.one rfl))) rfl ?_)
        refine WpL.want rfl rfl rfl (Stp.rd (Rdo.not rfl) rfl ?_)
        refine WpL.step (Stp.rd (Rdo.pick_f rfl rfl) rfl ?_)
        refine WpL.nil ?_
        refine Thn.n ?_
        refine Wp.condL rfl (by first | rfl | assumption | (simp only [decide_eq_true_eq, decide_eq_false_iff_not, Bool.not_eq_true', Bool.not_eq_false', List.length_cons, List.length_nil]; first | assumption | omega) | (simp <;> done) | (simp <;> omega)) ?_
        refine Wp.skip ?_
        refine Thn.n ?_
        refine Wp.seq ?_
        refine Wp.region ?_
        refine WpL.step (Stp.rd (Rdo.move rfl) rfl ?_)
        refine WpL.step (Stp.rd (Rdo.move rfl) rfl ?_)
        refine WpL.step (Stp.rd (Rdo.nilCheck rfl) rfl ?_)
        refine WpL.step (Stp.rd (Rdo.fieldAddr0 rfl) rfl ?_)
        refine WpL.step (Stp.rd (Rdo.indexArrE (i := 0) rfl rfl rfl (by first | omega | (simp <;> omega))) rfl ?_)
        refine WpL.step (Stp.rd (Rdo.load rfl (Lds.next (Lds.cut rfl (by first | rfl | assumption | (simp <;> done))))) rfl ?_)
        (refine WpL.step (Stp.alloc rfl ?_); intro nb46)
        refine WpL.step (Stp.storeV rfl rfl (VC.ag _) (by first | rfl | assumption | (simp <;> done)) (by repeat (first | (apply Sts.all; (focus (first | rfl | assumption | (simp <;> done))); (focus (first | exact oneCells1 rfl | assumption | exact oneCells1 (by assumption) | ((repeat (first | assumption | exact oneCells_nil | exact oneCells_bytesC _ | (apply oneCells_cons; (focus (first | rfl | assumption))) | apply oneCells_append)); done) | (simp [oneCells, Value.oneCell'] <;> done)))) | (apply Sts.lp (by repeat (first | exact LPut.nil _ | apply LPut.here | apply LPut.next)); (focus (first | exact oneCells1 rfl | assumption | exact oneCells1 (by assumption) | ((repeat (first | assumption | exact oneCells_nil | exact oneCells_bytesC _ | (apply oneCells_cons; (focus (first | rfl | assumption))) | apply oneCells_append)); done) | (simp [oneCells, Value.oneCell'] <;> done)))) | (refine Sts.row1 (by first | assumption | omega | (simp <;> omega)) (by first | rfl | assumption)) | (refine Sts.rowP (by assumption) (by first | rfl | assumption | (simp <;> done)) (by rfl) (by (first | exact oneCells1 rfl | assumption | exact oneCells1 (by assumption) | ((repeat (first | assumption | exact oneCells_nil | exact oneCells_bytesC _ | (apply oneCells_cons; (focus (first | rfl | assumption))) | apply oneCells_append)); done) | (simp [oneCells, Value.oneCell'] <;> done)))) | apply Sts.next)) ?_)
        refine WpL.nil ?_
        refine Thn.n ?_
        refine Wp.seq ?_
        refine Wp.block ?_
        refine Wp.seq ?_
        refine Wp.region ?_
        refine WpL.step (Stp.rd (Rdo.fieldAddr0 rfl) rfl ?_)
        refine WpL.step (Stp.rd (Rdo.load rfl (Lds.one rfl)) rfl ?_)
        refine WpL.step (Stp.rd (Rdo.assign rfl) rfl ?_)
        refine WpL.nil ?_
        refine Thn.n ?_
        refine Wp.condK rfl (by first | rfl | assumption | (simp only [decide_eq_true_eq, decide_eq_false_iff_not, Bool.not_eq_true', Bool.not_eq_false', List.length_cons, List.length_nil]; first | assumption | omega) | (simp <;> done) | (simp <;> omega)) ?_
        refine Wp.seq ?_
        refine Wp.region ?_
        refine WpL.step (Stp.rd (Rdo.fieldAddr0 rfl) rfl ?_)
        refine WpL.step (Stp.rd (Rdo.load rfl (Lds.cut rfl (by first | rfl | assumption | (simp <;> done)))) rfl ?_)
        refine WpL.step (Stp.storeV rfl rfl (VC.ag _) (by first | rfl | assumption | (simp <;> done)) (by repeat (first | (apply Sts.all; (focus (first | rfl | assumption | (simp <;> done))); (focus (first | exact oneCells1 rfl | assumption | exact oneCells1 (by assumption) | ((repeat (first | assumption | exact oneCells_nil | exact oneCells_bytesC _ | (apply oneCells_cons; (focus (first | rfl | assumption))) | apply oneCells_append)); done) | (simp [oneCells, Value.oneCell'] <;> done)))) | (apply Sts.lp (by repeat (first | exact LPut.nil _ | apply LPut.here | apply LPut.next)); (focus (first | exact oneCells1 rfl | assumption | exact oneCells1 (by assumption) | ((repeat (first | assumption | exact oneCells_nil | exact oneCells_bytesC _ | (apply oneCells_cons; (focus (first | rfl | assumption))) | apply oneCells_append)); done) | (simp [oneCells, Value.oneCell'] <;> done)))) | (refine Sts.row1 (by first | assumption | omega | (simp <;> omega)) (by first | rfl | assumption)) | (refine Sts.rowP (by assumption) (by first | rfl | assumption | (simp <;> done)) (by rfl) (by (first | exact oneCells1 rfl | assumption | exact oneCells1 (by assumption) | ((repeat (first | assumption | exact oneCells_nil | exact oneCells_bytesC _ | (apply oneCells_cons; (focus (first | rfl | assumption))) | apply oneCells_append)); done) | (simp [oneCells, Value.oneCell'] <;> done)))) | apply Sts.next)) ?_)
        refine WpL.step (Stp.rd (Rdo.assign rfl) rfl ?_)
        refine WpL.nil ?_
        refine Thn.n ?_
        refine Wp.ret ?_
        refine Blk.r ?_
        refine Thn.r ?_
        refine Ret.now (ResV.cell rfl (by repeat (first | exact Lds.one rfl | (apply Lds.all; (first | rfl | assumption | (simp <;> fail))) | exact Lds.ione0 | exact Lds.ione rfl | (apply Lds.iall; (first | rfl | assumption | (simp <;> fail))) | apply Lds.next)) (ResV.tmp rfl ResV.nil)) ?_ ⟨_, ⟨rfl, rfl⟩⟩
        exact Gh.trans (Gh.tk (by repeat (first | exact Tk.nil | apply Tk.cons (by repeat (first | exact Pk.here | apply Pk.next))))) (Gh.trans (simA_shut (l := [fz (fun g => RdBytes g (.slice a0 x0.r.value.length c0) x0.r.value), fz (fun g => RdBytes g (.slice av value.length cv) value)]) (b := b) (c := c) (x0, x1, x2, x3) (vals4 (x0, x1, x2, x3) a0 c0 a1 c1 a2 c2 a3 c3) hs) (Gh.tk (by repeat (first | exact Tk.nil | apply Tk.cons (by repeat (first | exact Pk.here | apply Pk.next))))))
      | none =>
        rw [hpo] at hxo
        have hxo' : x0.out = false := hxo
        simp only
        by_cases hlong : 200 < value.length
        · rw [if_pos hlong]
          have hlong' : (200 : Int) < value.length := by omega
          refine Trip.of_body Tryd.func35 rfl Tryd.ntmps35 Tryd.results35 rfl ?_
          refine Wp.seq ?_
          refine Wp.region ?_
          (refine WpL.step (Stp.alloc rfl ?_); intro nb2)
          refine WpL.step (Stp.rd (Rdo.assign rfl) rfl ?_)
          refine WpL.nil ?_
          refine Thn.n ?_
          refine Wp.seq ?_
          refine Wp.seq ?_
          refine Wp.region ?_
          refine WpL.step (Stp.rd (Rdo.move rfl) rfl ?_)
          refine WpL.step (Stp.rd (Rdo.nilCheck rfl) rfl ?_)
          refine WpL.step (Stp.rd (Rdo.fieldAddr0 rfl) rfl ?_)
          refine WpL.step (Stp.rd (Rdo.load rfl (Lds.next (Lds.one rfl))) rfl ?_)
          refine WpL.step (Stp.rd (Rdo.not rfl) rfl ?_)
          refine WpL.step (Stp.rd (Rdo.move rfl) rfl ?_)
          refine WpL.gF rfl rfl (by first | rfl | assumption | (simp only [decide_eq_true_eq, decide_eq_false_iff_not, Bool.not_eq_true', Bool.not_eq_false', List.length_cons, List.length_nil]; first | assumption | omega) | (simp <;> done) | (simp <;> omega)) ?_
          refine WpL.want rfl rfl rfl (Stp.rd (Rdo.move rfl) rfl ?_)
          refine WpL.want rfl rfl rfl (Stp.rd (Rdo.lti rfl rfl) rfl ?_)
          refine WpL.step (Stp.rd (Rdo.pick_f rfl rfl) rfl ?_)
          refine WpL.step (Stp.rd (Rdo.move rfl) rfl ?_)
          refine WpL.want rfl rfl rfl (Stp.rd (Rdo.move rfl) rfl ?_)
          refine WpL.want rfl rfl rfl (Stp.rd (Rdo.gti rfl rfl) rfl ?_)
          refine WpL.step (Stp.rd (Rdo.pick_f rfl rfl) rfl ?_)
          refine WpL.step (Stp.rd (Rdo.move rfl) rfl ?_)
          refine WpL.want rfl rfl rfl (Stp.rd (Rdo.move rfl) rfl ?_)
          refine WpL.want rfl rfl rfl (Stp.rd (Rdo.move rfl) rfl ?_)
          refine WpL.want rfl rfl rfl (Stp.rd (Rdo.nilCheck rfl) rfl ?_)
          refine WpL.want rfl rfl rfl (Stp.rd (Rdo.fieldAddr0 rfl) rfl ?_)
          refine WpL.want rfl rfl rfl (Stp.rd (Rdo.indexArrE (i := 0) rfl rfl rfl (by first | omega | (simp <;> omega))) rfl ?_)
          refine WpL.want rfl rfl rfl (Stp.rd (Rdo.fieldAddr rfl) rfl ?_)
          refine WpL.want rfl rfl rfl (Stp.rd (Rdo.load rfl (Lds.next (Lds.one rfl))) rfl ?_)
          refine WpL.want rfl rfl rfl (Stp.rd (Rdo.not rfl) rfl ?_)
          refine WpL.step (Stp.rd (Rdo.pick_f rfl rfl) rfl ?_)
          refine WpL.nil ?_
          refine Thn.n ?_
          refine Wp.condL rfl (by first | rfl | assumption | (simp only [decide_eq_true_eq, decide_eq_false_iff_not, Bool.not_eq_true', Bool.not_eq_false', List.length_cons, List.length_nil]; first | assumption | omega) | (simp <;> done) | (simp <;> omega)) ?_
          refine Wp.skip ?_
          refine Thn.n ?_
          refine Wp.seq ?_
          refine Wp.region ?_
          refine WpL.step (Stp.rd (Rdo.move rfl) rfl ?_)
          refine WpL.step (Stp.rd (Rdo.move rfl) rfl ?_)
          refine WpL.step (Stp.rd (Rdo.nilCheck rfl) rfl ?_)
          refine WpL.step (Stp.rd (Rdo.fieldAddr0 rfl) rfl ?_)
          refine WpL.step (Stp.rd (Rdo.indexArrE (i := 0) rfl rfl rfl (by first | omega | (simp <;> omega))) rfl ?_)
          refine WpL.step (Stp.rd (Rdo.load rfl (Lds.next (Lds.cut rfl (by first | rfl | assumption | (simp <;> done))))) rfl ?_)
          (refine WpL.step (Stp.alloc rfl ?_); intro nb46)
          refine WpL.step (Stp.storeV rfl rfl (VC.ag _) (by first | rfl | assumption | (simp <;> done)) (by repeat (first | (apply Sts.all; (focus (first | rfl | assumption | (simp <;> done))); (focus (first | exact oneCells1 rfl | assumption | exact oneCells1 (by assumption) | ((repeat (first | assumption | exact oneCells_nil | exact oneCells_bytesC _ | (apply oneCells_cons; (focus (first | rfl | assumption))) | apply oneCells_append)); done) | (simp [oneCells, Value.oneCell'] <;> done)))) | (apply Sts.lp (by repeat (first | exact LPut.nil _ | apply LPut.here | apply LPut.next)); (focus (first | exact oneCells1 rfl | assumption | exact oneCells1 (by assumption) | ((repeat (first | assumption | exact oneCells_nil | exact oneCells_bytesC _ | (apply oneCells_cons; (focus (first | rfl | assumption))) | apply oneCells_append)); done) | (simp [oneCells, Value.oneCell'] <;> done)))) | (refine Sts.row1 (by first | assumption | omega | (simp <;> omega)) (by first | rfl | assumption)) | (refine Sts.rowP (by assumption) (by first | rfl | assumption | (simp <;> done)) (by rfl) (by (first | exact oneCells1 rfl | assumption | exact oneCells1 (by assumption) | ((repeat (first | assumption | exact oneCells_nil | exact oneCells_bytesC _ | (apply oneCells_cons; (focus (first | rfl | assumption))) | apply oneCells_append)); done) | (simp [oneCells, Value.oneCell'] <;> done)))) | apply Sts.next)) ?_)
          refine WpL.nil ?_
          refine Thn.n ?_
          refine Wp.seq ?_
          refine Wp.block ?_
          refine Wp.seq ?_
          refine Wp.region ?_
          refine WpL.step (Stp.rd (Rdo.fieldAddr0 rfl) rfl ?_)
          refine WpL.step (Stp.rd (Rdo.load rfl (Lds.one rfl)) rfl ?_)
          refine WpL.step (Stp.rd (Rdo.assign rfl) rfl ?_)
          refine WpL.nil ?_
          refine Thn.n ?_
          refine Wp.condL rfl (by first | rfl | assumption | (simp only [decide_eq_true_eq, decide_eq_false_iff_not, Bool.not_eq_true', Bool.not_eq_false', List.length_cons, List.length_nil]; first | assumption | omega) | (simp <;> done) | (simp <;> omega)) ?_
          refine Wp.seq ?_
          refine Wp.region ?_
          refine WpL.step (Stp.rd (Rdo.move rfl) rfl ?_)
          refine WpL.step (Stp.rd (Rdo.lenSlice rfl) rfl ?_)
          refine WpL.step (Stp.rd (Rdo.gti rfl rfl) rfl ?_)
          refine WpL.step (Stp.rd (Rdo.assign rfl) rfl ?_)
          refine WpL.nil ?_
          refine Thn.n ?_
          refine Wp.condK rfl (by first | rfl | assumption | (simp only [decide_eq_true_eq, decide_eq_false_iff_not, Bool.not_eq_true', Bool.not_eq_false', List.length_cons, List.length_nil]; first | assumption | omega) | (simp <;> done) | (simp <;> omega)) ?_
          refine Wp.seq ?_
          refine Wp.region ?_
          refine WpL.step (Stp.rd (Rdo.bld rfl (BldL.nil _)) rfl ?_)
          refine WpL.step (Stp.storeV rfl rfl (VC.ag _) (by first | rfl | assumption | (simp <;> done)) (by repeat (first | (apply Sts.all; (focus (first | rfl | assumption | (simp <;> done))); (focus (first | exact oneCells1 rfl | assumption | exact oneCells1 (by assumption) | ((repeat (first | assumption | exact oneCells_nil | exact oneCells_bytesC _ | (apply oneCells_cons; (focus (first | rfl | assumption))) | apply oneCells_append)); done) | (simp [oneCells, Value.oneCell'] <;> done)))) | (apply Sts.lp (by repeat (first | exact LPut.nil _ | apply LPut.here | apply LPut.next)); (focus (first | exact oneCells1 rfl | assumption | exact oneCells1 (by assumption) | ((repeat (first | assumption | exact oneCells_nil | exact oneCells_bytesC _ | (apply oneCells_cons; (focus (first | rfl | assumption))) | apply oneCells_append)); done) | (simp [oneCells, Value.oneCell'] <;> done)))) | (refine Sts.row1 (by first | assumption | omega | (simp <;> omega)) (by first | rfl | assumption)) | (refine Sts.rowP (by assumption) (by first | rfl | assumption | (simp <;> done)) (by rfl) (by (first | exact oneCells1 rfl | assumption | exact oneCells1 (by assumption) | ((repeat (first | assumption | exact oneCells_nil | exact oneCells_bytesC _ | (apply oneCells_cons; (focus (first | rfl | assumption))) | apply oneCells_append)); done) | (simp [oneCells, Value.oneCell'] <;> done)))) | apply Sts.next)) ?_)
          refine WpL.step (Stp.rd (Rdo.assign rfl) rfl ?_)
          refine WpL.nil ?_
          refine Thn.n ?_
          refine Wp.ret ?_
          refine Blk.r ?_
          refine Thn.r ?_
          refine Ret.now (ResV.cell rfl (by repeat (first | exact Lds.one rfl | (apply Lds.all; (first | rfl | assumption | (simp <;> fail))) | exact Lds.ione0 | exact Lds.ione rfl | (apply Lds.iall; (first | rfl | assumption | (simp <;> fail))) | apply Lds.next)) (ResV.tmp rfl ResV.nil)) ?_ ⟨_, ⟨rfl, rfl⟩⟩
          exact Gh.trans (Gh.noBytes (a := none) (c := 0)) (Gh.trans (Gh.tk (by repeat (first | exact Tk.nil | apply Tk.cons (by repeat (first | exact Pk.here | apply Pk.next))))) (Gh.trans (simA_shut (l := [fz (fun g => RdBytes g (.slice none 0 0) []), fz (fun g => RdBytes g (.slice av value.length cv) value)]) (b := b) (c := c) (x0, x1, x2, x3) (vals4 (x0, x1, x2, x3) a0 c0 a1 c1 a2 c2 a3 c3) hs) (Gh.tk (by repeat (first | exact Tk.nil | apply Tk.cons (by repeat (first | exact Pk.here | apply Pk.next)))))))
        rw [if_neg hlong]
        have hlong' : ¬ (200 : Int) < value.length := by omega
        by_cases hmx : p0.next > 1048576
        · rw [if_pos hmx]
          refine Trip.of_body Tryd.func35 rfl Tryd.ntmps35 Tryd.results35 rfl ?_
          refine Wp.seq ?_
          refine Wp.region ?_
          (refine WpL.step (Stp.alloc rfl ?_); intro nb2)
          refine WpL.step (Stp.rd (Rdo.assign rfl) rfl ?_)
          refine WpL.nil ?_
          refine Thn.n ?_
          refine Wp.seq ?_
          refine Wp.seq ?_
          refine Wp.region ?_
          refine WpL.step (Stp.rd (Rdo.move rfl) rfl ?_)
          refine WpL.step (Stp.rd (Rdo.nilCheck rfl) rfl ?_)
          refine WpL.step (Stp.rd (Rdo.fieldAddr0 rfl) rfl ?_)
          refine WpL.step (Stp.rd (Rdo.load rfl (Lds.next (Lds.one rfl))) rfl ?_)
          refine WpL.step (Stp.rd (Rdo.not rfl) rfl ?_)
          refine WpL.step (Stp.rd (Rdo.move rfl) rfl ?_)
          refine WpL.gF rfl rfl (by first | rfl | assumption | (simp only [decide_eq_true_eq, decide_eq_false_iff_not, Bool.not_eq_true', Bool.not_eq_false', List.length_cons, List.length_nil]; first | assumption | omega) | (simp <;> done) | (simp <;> omega)) ?_
          refine WpL.want rfl rfl rfl (Stp.rd (Rdo.move rfl) rfl ?_)
          refine WpL.want rfl rfl rfl (Stp.rd (Rdo.lti rfl rfl) rfl ?_)
          refine WpL.step (Stp.rd (Rdo.pick_f rfl rfl) rfl ?_)
          refine WpL.step (Stp.rd (Rdo.move rfl) rfl ?_)
          refine WpL.want rfl rfl rfl (Stp.rd (Rdo.move rfl) rfl ?_)
          refine WpL.want rfl rfl rfl (Stp.rd (Rdo.gti rfl rfl) rfl ?_)
          refine WpL.step (Stp.rd (Rdo.pick_f rfl rfl) rfl ?_)
          refine WpL.step (Stp.rd (Rdo.move rfl) rfl ?_)
          refine WpL.want rfl rfl rfl (Stp.rd (Rdo.move rfl) rfl ?_)
          refine WpL.want rfl rfl rfl (Stp.rd (Rdo.move rfl) rfl ?_)
          refine WpL.want rfl rfl rfl (Stp.rd (Rdo.nilCheck rfl) rfl ?_)
          refine WpL.want rfl rfl rfl (Stp.rd (Rdo.fieldAddr0 rfl) rfl ?_)
          refine WpL.want rfl rfl rfl (Stp.rd (Rdo.indexArrE (i := 0) rfl rfl rfl (by first | omega | (simp <;> omega))) rfl ?_)
          refine WpL.want rfl rfl rfl (Stp.rd (Rdo.fieldAddr rfl) rfl ?_)
          refine WpL.want rfl rfl rfl (Stp.rd (Rdo.load rfl (Lds.next (Lds.one rfl))) rfl ?_)
          refine WpL.want rfl rfl rfl (Stp.rd (Rdo.not rfl) rfl ?_)
          refine WpL.step (Stp.rd (Rdo.pick_f rfl rfl) rfl ?_)
          refine WpL.nil ?_
          refine Thn.n ?_
          refine Wp.condL rfl (by first | rfl | assumption | (simp only [decide_eq_true_eq, decide_eq_false_iff_not, Bool.not_eq_true', Bool.not_eq_false', List.length_cons, List.length_nil]; first | assumption | omega) | (simp <;> done) | (simp <;> omega)) ?_
          refine Wp.skip ?_
          refine Thn.n ?_
          refine Wp.seq ?_
          refine Wp.region ?_
          refine WpL.step (Stp.rd (Rdo.move rfl) rfl ?_)
          refine WpL.step (Stp.rd (Rdo.move rfl) rfl ?_)
          refine WpL.step (Stp.rd (Rdo.nilCheck rfl) rfl ?_)
          refine WpL.step (Stp.rd (Rdo.fieldAddr0 rfl) rfl ?_)
          refine WpL.step (Stp.rd (Rdo.indexArrE (i := 0) rfl rfl rfl (by first | omega | (simp <;> omega))) rfl ?_)
          refine WpL.step (Stp.rd (Rdo.load rfl (Lds.next (Lds.cut rfl (by first | rfl | assumption | (simp <;> done))))) rfl ?_)
          (refine WpL.step (Stp.alloc rfl ?_); intro nb46)
          refine WpL.step (Stp.storeV rfl rfl (VC.ag _) (by first | rfl | assumption | (simp <;> done)) (by repeat (first | (apply Sts.all; (focus (first | rfl | assumption | (simp <;> done))); (focus (first | exact oneCells1 rfl | assumption | exact oneCells1 (by assumption) | ((repeat (first | assumption | exact oneCells_nil | exact oneCells_bytesC _ | (apply oneCells_cons; (focus (first | rfl | assumption))) | apply oneCells_append)); done) | (simp [oneCells, Value.oneCell'] <;> done)))) | (apply Sts.lp (by repeat (first | exact LPut.nil _ | apply LPut.here | apply LPut.next)); (focus (first | exact oneCells1 rfl | assumption | exact oneCells1 (by assumption) | ((repeat (first | assumption | exact oneCells_nil | exact oneCells_bytesC _ | (apply oneCells_cons; (focus (first | rfl | assumption))) | apply oneCells_append)); done) | (simp [oneCells, Value.oneCell'] <;> done)))) | (refine Sts.row1 (by first | assumption | omega | (simp <;> omega)) (by first | rfl | assumption)) | (refine Sts.rowP (by assumption) (by first | rfl | assumption | (simp <;> done)) (by rfl) (by (first | exact oneCells1 rfl | assumption | exact oneCells1 (by assumption) | ((repeat (first | assumption | exact oneCells_nil | exact oneCells_bytesC _ | (apply oneCells_cons; (focus (first | rfl | assumption))) | apply oneCells_append)); done) | (simp [oneCells, Value.oneCell'] <;> done)))) | apply Sts.next)) ?_)
          refine WpL.nil ?_
          refine Thn.n ?_
          refine Wp.seq ?_
          refine Wp.block ?_
          refine Wp.seq ?_
          refine Wp.region ?_
          refine WpL.step (Stp.rd (Rdo.fieldAddr0 rfl) rfl ?_)
          refine WpL.step (Stp.rd (Rdo.load rfl (Lds.one rfl)) rfl ?_)
          refine WpL.step (Stp.rd (Rdo.assign rfl) rfl ?_)
          refine WpL.nil ?_
          refine Thn.n ?_
          refine Wp.condL rfl (by first | rfl | assumption | (simp only [decide_eq_true_eq, decide_eq_false_iff_not, Bool.not_eq_true', Bool.not_eq_false', List.length_cons, List.length_nil]; first | assumption | omega) | (simp <;> done) | (simp <;> omega)) ?_
          refine Wp.seq ?_
          refine Wp.region ?_
          refine WpL.step (Stp.rd (Rdo.move rfl) rfl ?_)
          refine WpL.step (Stp.rd (Rdo.lenSlice rfl) rfl ?_)
          refine WpL.step (Stp.rd (Rdo.gti rfl rfl) rfl ?_)
          refine WpL.step (Stp.rd (Rdo.assign rfl) rfl ?_)
          refine WpL.nil ?_
          refine Thn.n ?_
          refine Wp.condL rfl (by first | rfl | assumption | (simp only [decide_eq_true_eq, decide_eq_false_iff_not, Bool.not_eq_true', Bool.not_eq_false', List.length_cons, List.length_nil]; first | assumption | omega) | (simp <;> done) | (simp <;> omega)) ?_
          refine Wp.seq ?_
          refine Wp.region ?_
          refine WpL.step (Stp.rd (Rdo.fieldAddr0 rfl) rfl ?_)
          refine WpL.step (Stp.rd (Rdo.load rfl (Lds.one rfl)) rfl ?_)
          refine WpL.step (Stp.rd (Rdo.gti rfl rfl) rfl ?_)
          refine WpL.step (Stp.rd (Rdo.assign rfl) rfl ?_)
          refine WpL.nil ?_
          refine Thn.n ?_
          refine Wp.condK rfl (by first | rfl | assumption | (simp only [decide_eq_true_eq, decide_eq_false_iff_not, Bool.not_eq_true', Bool.not_eq_false', List.length_cons, List.length_nil]; first | assumption | omega) | (simp <;> done) | (simp <;> omega)) ?_
          refine Wp.seq ?_
          refine Wp.region ?_
          refine WpL.step (Stp.rd (Rdo.bld rfl (BldL.nil _)) rfl ?_)
          refine WpL.step (Stp.storeV rfl rfl (VC.ag _) (by first | rfl | assumption | (simp <;> done)) (by repeat (first | (apply Sts.all; (focus (first | rfl | assumption | (simp <;> done))); (focus (first | exact oneCells1 rfl | assumption | exact oneCells1 (by assumption) | ((repeat (first | assumption | exact oneCells_nil | exact oneCells_bytesC _ | (apply oneCells_cons; (focus (first | rfl | assumption))) | apply oneCells_append)); done) | (simp [oneCells, Value.oneCell'] <;> done)))) | (apply Sts.lp (by repeat (first | exact LPut.nil _ | apply LPut.here | apply LPut.next)); (focus (first | exact oneCells1 rfl | assumption | exact oneCells1 (by assumption) | ((repeat (first | assumption | exact oneCells_nil | exact oneCells_bytesC _ | (apply oneCells_cons; (focus (first | rfl | assumption))) | apply oneCells_append)); done) | (simp [oneCells, Value.oneCell'] <;> done)))) | (refine Sts.row1 (by first | assumption | omega | (simp <;> omega)) (by first | rfl | assumption)) | (refine Sts.rowP (by assumption) (by first | rfl | assumption | (simp <;> done)) (by rfl) (by (first | exact oneCells1 rfl | assumption | exact oneCells1 (by assumption) | ((repeat (first | assumption | exact oneCells_nil | exact oneCells_bytesC _ | (apply oneCells_cons; (focus (first | rfl | assumption))) | apply oneCells_append)); done) | (simp [oneCells, Value.oneCell'] <;> done)))) | apply Sts.next)) ?_)
          refine WpL.step (Stp.rd (Rdo.assign rfl) rfl ?_)
          refine WpL.nil ?_
          refine Thn.n ?_
          refine Wp.ret ?_
          refine Blk.r ?_
          refine Thn.r ?_
          refine Ret.now (ResV.cell rfl (by repeat (first | exact Lds.one rfl | (apply Lds.all; (first | rfl | assumption | (simp <;> fail))) | exact Lds.ione0 | exact Lds.ione rfl | (apply Lds.iall; (first | rfl | assumption | (simp <;> fail))) | apply Lds.next)) (ResV.tmp rfl ResV.nil)) ?_ ⟨_, ⟨rfl, rfl⟩⟩
          exact Gh.trans (Gh.noBytes (a := none) (c := 0)) (Gh.trans (Gh.tk (by repeat (first | exact Tk.nil | apply Tk.cons (by repeat (first | exact Pk.here | apply Pk.next))))) (Gh.trans (simA_shut (l := [fz (fun g => RdBytes g (.slice none 0 0) []), fz (fun g => RdBytes g (.slice av value.length cv) value)]) (b := b) (c := c) (x0, x1, x2, x3) (vals4 (x0, x1, x2, x3) a0 c0 a1 c1 a2 c2 a3 c3) hs) (Gh.tk (by repeat (first | exact Tk.nil | apply Tk.cons (by repeat (first | exact Pk.here | apply Pk.next)))))))
        · rw [if_neg hmx]
          rw [← hxn]
          rw [← hxn] at hmx hnb
          have hs2 : Sim { c with parts := c.parts.set (Int.toNat 0) { p0 with next := x0.next + 1, out := some ⟨c.producer, c.epoch, c.last, x0.next, value⟩ } } ({ x0 with next := x0.next + 1, out := true, r := ⟨c.producer, c.epoch, c.last, x0.next, value⟩ }, x1, x2, x3) := ⟨{ p0 with next := x0.next + 1, out := some ⟨c.producer, c.epoch, c.last, x0.next, value⟩ }, p1, p2, p3, by rw [hp]; rfl, g0.rec_ rfl rfl (by rw [hxn]), g1.pres rfl rfl, g2.pres rfl rfl, g3.pres rfl rfl⟩
          refine Trip.of_body Tryd.func35 rfl Tryd.ntmps35 Tryd.results35 rfl ?_
          refine Wp.seq ?_
          refine Wp.region ?_
          (refine WpL.step (Stp.alloc rfl ?_); intro nb2)
          refine WpL.step (Stp.rd (Rdo.assign rfl) rfl ?_)
          refine WpL.nil ?_
          refine Thn.n ?_
          refine Wp.seq ?_
          refine Wp.seq ?_
          refine Wp.region ?_
          refine WpL.step (Stp.rd (Rdo.move rfl) rfl ?_)
          refine WpL.step (Stp.rd (Rdo.nilCheck rfl) rfl ?_)
          refine WpL.step (Stp.rd (Rdo.fieldAddr0 rfl) rfl ?_)
          refine WpL.step (Stp.rd (Rdo.load rfl (Lds.next (Lds.one rfl))) rfl ?_)
          refine WpL.step (Stp.rd (Rdo.not rfl) rfl ?_)
          refine WpL.step (Stp.rd (Rdo.move rfl) rfl ?_)
          refine WpL.gF rfl rfl (by first | rfl | assumption | (simp only [decide_eq_true_eq, decide_eq_false_iff_not, Bool.not_eq_true', Bool.not_eq_false', List.length_cons, List.length_nil]; first | assumption | omega) | (simp <;> done) | (simp <;> omega)) ?_
          refine WpL.want rfl rfl rfl (Stp.rd (Rdo.move rfl) rfl ?_)
          refine WpL.want rfl rfl rfl (Stp.rd (Rdo.lti rfl rfl) rfl ?_)
          refine WpL.step (Stp.rd (Rdo.pick_f rfl rfl) rfl ?_)
          refine WpL.step (Stp.rd (Rdo.move rfl) rfl ?_)
          refine WpL.want rfl rfl rfl (Stp.rd (Rdo.move rfl) rfl ?_)
          refine WpL.want rfl rfl rfl (Stp.rd (Rdo.gti rfl rfl) rfl ?_)
          refine WpL.step (Stp.rd (Rdo.pick_f rfl rfl) rfl ?_)
          refine WpL.step (Stp.rd (Rdo.move rfl) rfl ?_)
          refine WpL.want rfl rfl rfl (Stp.rd (Rdo.move rfl) rfl ?_)
          refine WpL.want rfl rfl rfl (Stp.rd (Rdo.move rfl) rfl ?_)
          refine WpL.want rfl rfl rfl (Stp.rd (Rdo.nilCheck rfl) rfl ?_)
          refine WpL.want rfl rfl rfl (Stp.rd (Rdo.fieldAddr0 rfl) rfl ?_)
          refine WpL.want rfl rfl rfl (Stp.rd (Rdo.indexArrE (i := 0) rfl rfl rfl (by first | omega | (simp <;> omega))) rfl ?_)
          refine WpL.want rfl rfl rfl (Stp.rd (Rdo.fieldAddr rfl) rfl ?_)
          refine WpL.want rfl rfl rfl (Stp.rd (Rdo.load rfl (Lds.next (Lds.one rfl))) rfl ?_)
          refine WpL.want rfl rfl rfl (Stp.rd (Rdo.not rfl) rfl ?_)
          refine WpL.step (Stp.rd (Rdo.pick_f rfl rfl) rfl ?_)
          refine WpL.nil ?_
          refine Thn.n ?_
          refine Wp.condL rfl (by first | rfl | assumption | (simp only [decide_eq_true_eq, decide_eq_false_iff_not, Bool.not_eq_true', Bool.not_eq_false', List.length_cons, List.length_nil]; first | assumption | omega) | (simp <;> done) | (simp <;> omega)) ?_
          refine Wp.skip ?_
          refine Thn.n ?_
          refine Wp.seq ?_
          refine Wp.region ?_
          refine WpL.step (Stp.rd (Rdo.move rfl) rfl ?_)
          refine WpL.step (Stp.rd (Rdo.move rfl) rfl ?_)
          refine WpL.step (Stp.rd (Rdo.nilCheck rfl) rfl ?_)
          refine WpL.step (Stp.rd (Rdo.fieldAddr0 rfl) rfl ?_)
          refine WpL.step (Stp.rd (Rdo.indexArrE (i := 0) rfl rfl rfl (by first | omega | (simp <;> omega))) rfl ?_)
          refine WpL.step (Stp.rd (Rdo.load rfl (Lds.next (Lds.cut rfl (by first | rfl | assumption | (simp <;> done))))) rfl ?_)
          (refine WpL.step (Stp.alloc rfl ?_); intro nb46)
          refine WpL.step (Stp.storeV rfl rfl (VC.ag _) (by first | rfl | assumption | (simp <;> done)) (by repeat (first | (apply Sts.all; (focus (first | rfl | assumption | (simp <;> done))); (focus (first | exact oneCells1 rfl | assumption | exact oneCells1 (by assumption) | ((repeat (first | assumption | exact oneCells_nil | exact oneCells_bytesC _ | (apply oneCells_cons; (focus (first | rfl | assumption))) | apply oneCells_append)); done) | (simp [oneCells, Value.oneCell'] <;> done)))) | (apply Sts.lp (by repeat (first | exact LPut.nil _ | apply LPut.here | apply LPut.next)); (focus (first | exact oneCells1 rfl | assumption | exact oneCells1 (by assumption) | ((repeat (first | assumption | exact oneCells_nil | exact oneCells_bytesC _ | (apply oneCells_cons; (focus (first | rfl | assumption))) | apply oneCells_append)); done) | (simp [oneCells, Value.oneCell'] <;> done)))) | (refine Sts.row1 (by first | assumption | omega | (simp <;> omega)) (by first | rfl | assumption)) | (refine Sts.rowP (by assumption) (by first | rfl | assumption | (simp <;> done)) (by rfl) (by (first | exact oneCells1 rfl | assumption | exact oneCells1 (by assumption) | ((repeat (first | assumption | exact oneCells_nil | exact oneCells_bytesC _ | (apply oneCells_cons; (focus (first | rfl | assumption))) | apply oneCells_append)); done) | (simp [oneCells, Value.oneCell'] <;> done)))) | apply Sts.next)) ?_)
          refine WpL.nil ?_
          refine Thn.n ?_
          refine Wp.seq ?_
          refine Wp.block ?_
          refine Wp.seq ?_
          refine Wp.region ?_
          refine WpL.step (Stp.rd (Rdo.fieldAddr0 rfl) rfl ?_)
          refine WpL.step (Stp.rd (Rdo.load rfl (Lds.one rfl)) rfl ?_)
          refine WpL.step (Stp.rd (Rdo.assign rfl) rfl ?_)
          refine WpL.nil ?_
          refine Thn.n ?_
          refine Wp.condL rfl (by first | rfl | assumption | (simp only [decide_eq_true_eq, decide_eq_false_iff_not, Bool.not_eq_true', Bool.not_eq_false', List.length_cons, List.length_nil]; first | assumption | omega) | (simp <;> done) | (simp <;> omega)) ?_
          refine Wp.seq ?_
          refine Wp.region ?_
          refine WpL.step (Stp.rd (Rdo.move rfl) rfl ?_)
          refine WpL.step (Stp.rd (Rdo.lenSlice rfl) rfl ?_)
          refine WpL.step (Stp.rd (Rdo.gti rfl rfl) rfl ?_)
          refine WpL.step (Stp.rd (Rdo.assign rfl) rfl ?_)
          refine WpL.nil ?_
          refine Thn.n ?_
          refine Wp.condL rfl (by first | rfl | assumption | (simp only [decide_eq_true_eq, decide_eq_false_iff_not, Bool.not_eq_true', Bool.not_eq_false', List.length_cons, List.length_nil]; first | assumption | omega) | (simp <;> done) | (simp <;> omega)) ?_
          refine Wp.seq ?_
          refine Wp.region ?_
          refine WpL.step (Stp.rd (Rdo.fieldAddr0 rfl) rfl ?_)
          refine WpL.step (Stp.rd (Rdo.load rfl (Lds.one rfl)) rfl ?_)
          refine WpL.step (Stp.rd (Rdo.gti rfl rfl) rfl ?_)
          refine WpL.step (Stp.rd (Rdo.assign rfl) rfl ?_)
          refine WpL.nil ?_
          refine Thn.n ?_
          refine Wp.condL rfl (by first | rfl | assumption | (simp only [decide_eq_true_eq, decide_eq_false_iff_not, Bool.not_eq_true', Bool.not_eq_false', List.length_cons, List.length_nil]; first | assumption | omega) | (simp <;> done) | (simp <;> omega)) ?_
          refine Wp.skip ?_
          refine Blk.n ?_
          refine Thn.n ?_
          refine Wp.seq ?_
          refine Wp.draw (by kernel_rfl) ?_
          refine WpR.take (i := 0) rfl (by kernel_rfl) (by kernel_rfl) (by kernel_rfl) (Rdo.move rfl) rfl ?_
          refine WpR.take (i := 1) rfl (by kernel_rfl) (by kernel_rfl) (by kernel_rfl) (Rdo.nilCheck rfl) rfl ?_
          refine WpR.take (i := 2) rfl (by kernel_rfl) (by kernel_rfl) (by kernel_rfl) (Rdo.fieldAddr0 rfl) rfl ?_
          refine WpR.take (i := 4) rfl (by kernel_rfl) (by kernel_rfl) (by kernel_rfl) (Rdo.move rfl) rfl ?_
          refine WpR.take (i := 5) rfl (by kernel_rfl) (by kernel_rfl) (by kernel_rfl) (Rdo.nilCheck rfl) rfl ?_
          refine WpR.take (i := 6) rfl (by kernel_rfl) (by kernel_rfl) (by kernel_rfl) (Rdo.fieldAddr0 rfl) rfl ?_
          refine WpR.take (i := 8) rfl (by kernel_rfl) (by kernel_rfl) (by kernel_rfl) (Rdo.move rfl) rfl ?_
          refine WpR.take (i := 9) rfl (by kernel_rfl) (by kernel_rfl) (by kernel_rfl) (Rdo.nilCheck rfl) rfl ?_
          refine WpR.take (i := 10) rfl (by kernel_rfl) (by kernel_rfl) (by kernel_rfl) (Rdo.fieldAddr0 rfl) rfl ?_
          refine WpR.take (i := 12) rfl (by kernel_rfl) (by kernel_rfl) (by kernel_rfl) (Rdo.fieldAddr0 rfl) rfl ?_
          refine WpR.take (i := 15) rfl (by kernel_rfl) (by kernel_rfl) (by kernel_rfl) (Rdo.move rfl) rfl ?_
          refine WpR.phaseL (m := 1) #[true, true, true, true, true, true, true, true, true, true, true, true, true, true, true, true, true, true, true, false] 8 _ rfl (by kernel_rfl) (Tk.cons Pk.here (Tk.cons (Pk.next Pk.here) Tk.nil)) ?_
          refine WpA.take (i := 3) rfl rfl (by kernel_rfl) (by kernel_rfl) (by kernel_rfl) (Rdo.load rfl (Lds.next (Lds.one rfl))) rfl ?_
          refine WpA.take (i := 7) rfl rfl (by kernel_rfl) (by kernel_rfl) (by kernel_rfl) (Rdo.load rfl (Lds.next (Lds.one rfl))) rfl ?_
          refine WpA.take (i := 11) rfl rfl (by kernel_rfl) (by kernel_rfl) (by kernel_rfl) (Rdo.load rfl (Lds.next (Lds.one rfl))) rfl ?_
          refine WpA.take (i := 13) rfl rfl (by kernel_rfl) (by kernel_rfl) (by kernel_rfl) (Rdo.load rfl (Lds.one rfl)) rfl ?_
          (refine WpA.one (i := 14) rfl (by kernel_rfl) (Stp.slice0 rfl ?_); intro nb99)
          (refine WpA.one (i := 16) rfl (by kernel_rfl) (Stp.append0P rfl rfl Pk.here (Src.next (Src.next (Src.next (Src.next (Src.next Src.frozen))))) (by first | rfl | (simp <;> done) | (simp <;> omega)) (by first | assumption | exact oneCells1 rfl | exact oneCells1 (by assumption) | exact oneCells_bytesC _ | exact oneCells_votesC _ | (simp [oneCells, Value.oneCell'] <;> done)) (by first | omega | (simp <;> omega)) (by first | omega | (simp <;> omega)) rfl (by first | rfl | (simp <;> done)) ?_); intro na100 nc100)
          refine WpA.take (i := 17) rfl rfl (by kernel_rfl) (by kernel_rfl) (by kernel_rfl) (Rdo.bld rfl (BldL.cons rfl (VC.i _ _) (by first | rfl | assumption | (simp <;> done)) (by repeat (first | exact LPut.nil _ | apply LPut.here | apply LPut.next)) (BldL.cons rfl (VC.i _ _) (by first | rfl | assumption | (simp <;> done)) (by repeat (first | exact LPut.nil _ | apply LPut.here | apply LPut.next)) (BldL.cons rfl (VC.i _ _) (by first | rfl | assumption | (simp <;> done)) (by repeat (first | exact LPut.nil _ | apply LPut.here | apply LPut.next)) (BldL.cons rfl (VC.i _ _) (by first | rfl | assumption | (simp <;> done)) (by repeat (first | exact LPut.nil _ | apply LPut.here | apply LPut.next)) (BldL.cons rfl (VC.sl _ _ _) (by first | rfl | assumption | (simp <;> done)) (by repeat (first | exact LPut.nil _ | apply LPut.here | apply LPut.next)) (BldL.nil _))))))) rfl ?_
          refine WpA.take (i := 18) rfl rfl (by kernel_rfl) (by kernel_rfl) (by kernel_rfl) (Rdo.fieldAddr0 rfl) rfl ?_
          refine WpA.stop (by kernel_rfl) ?_
          refine WpR.lst (by simp only [List.cons_append, List.nil_append]; exact rfl) ?_
          refine WpR.one (i := 19) rfl (by kernel_rfl) (Stp.storeV rfl rfl (VC.ag _) (by first | rfl | assumption | (simp <;> done)) (by repeat (first | (apply Sts.all; (focus (first | rfl | assumption | (simp <;> done))); (focus (first | exact oneCells1 rfl | assumption | exact oneCells1 (by assumption) | ((repeat (first | assumption | exact oneCells_nil | exact oneCells_bytesC _ | (apply oneCells_cons; (focus (first | rfl | assumption))) | apply oneCells_append)); done) | (simp [oneCells, Value.oneCell'] <;> done)))) | (apply Sts.lp (by repeat (first | exact LPut.nil _ | apply LPut.here | apply LPut.next)); (focus (first | exact oneCells1 rfl | assumption | exact oneCells1 (by assumption) | ((repeat (first | assumption | exact oneCells_nil | exact oneCells_bytesC _ | (apply oneCells_cons; (focus (first | rfl | assumption))) | apply oneCells_append)); done) | (simp [oneCells, Value.oneCell'] <;> done)))) | (refine Sts.row1 (by first | assumption | omega | (simp <;> omega)) (by first | rfl | assumption)) | (refine Sts.rowP (by assumption) (by first | rfl | assumption | (simp <;> done)) (by rfl) (by (first | exact oneCells1 rfl | assumption | exact oneCells1 (by assumption) | ((repeat (first | assumption | exact oneCells_nil | exact oneCells_bytesC _ | (apply oneCells_cons; (focus (first | rfl | assumption))) | apply oneCells_append)); done) | (simp [oneCells, Value.oneCell'] <;> done)))) | apply Sts.next)) ?_)
          refine WpR.done (by kernel_rfl) ?_
          refine Thn.n ?_
          refine Wp.seq ?_
          refine Wp.region ?_
          refine WpL.step (Stp.rd (Rdo.fieldAddr0 rfl) rfl ?_)
          refine WpL.step (Stp.rd (Rdo.load rfl (Lds.one rfl)) rfl ?_)
          refine WpL.step (Stp.rd (Rdo.add64 rfl rfl (by first | omega | (dsimp only; omega))) rfl ?_)
          refine WpL.step (Stp.rd (Rdo.fieldAddr0 rfl) rfl ?_)
          refine WpL.step (Stp.storeV rfl rfl (VC.i _ _) rfl (Sts.lp (by repeat (first | exact LPut.nil _ | apply LPut.here | apply LPut.next)) (oneCells1 rfl)) ?_)
          refine WpL.nil ?_
          refine Thn.n ?_
          refine Wp.seq ?_
          refine Wp.region ?_
          refine WpL.step (Stp.rd (Rdo.fieldAddr0 rfl) rfl ?_)
          refine WpL.step (Stp.storeV rfl rfl (VC.b _) rfl (Sts.lp (by repeat (first | exact LPut.nil _ | apply LPut.here | apply LPut.next)) (oneCells1 rfl)) ?_)
          refine WpL.nil ?_
          refine Thn.n ?_
          refine Wp.seq ?_
          refine Wp.draw (by kernel_rfl) ?_
          refine WpR.take (i := 0) rfl (by kernel_rfl) (by kernel_rfl) (by kernel_rfl) (Rdo.move rfl) rfl ?_
          refine WpR.take (i := 1) rfl (by kernel_rfl) (by kernel_rfl) (by kernel_rfl) (Rdo.move rfl) rfl ?_
          refine WpR.take (i := 3) rfl (by kernel_rfl) (by kernel_rfl) (by kernel_rfl) (Rdo.nilCheck rfl) rfl ?_
          refine WpR.take (i := 4) rfl (by kernel_rfl) (by kernel_rfl) (by kernel_rfl) (Rdo.fieldAddr0 rfl) rfl ?_
          refine WpR.one (i := 2) rfl (by kernel_rfl) (Stp.rd (Rdo.load rfl (by apply Lds.all; (first | rfl | assumption | (simp <;> fail)))) rfl ?_)
          refine WpR.take (i := 5) rfl (by kernel_rfl) (by kernel_rfl) (by kernel_rfl) (Rdo.indexArrE (i := 0) rfl rfl rfl (by first | omega | (simp <;> omega))) rfl ?_
          refine WpR.one (i := 6) rfl (by kernel_rfl) (Stp.storeV rfl rfl (VC.ag _) (by first | rfl | assumption | (simp <;> done)) (by repeat (first | (apply Sts.all; (focus (first | rfl | assumption | (simp <;> done))); (focus (first | exact oneCells1 rfl | assumption | exact oneCells1 (by assumption) | ((repeat (first | assumption | exact oneCells_nil | exact oneCells_bytesC _ | (apply oneCells_cons; (focus (first | rfl | assumption))) | apply oneCells_append)); done) | (simp [oneCells, Value.oneCell'] <;> done)))) | (apply Sts.lp (by repeat (first | exact LPut.nil _ | apply LPut.here | apply LPut.next)); (focus (first | exact oneCells1 rfl | assumption | exact oneCells1 (by assumption) | ((repeat (first | assumption | exact oneCells_nil | exact oneCells_bytesC _ | (apply oneCells_cons; (focus (first | rfl | assumption))) | apply oneCells_append)); done) | (simp [oneCells, Value.oneCell'] <;> done)))) | (refine Sts.row1 (by first | assumption | omega | (simp <;> omega)) (by first | rfl | assumption)) | (refine Sts.rowP (by assumption) (by first | rfl | assumption | (simp <;> done)) (by rfl) (by (first | exact oneCells1 rfl | assumption | exact oneCells1 (by assumption) | ((repeat (first | assumption | exact oneCells_nil | exact oneCells_bytesC _ | (apply oneCells_cons; (focus (first | rfl | assumption))) | apply oneCells_append)); done) | (simp [oneCells, Value.oneCell'] <;> done)))) | apply Sts.next)) ?_)
          refine WpR.done (by kernel_rfl) ?_
          refine Thn.n ?_
          refine Wp.seq ?_
          refine Wp.region ?_
          refine WpL.step (Stp.rd (Rdo.fieldAddr0 rfl) rfl ?_)
          refine WpL.step (Stp.rd (Rdo.load rfl (Lds.cut rfl (by first | rfl | assumption | (simp <;> done)))) rfl ?_)
          refine WpL.step (Stp.storeV rfl rfl (VC.ag _) (by first | rfl | assumption | (simp <;> done)) (by repeat (first | (apply Sts.all; (focus (first | rfl | assumption | (simp <;> done))); (focus (first | exact oneCells1 rfl | assumption | exact oneCells1 (by assumption) | ((repeat (first | assumption | exact oneCells_nil | exact oneCells_bytesC _ | (apply oneCells_cons; (focus (first | rfl | assumption))) | apply oneCells_append)); done) | (simp [oneCells, Value.oneCell'] <;> done)))) | (apply Sts.lp (by repeat (first | exact LPut.nil _ | apply LPut.here | apply LPut.next)); (focus (first | exact oneCells1 rfl | assumption | exact oneCells1 (by assumption) | ((repeat (first | assumption | exact oneCells_nil | exact oneCells_bytesC _ | (apply oneCells_cons; (focus (first | rfl | assumption))) | apply oneCells_append)); done) | (simp [oneCells, Value.oneCell'] <;> done)))) | (refine Sts.row1 (by first | assumption | omega | (simp <;> omega)) (by first | rfl | assumption)) | (refine Sts.rowP (by assumption) (by first | rfl | assumption | (simp <;> done)) (by rfl) (by (first | exact oneCells1 rfl | assumption | exact oneCells1 (by assumption) | ((repeat (first | assumption | exact oneCells_nil | exact oneCells_bytesC _ | (apply oneCells_cons; (focus (first | rfl | assumption))) | apply oneCells_append)); done) | (simp [oneCells, Value.oneCell'] <;> done)))) | apply Sts.next)) ?_)
          refine WpL.step (Stp.rd (Rdo.assign rfl) rfl ?_)
          refine WpL.nil ?_
          refine Thn.n ?_
          refine Wp.ret ?_
          refine Ret.now (ResV.cell rfl (by repeat (first | exact Lds.one rfl | (apply Lds.all; (first | rfl | assumption | (simp <;> fail))) | exact Lds.ione0 | exact Lds.ione rfl | (apply Lds.iall; (first | rfl | assumption | (simp <;> fail))) | apply Lds.next)) (ResV.tmp rfl ResV.nil)) ?_ ⟨_, ⟨rfl, rfl⟩⟩
          refine Gh.trans (Gh.ice (t := 5) (sz := 1) (n := value.length) (v := .slice na100 value.length nc100) (xs := bytesC value) (by repeat (first | exact Pk.here | apply Pk.next))) ?_
          refine Gh.trans (Gh.fzAlso (Φ := fun g => RdBytes g (.slice na100 value.length nc100) value) Pk.here fun g h => h) ?_
          exact Gh.trans (Gh.tk (by repeat (first | exact Tk.nil | apply Tk.cons (by repeat (first | exact Pk.here | apply Pk.next))))) (Gh.trans (simA_shut (l := [fz (fun g => RdBytes g (.slice na100 value.length nc100) value), fz (fun g => RdBytes g (.slice av value.length cv) value)]) (b := b) ({ x0 with next := x0.next + 1, out := true, r := ⟨c.producer, c.epoch, c.last, x0.next, value⟩ }, x1, x2, x3) (.slice na100 value.length nc100, .slice a1 x1.r.value.length c1, .slice a2 x2.r.value.length c2, .slice a3 x3.r.value.length c3) hs2) (Gh.tk (by repeat (first | exact Tk.nil | apply Tk.cons (by repeat (first | exact Pk.here | apply Pk.next))))))
    · rw [if_pos (.inr hb)]
      rw [decide_eq_false hb] at hbg
      refine Trip.of_body Tryd.func35 rfl Tryd.ntmps35 Tryd.results35 rfl ?_
      refine Wp.seq ?_
      refine Wp.region ?_
      (refine WpL.step (Stp.alloc rfl ?_); intro nb2)
      refine WpL.step (Stp.rd (Rdo.assign rfl) rfl ?_)
      refine WpL.nil ?_
      refine Thn.n ?_
      refine Wp.seq ?_
      refine Wp.seq ?_
      refine Wp.region ?_
      refine WpL.step (Stp.rd (Rdo.move rfl) rfl ?_)
      refine WpL.step (Stp.rd (Rdo.nilCheck rfl) rfl ?_)
      refine WpL.step (Stp.rd (Rdo.fieldAddr0 rfl) rfl ?_)
      refine WpL.step (Stp.rd (Rdo.load rfl (Lds.next (Lds.one rfl))) rfl ?_)
      refine WpL.step (Stp.rd (Rdo.not rfl) rfl ?_)
      refine WpL.step (Stp.rd (Rdo.move rfl) rfl ?_)
      refine WpL.gF rfl rfl (by first | rfl | assumption | (simp only [decide_eq_true_eq, decide_eq_false_iff_not, Bool.not_eq_true', Bool.not_eq_false', List.length_cons, List.length_nil]; first | assumption | omega) | (simp <;> done) | (simp <;> omega)) ?_
      refine WpL.want rfl rfl rfl (Stp.rd (Rdo.move rfl) rfl ?_)
      refine WpL.want rfl rfl rfl (Stp.rd (Rdo.lti rfl rfl) rfl ?_)
      refine WpL.step (Stp.rd (Rdo.pick_f rfl rfl) rfl ?_)
      refine WpL.step (Stp.rd (Rdo.move rfl) rfl ?_)
      refine WpL.want rfl rfl rfl (Stp.rd (Rdo.move rfl) rfl ?_)
      refine WpL.want rfl rfl rfl (Stp.rd (Rdo.gti rfl rfl) rfl ?_)
      refine WpL.step (Stp.rd (Rdo.pick_f rfl rfl) rfl ?_)
      refine WpL.step (Stp.rd (Rdo.move rfl) rfl ?_)
      refine WpL.want rfl rfl rfl (Stp.rd (Rdo.move rfl) rfl ?_)
      refine WpL.want rfl rfl rfl (Stp.rd (Rdo.move rfl) rfl ?_)
      refine WpL.want rfl rfl rfl (Stp.rd (Rdo.nilCheck rfl) rfl ?_)
      refine WpL.want rfl rfl rfl (Stp.rd (Rdo.fieldAddr0 rfl) rfl ?_)
      refine WpL.want rfl rfl rfl (Stp.rd (Rdo.indexArrE (i := 0) rfl rfl rfl (by first | omega | (simp <;> omega))) rfl ?_)
      refine WpL.want rfl rfl rfl (Stp.rd (Rdo.fieldAddr rfl) rfl ?_)
      refine WpL.want rfl rfl rfl (Stp.rd (Rdo.load rfl (Lds.next (Lds.one rfl))) rfl ?_)
      refine WpL.want rfl rfl rfl (Stp.rd (Rdo.not rfl) rfl ?_)
      refine WpL.step (Stp.rd (Rdo.pick_f rfl rfl) rfl ?_)
      refine WpL.nil ?_
      refine Thn.n ?_
      refine Wp.condK rfl (by first | rfl | assumption | (simp only [decide_eq_true_eq, decide_eq_false_iff_not, Bool.not_eq_true', Bool.not_eq_false', List.length_cons, List.length_nil]; first | assumption | omega) | (simp <;> done) | (simp <;> omega)) ?_
      refine Wp.seq ?_
      refine Wp.region ?_
      refine WpL.step (Stp.rd (Rdo.bld rfl (BldL.nil _)) rfl ?_)
      refine WpL.step (Stp.storeV rfl rfl (VC.ag _) (by first | rfl | assumption | (simp <;> done)) (by repeat (first | (apply Sts.all; (focus (first | rfl | assumption | (simp <;> done))); (focus (first | exact oneCells1 rfl | assumption | exact oneCells1 (by assumption) | ((repeat (first | assumption | exact oneCells_nil | exact oneCells_bytesC _ | (apply oneCells_cons; (focus (first | rfl | assumption))) | apply oneCells_append)); done) | (simp [oneCells, Value.oneCell'] <;> done)))) | (apply Sts.lp (by repeat (first | exact LPut.nil _ | apply LPut.here | apply LPut.next)); (focus (first | exact oneCells1 rfl | assumption | exact oneCells1 (by assumption) | ((repeat (first | assumption | exact oneCells_nil | exact oneCells_bytesC _ | (apply oneCells_cons; (focus (first | rfl | assumption))) | apply oneCells_append)); done) | (simp [oneCells, Value.oneCell'] <;> done)))) | (refine Sts.row1 (by first | assumption | omega | (simp <;> omega)) (by first | rfl | assumption)) | (refine Sts.rowP (by assumption) (by first | rfl | assumption | (simp <;> done)) (by rfl) (by (first | exact oneCells1 rfl | assumption | exact oneCells1 (by assumption) | ((repeat (first | assumption | exact oneCells_nil | exact oneCells_bytesC _ | (apply oneCells_cons; (focus (first | rfl | assumption))) | apply oneCells_append)); done) | (simp [oneCells, Value.oneCell'] <;> done)))) | apply Sts.next)) ?_)
      refine WpL.step (Stp.rd (Rdo.assign rfl) rfl ?_)
      refine WpL.nil ?_
      refine Thn.n ?_
      refine Wp.ret ?_
      refine Thn.r ?_
      refine Ret.now (ResV.cell rfl (by repeat (first | exact Lds.one rfl | (apply Lds.all; (first | rfl | assumption | (simp <;> fail))) | exact Lds.ione0 | exact Lds.ione rfl | (apply Lds.iall; (first | rfl | assumption | (simp <;> fail))) | apply Lds.next)) (ResV.tmp rfl ResV.nil)) ?_ ⟨_, ⟨rfl, rfl⟩⟩
      exact Gh.trans (Gh.noBytes (a := none) (c := 0)) (Gh.trans (Gh.tk (by repeat (first | exact Tk.nil | apply Tk.cons (by repeat (first | exact Pk.here | apply Pk.next))))) (Gh.trans (simA_shut (l := [fz (fun g => RdBytes g (.slice none 0 0) []), fz (fun g => RdBytes g (.slice av value.length cv) value)]) (b := b) (c := c) (x0, x1, x2, x3) (vals4 (x0, x1, x2, x3) a0 c0 a1 c1 a2 c2 a3 c3) hs) (Gh.tk (by repeat (first | exact Tk.nil | apply Tk.cons (by repeat (first | exact Pk.here | apply Pk.next)))))))
  · have hpt : c.part 1 = p1 := by unfold CliS.part; rw [hp]; rfl
    rw [hpt]
    have hbg := g1.2.2.2 ho
    have hxn := g1.1
    have hxo := g1.2.1
    have hnb := hpn p1 (by rw [hp]; simp)
    by_cases hb : p1.begun = c.last
    · rw [if_neg (by rw [ho]; simp [hb])]
      rw [decide_eq_true hb] at hbg
      cases hpo : p1.out with
      | some r =>
        rw [hpo] at hxo
        have hxo' : x1.out = true := hxo
        obtain rfl := g1.2.2.1 r hpo
        simp only
        refine Trip.gh (Gh.trans (Gh.fzAlso (Φ := fun g => RdBytes g (.slice a1 x1.r.value.length c1) x1.r.value) (by repeat (first | exact Pk.here | apply Pk.next)) fun g h => h) (Gh.tk (l' := [cel b 63 (simC c (x0, x1, x2, x3) (vals4 (x0, x1, x2, x3) a0 c0 a1 c1 a2 c2 a3 c3)), simF (.slice a0 x0.r.value.length c0) x0, simF (.slice a1 x1.r.value.length c1) x1, simF (.slice a2 x2.r.value.length c2) x2, simF (.slice a3 x3.r.value.length c3) x3, fz (fun g => RdBytes g (.slice a1 x1.r.value.length c1) x1.r.value), fz (fun g => RdBytes g (.slice av value.length cv) value)]) (by repeat (first | exact Tk.nil | apply Tk.cons (by repeat (first | exact Pk.here | apply Pk.next)))))) ?_
        refine Trip.of_body Tryd.func35 rfl Tryd.ntmps35 Tryd.results35 rfl ?_
        refine Wp.seq ?_
        refine Wp.region ?_
        (refine WpL.step (Stp.alloc rfl ?_); intro nb2)
        refine WpL.step (Stp.rd (Rdo.assign rfl) rfl ?_)
        refine WpL.nil ?_
        refine Thn.n ?_
        refine Wp.seq ?_
        refine Wp.seq ?_
        refine Wp.region ?_
        refine WpL.step (Stp.rd (Rdo.move rfl) rfl ?_)
        refine WpL.step (Stp.rd (Rdo.nilCheck rfl) rfl ?_)
        refine WpL.step (Stp.rd (Rdo.fieldAddr0 rfl) rfl ?_)
        refine WpL.step (Stp.rd (Rdo.load rfl (Lds.next (Lds.one rfl))) rfl ?_)
        refine WpL.step (Stp.rd (Rdo.not rfl) rfl ?_)
        refine WpL.step (Stp.rd (Rdo.move rfl) rfl ?_)
        refine WpL.gF rfl rfl (by first | rfl | assumption | (simp only [decide_eq_true_eq, decide_eq_false_iff_not, Bool.not_eq_true', Bool.not_eq_false', List.length_cons, List.length_nil]; first | assumption | omega) | (simp <;> done) | (simp <;> omega)) ?_
        refine WpL.want rfl rfl rfl (Stp.rd (Rdo.move rfl) rfl ?_)
        refine WpL.want rfl rfl rfl (Stp.rd (Rdo.lti rfl rfl) rfl ?_)
        refine WpL.step (Stp.rd (Rdo.pick_f rfl rfl) rfl ?_)
        refine WpL.step (Stp.rd (Rdo.move rfl) rfl ?_)
        refine WpL.want rfl rfl rfl (Stp.rd (Rdo.move rfl) rfl ?_)
        refine WpL.want rfl rfl rfl (Stp.rd (Rdo.gti rfl rfl) rfl ?_)
        refine WpL.step (Stp.rd (Rdo.pick_f rfl rfl) rfl ?_)
        refine WpL.step (Stp.rd (Rdo.move rfl) rfl ?_)
        refine WpL.want rfl rfl rfl (Stp.rd (Rdo.move rfl) rfl ?_)
        refine WpL.want rfl rfl rfl (Stp.rd (Rdo.move rfl) rfl ?_)
        refine WpL.want rfl rfl rfl (Stp.rd (Rdo.nilCheck rfl) rfl ?_)
        refine WpL.want rfl rfl rfl (Stp.rd (Rdo.fieldAddr0 rfl) rfl ?_)
        refine WpL.want rfl rfl rfl (Stp.rd (Rdo.indexArrE (i := 1) rfl rfl rfl (by first | omega | (simp <;> omega))) rfl ?_)
        refine WpL.want rfl rfl rfl (Stp.rd (Rdo.fieldAddr rfl) rfl ?_)
        refine WpL.want rfl rfl rfl (Stp.rd (Rdo.load rfl (Lds.next (Lds.one rfl))) rfl ?_)
        refine WpL.want rfl rfl rfl (Stp.rd (Rdo.not rfl) rfl ?_)
        refine WpL.step (Stp.rd (Rdo.pick_f rfl rfl) rfl ?_)
        refine WpL.nil ?_
        refine Thn.n ?_
        refine Wp.condL rfl (by first | rfl | assumption | (simp only [decide_eq_true_eq, decide_eq_false_iff_not, Bool.not_eq_true', Bool.not_eq_false', List.length_cons, List.length_nil]; first | assumption | omega) | (simp <;> done) | (simp <;> omega)) ?_
        refine Wp.skip ?_
        refine Thn.n ?_
        refine Wp.seq ?_
        refine Wp.region ?_
        refine WpL.step (Stp.rd (Rdo.move rfl) rfl ?_)
        refine WpL.step (Stp.rd (Rdo.move rfl) rfl ?_)
        refine WpL.step (Stp.rd (Rdo.nilCheck rfl) rfl ?_)
        refine WpL.step (Stp.rd (Rdo.fieldAddr0 rfl) rfl ?_)
        refine WpL.step (Stp.rd (Rdo.indexArrE (i := 1) rfl rfl rfl (by first | omega | (simp <;> omega))) rfl ?_)
        refine WpL.step (Stp.rd (Rdo.load rfl (Lds.next (Lds.cut rfl (by first | rfl | assumption | (simp <;> done))))) rfl ?_)
        (refine WpL.step (Stp.alloc rfl ?_); intro nb46)
        refine WpL.step (Stp.storeV rfl rfl (VC.ag _) (by first | rfl | assumption | (simp <;> done)) (by repeat (first | (apply Sts.all; (focus (first | rfl | assumption | (simp <;> done))); (focus (first | exact oneCells1 rfl | assumption | exact oneCells1 (by assumption) | ((repeat (first | assumption | exact oneCells_nil | exact oneCells_bytesC _ | (apply oneCells_cons; (focus (first | rfl | assumption))) | apply oneCells_append)); done) | (simp [oneCells, Value.oneCell'] <;> done)))) | (apply Sts.lp (by repeat (first | exact LPut.nil _ | apply LPut.here | apply LPut.next)); (focus (first | exact oneCells1 rfl | assumption | exact oneCells1 (by assumption) | ((repeat (first | assumption | exact oneCells_nil | exact oneCells_bytesC _ | (apply oneCells_cons; (focus (first | rfl | assumption))) | apply oneCells_append)); done) | (simp [oneCells, Value.oneCell'] <;> done)))) | (refine Sts.row1 (by first | assumption | omega | (simp <;> omega)) (by first | rfl | assumption)) | (refine Sts.rowP (by assumption) (by first | rfl | assumption | (simp <;> done)) (by rfl) (by (first | exact oneCells1 rfl | assumption | exact oneCells1 (by assumption) | ((repeat (first | assumption | exact oneCells_nil | exact oneCells_bytesC _ | (apply oneCells_cons; (focus (first | rfl | assumption))) | apply oneCells_append)); done) | (simp [oneCells, Value.oneCell'] <;> done)))) | apply Sts.next)) ?_)
        refine WpL.nil ?_
        refine Thn.n ?_
        refine Wp.seq ?_
        refine Wp.block ?_
        refine Wp.seq ?_
        refine Wp.region ?_
        refine WpL.step (Stp.rd (Rdo.fieldAddr0 rfl) rfl ?_)
        refine WpL.step (Stp.rd (Rdo.load rfl (Lds.one rfl)) rfl ?_)
        refine WpL.step (Stp.rd (Rdo.assign rfl) rfl ?_)
        refine WpL.nil ?_
        refine Thn.n ?_
        refine Wp.condK rfl (by first | rfl | assumption | (simp only [decide_eq_true_eq, decide_eq_false_iff_not, Bool.not_eq_true', Bool.not_eq_false', List.length_cons, List.length_nil]; first | assumption | omega) | (simp <;> done) | (simp <;> omega)) ?_
        refine Wp.seq ?_
        refine Wp.region ?_
        refine WpL.step (Stp.rd (Rdo.fieldAddr0 rfl) rfl ?_)
        refine WpL.step (Stp.rd (Rdo.load rfl (Lds.cut rfl (by first | rfl | assumption | (simp <;> done)))) rfl ?_)
        refine WpL.step (Stp.storeV rfl rfl (VC.ag _) (by first | rfl | assumption | (simp <;> done)) (by repeat (first | (apply Sts.all; (focus (first | rfl | assumption | (simp <;> done))); (focus (first | exact oneCells1 rfl | assumption | exact oneCells1 (by assumption) | ((repeat (first | assumption | exact oneCells_nil | exact oneCells_bytesC _ | (apply oneCells_cons; (focus (first | rfl | assumption))) | apply oneCells_append)); done) | (simp [oneCells, Value.oneCell'] <;> done)))) | (apply Sts.lp (by repeat (first | exact LPut.nil _ | apply LPut.here | apply LPut.next)); (focus (first | exact oneCells1 rfl | assumption | exact oneCells1 (by assumption) | ((repeat (first | assumption | exact oneCells_nil | exact oneCells_bytesC _ | (apply oneCells_cons; (focus (first | rfl | assumption))) | apply oneCells_append)); done) | (simp [oneCells, Value.oneCell'] <;> done)))) | (refine Sts.row1 (by first | assumption | omega | (simp <;> omega)) (by first | rfl | assumption)) | (refine Sts.rowP (by assumption) (by first | rfl | assumption | (simp <;> done)) (by rfl) (by (first | exact oneCells1 rfl | assumption | exact oneCells1 (by assumption) | ((repeat (first | assumption | exact oneCells_nil | exact oneCells_bytesC _ | (apply oneCells_cons; (focus (first | rfl | assumption))) | apply oneCells_append)); done) | (simp [oneCells, Value.oneCell'] <;> done)))) | apply Sts.next)) ?_)
        refine WpL.step (Stp.rd (Rdo.assign rfl) rfl ?_)
        refine WpL.nil ?_
        refine Thn.n ?_
        refine Wp.ret ?_
        refine Blk.r ?_
        refine Thn.r ?_
        refine Ret.now (ResV.cell rfl (by repeat (first | exact Lds.one rfl | (apply Lds.all; (first | rfl | assumption | (simp <;> fail))) | exact Lds.ione0 | exact Lds.ione rfl | (apply Lds.iall; (first | rfl | assumption | (simp <;> fail))) | apply Lds.next)) (ResV.tmp rfl ResV.nil)) ?_ ⟨_, ⟨rfl, rfl⟩⟩
        exact Gh.trans (Gh.tk (by repeat (first | exact Tk.nil | apply Tk.cons (by repeat (first | exact Pk.here | apply Pk.next))))) (Gh.trans (simA_shut (l := [fz (fun g => RdBytes g (.slice a1 x1.r.value.length c1) x1.r.value), fz (fun g => RdBytes g (.slice av value.length cv) value)]) (b := b) (c := c) (x0, x1, x2, x3) (vals4 (x0, x1, x2, x3) a0 c0 a1 c1 a2 c2 a3 c3) hs) (Gh.tk (by repeat (first | exact Tk.nil | apply Tk.cons (by repeat (first | exact Pk.here | apply Pk.next))))))
      | none =>
        rw [hpo] at hxo
        have hxo' : x1.out = false := hxo
        simp only
        by_cases hlong : 200 < value.length
        · rw [if_pos hlong]
          have hlong' : (200 : Int) < value.length := by omega
          refine Trip.of_body Tryd.func35 rfl Tryd.ntmps35 Tryd.results35 rfl ?_
          refine Wp.seq ?_
          refine Wp.region ?_
          (refine WpL.step (Stp.alloc rfl ?_); intro nb2)
          refine WpL.step (Stp.rd (Rdo.assign rfl) rfl ?_)
          refine WpL.nil ?_
          refine Thn.n ?_
          refine Wp.seq ?_
          refine Wp.seq ?_
          refine Wp.region ?_
          refine WpL.step (Stp.rd (Rdo.move rfl) rfl ?_)
          refine WpL.step (Stp.rd (Rdo.nilCheck rfl) rfl ?_)
          refine WpL.step (Stp.rd (Rdo.fieldAddr0 rfl) rfl ?_)
          refine WpL.step (Stp.rd (Rdo.load rfl (Lds.next (Lds.one rfl))) rfl ?_)
          refine WpL.step (Stp.rd (Rdo.not rfl) rfl ?_)
          refine WpL.step (Stp.rd (Rdo.move rfl) rfl ?_)
          refine WpL.gF rfl rfl (by first | rfl | assumption | (simp only [decide_eq_true_eq, decide_eq_false_iff_not, Bool.not_eq_true', Bool.not_eq_false', List.length_cons, List.length_nil]; first | assumption | omega) | (simp <;> done) | (simp <;> omega)) ?_
          refine WpL.want rfl rfl rfl (Stp.rd (Rdo.move rfl) rfl ?_)
          refine WpL.want rfl rfl rfl (Stp.rd (Rdo.lti rfl rfl) rfl ?_)
          refine WpL.step (Stp.rd (Rdo.pick_f rfl rfl) rfl ?_)
          refine WpL.step (Stp.rd (Rdo.move rfl) rfl ?_)
          refine WpL.want rfl rfl rfl (Stp.rd (Rdo.move rfl) rfl ?_)
          refine WpL.want rfl rfl rfl (Stp.rd (Rdo.gti rfl rfl) rfl ?_)
          refine WpL.step (Stp.rd (Rdo.pick_f rfl rfl) rfl ?_)
          refine WpL.step (Stp.rd (Rdo.move rfl) rfl ?_)
          refine WpL.want rfl rfl rfl (Stp.rd (Rdo.move rfl) rfl ?_)
          refine WpL.want rfl rfl rfl (Stp.rd (Rdo.move rfl) rfl ?_)
          refine WpL.want rfl rfl rfl (Stp.rd (Rdo.nilCheck rfl) rfl ?_)
          refine WpL.want rfl rfl rfl (Stp.rd (Rdo.fieldAddr0 rfl) rfl ?_)
          refine WpL.want rfl rfl rfl (Stp.rd (Rdo.indexArrE (i := 1) rfl rfl rfl (by first | omega | (simp <;> omega))) rfl ?_)
          refine WpL.want rfl rfl rfl (Stp.rd (Rdo.fieldAddr rfl) rfl ?_)
          refine WpL.want rfl rfl rfl (Stp.rd (Rdo.load rfl (Lds.next (Lds.one rfl))) rfl ?_)
          refine WpL.want rfl rfl rfl (Stp.rd (Rdo.not rfl) rfl ?_)
          refine WpL.step (Stp.rd (Rdo.pick_f rfl rfl) rfl ?_)
          refine WpL.nil ?_
          refine Thn.n ?_
          refine Wp.condL rfl (by first | rfl | assumption | (simp only [decide_eq_true_eq, decide_eq_false_iff_not, Bool.not_eq_true', Bool.not_eq_false', List.length_cons, List.length_nil]; first | assumption | omega) | (simp <;> done) | (simp <;> omega)) ?_
          refine Wp.skip ?_
          refine Thn.n ?_
          refine Wp.seq ?_
          refine Wp.region ?_
          refine WpL.step (Stp.rd (Rdo.move rfl) rfl ?_)
          refine WpL.step (Stp.rd (Rdo.move rfl) rfl ?_)
          refine WpL.step (Stp.rd (Rdo.nilCheck rfl) rfl ?_)
          refine WpL.step (Stp.rd (Rdo.fieldAddr0 rfl) rfl ?_)
          refine WpL.step (Stp.rd (Rdo.indexArrE (i := 1) rfl rfl rfl (by first | omega | (simp <;> omega))) rfl ?_)
          refine WpL.step (Stp.rd (Rdo.load rfl (Lds.next (Lds.cut rfl (by first | rfl | assumption | (simp <;> done))))) rfl ?_)
          (refine WpL.step (Stp.alloc rfl ?_); intro nb46)
          refine WpL.step (Stp.storeV rfl rfl (VC.ag _) (by first | rfl | assumption | (simp <;> done)) (by repeat (first | (apply Sts.all; (focus (first | rfl | assumption | (simp <;> done))); (focus (first | exact oneCells1 rfl | assumption | exact oneCells1 (by assumption) | ((repeat (first | assumption | exact oneCells_nil | exact oneCells_bytesC _ | (apply oneCells_cons; (focus (first | rfl | assumption))) | apply oneCells_append)); done) | (simp [oneCells, Value.oneCell'] <;> done)))) | (apply Sts.lp (by repeat (first | exact LPut.nil _ | apply LPut.here | apply LPut.next)); (focus (first | exact oneCells1 rfl | assumption | exact oneCells1 (by assumption) | ((repeat (first | assumption | exact oneCells_nil | exact oneCells_bytesC _ | (apply oneCells_cons; (focus (first | rfl | assumption))) | apply oneCells_append)); done) | (simp [oneCells, Value.oneCell'] <;> done)))) | (refine Sts.row1 (by first | assumption | omega | (simp <;> omega)) (by first | rfl | assumption)) | (refine Sts.rowP (by assumption) (by first | rfl | assumption | (simp <;> done)) (by rfl) (by (first | exact oneCells1 rfl | assumption | exact oneCells1 (by assumption) | ((repeat (first | assumption | exact oneCells_nil | exact oneCells_bytesC _ | (apply oneCells_cons; (focus (first | rfl | assumption))) | apply oneCells_append)); done) | (simp [oneCells, Value.oneCell'] <;> done)))) | apply Sts.next)) ?_)
          refine WpL.nil ?_
          refine Thn.n ?_
          refine Wp.seq ?_
          refine Wp.block ?_
          refine Wp.seq ?_
          refine Wp.region ?_
          refine WpL.step (Stp.rd (Rdo.fieldAddr0 rfl) rfl ?_)
          refine WpL.step (Stp.rd (Rdo.load rfl (Lds.one rfl)) rfl ?_)
          refine WpL.step (Stp.rd (Rdo.assign rfl) rfl ?_)
          refine WpL.nil ?_
          refine Thn.n ?_
          refine Wp.condL rfl (by first | rfl | assumption | (simp only [decide_eq_true_eq, decide_eq_false_iff_not, Bool.not_eq_true', Bool.not_eq_false', List.length_cons, List.length_nil]; first | assumption | omega) | (simp <;> done) | (simp <;> omega)) ?_
          refine Wp.seq ?_
          refine Wp.region ?_
          refine WpL.step (Stp.rd (Rdo.move rfl) rfl ?_)
          refine WpL.step (Stp.rd (Rdo.lenSlice rfl) rfl ?_)
          refine WpL.step (Stp.rd (Rdo.gti rfl rfl) rfl ?_)
          refine WpL.step (Stp.rd (Rdo.assign rfl) rfl ?_)
          refine WpL.nil ?_
          refine Thn.n ?_
          refine Wp.condK rfl (by first | rfl | assumption | (simp only [decide_eq_true_eq, decide_eq_false_iff_not, Bool.not_eq_true', Bool.not_eq_false', List.length_cons, List.length_nil]; first | assumption | omega) | (simp <;> done) | (simp <;> omega)) ?_
          refine Wp.seq ?_
          refine Wp.region ?_
          refine WpL.step (Stp.rd (Rdo.bld rfl (BldL.nil _)) rfl ?_)
          refine WpL.step (Stp.storeV rfl rfl (VC.ag _) (by first | rfl | assumption | (simp <;> done)) (by repeat (first | (apply Sts.all; (focus (first | rfl | assumption | (simp <;> done))); (focus (first | exact oneCells1 rfl | assumption | exact oneCells1 (by assumption) | ((repeat (first | assumption | exact oneCells_nil | exact oneCells_bytesC _ | (apply oneCells_cons; (focus (first | rfl | assumption))) | apply oneCells_append)); done) | (simp [oneCells, Value.oneCell'] <;> done)))) | (apply Sts.lp (by repeat (first | exact LPut.nil _ | apply LPut.here | apply LPut.next)); (focus (first | exact oneCells1 rfl | assumption | exact oneCells1 (by assumption) | ((repeat (first | assumption | exact oneCells_nil | exact oneCells_bytesC _ | (apply oneCells_cons; (focus (first | rfl | assumption))) | apply oneCells_append)); done) | (simp [oneCells, Value.oneCell'] <;> done)))) | (refine Sts.row1 (by first | assumption | omega | (simp <;> omega)) (by first | rfl | assumption)) | (refine Sts.rowP (by assumption) (by first | rfl | assumption | (simp <;> done)) (by rfl) (by (first | exact oneCells1 rfl | assumption | exact oneCells1 (by assumption) | ((repeat (first | assumption | exact oneCells_nil | exact oneCells_bytesC _ | (apply oneCells_cons; (focus (first | rfl | assumption))) | apply oneCells_append)); done) | (simp [oneCells, Value.oneCell'] <;> done)))) | apply Sts.next)) ?_)
          refine WpL.step (Stp.rd (Rdo.assign rfl) rfl ?_)
          refine WpL.nil ?_
          refine Thn.n ?_
          refine Wp.ret ?_
          refine Blk.r ?_
          refine Thn.r ?_
          refine Ret.now (ResV.cell rfl (by repeat (first | exact Lds.one rfl | (apply Lds.all; (first | rfl | assumption | (simp <;> fail))) | exact Lds.ione0 | exact Lds.ione rfl | (apply Lds.iall; (first | rfl | assumption | (simp <;> fail))) | apply Lds.next)) (ResV.tmp rfl ResV.nil)) ?_ ⟨_, ⟨rfl, rfl⟩⟩
          exact Gh.trans (Gh.noBytes (a := none) (c := 0)) (Gh.trans (Gh.tk (by repeat (first | exact Tk.nil | apply Tk.cons (by repeat (first | exact Pk.here | apply Pk.next))))) (Gh.trans (simA_shut (l := [fz (fun g => RdBytes g (.slice none 0 0) []), fz (fun g => RdBytes g (.slice av value.length cv) value)]) (b := b) (c := c) (x0, x1, x2, x3) (vals4 (x0, x1, x2, x3) a0 c0 a1 c1 a2 c2 a3 c3) hs) (Gh.tk (by repeat (first | exact Tk.nil | apply Tk.cons (by repeat (first | exact Pk.here | apply Pk.next)))))))
        rw [if_neg hlong]
        have hlong' : ¬ (200 : Int) < value.length := by omega
        by_cases hmx : p1.next > 1048576
        · rw [if_pos hmx]
          refine Trip.of_body Tryd.func35 rfl Tryd.ntmps35 Tryd.results35 rfl ?_
          refine Wp.seq ?_
          refine Wp.region ?_
          (refine WpL.step (Stp.alloc rfl ?_); intro nb2)
          refine WpL.step (Stp.rd (Rdo.assign rfl) rfl ?_)
          refine WpL.nil ?_
          refine Thn.n ?_
          refine Wp.seq ?_
          refine Wp.seq ?_
          refine Wp.region ?_
          refine WpL.step (Stp.rd (Rdo.move rfl) rfl ?_)
          refine WpL.step (Stp.rd (Rdo.nilCheck rfl) rfl ?_)
          refine WpL.step (Stp.rd (Rdo.fieldAddr0 rfl) rfl ?_)
          refine WpL.step (Stp.rd (Rdo.load rfl (Lds.next (Lds.one rfl))) rfl ?_)
          refine WpL.step (Stp.rd (Rdo.not rfl) rfl ?_)
          refine WpL.step (Stp.rd (Rdo.move rfl) rfl ?_)
          refine WpL.gF rfl rfl (by first | rfl | assumption | (simp only [decide_eq_true_eq, decide_eq_false_iff_not, Bool.not_eq_true', Bool.not_eq_false', List.length_cons, List.length_nil]; first | assumption | omega) | (simp <;> done) | (simp <;> omega)) ?_
          refine WpL.want rfl rfl rfl (Stp.rd (Rdo.move rfl) rfl ?_)
          refine WpL.want rfl rfl rfl (Stp.rd (Rdo.lti rfl rfl) rfl ?_)
          refine WpL.step (Stp.rd (Rdo.pick_f rfl rfl) rfl ?_)
          refine WpL.step (Stp.rd (Rdo.move rfl) rfl ?_)
          refine WpL.want rfl rfl rfl (Stp.rd (Rdo.move rfl) rfl ?_)
          refine WpL.want rfl rfl rfl (Stp.rd (Rdo.gti rfl rfl) rfl ?_)
          refine WpL.step (Stp.rd (Rdo.pick_f rfl rfl) rfl ?_)
          refine WpL.step (Stp.rd (Rdo.move rfl) rfl ?_)
          refine WpL.want rfl rfl rfl (Stp.rd (Rdo.move rfl) rfl ?_)
          refine WpL.want rfl rfl rfl (Stp.rd (Rdo.move rfl) rfl ?_)
          refine WpL.want rfl rfl rfl (Stp.rd (Rdo.nilCheck rfl) rfl ?_)
          refine WpL.want rfl rfl rfl (Stp.rd (Rdo.fieldAddr0 rfl) rfl ?_)
          refine WpL.want rfl rfl rfl (Stp.rd (Rdo.indexArrE (i := 1) rfl rfl rfl (by first | omega | (simp <;> omega))) rfl ?_)
          refine WpL.want rfl rfl rfl (Stp.rd (Rdo.fieldAddr rfl) rfl ?_)
          refine WpL.want rfl rfl rfl (Stp.rd (Rdo.load rfl (Lds.next (Lds.one rfl))) rfl ?_)
          refine WpL.want rfl rfl rfl (Stp.rd (Rdo.not rfl) rfl ?_)
          refine WpL.step (Stp.rd (Rdo.pick_f rfl rfl) rfl ?_)
          refine WpL.nil ?_
          refine Thn.n ?_
          refine Wp.condL rfl (by first | rfl | assumption | (simp only [decide_eq_true_eq, decide_eq_false_iff_not, Bool.not_eq_true', Bool.not_eq_false', List.length_cons, List.length_nil]; first | assumption | omega) | (simp <;> done) | (simp <;> omega)) ?_
          refine Wp.skip ?_
          refine Thn.n ?_
          refine Wp.seq ?_
          refine Wp.region ?_
          refine WpL.step (Stp.rd (Rdo.move rfl) rfl ?_)
          refine WpL.step (Stp.rd (Rdo.move rfl) rfl ?_)
          refine WpL.step (Stp.rd (Rdo.nilCheck rfl) rfl ?_)
          refine WpL.step (Stp.rd (Rdo.fieldAddr0 rfl) rfl ?_)
          refine WpL.step (Stp.rd (Rdo.indexArrE (i := 1) rfl rfl rfl (by first | omega | (simp <;> omega))) rfl ?_)
          refine WpL.step (Stp.rd (Rdo.load rfl (Lds.next (Lds.cut rfl (by first | rfl | assumption | (simp <;> done))))) rfl ?_)
          (refine WpL.step (Stp.alloc rfl ?_); intro nb46)
          refine WpL.step (Stp.storeV rfl rfl (VC.ag _) (by first | rfl | assumption | (simp <;> done)) (by repeat (first | (apply Sts.all; (focus (first | rfl | assumption | (simp <;> done))); (focus (first | exact oneCells1 rfl | assumption | exact oneCells1 (by assumption) | ((repeat (first | assumption | exact oneCells_nil | exact oneCells_bytesC _ | (apply oneCells_cons; (focus (first | rfl | assumption))) | apply oneCells_append)); done) | (simp [oneCells, Value.oneCell'] <;> done)))) | (apply Sts.lp (by repeat (first | exact LPut.nil _ | apply LPut.here | apply LPut.next)); (focus (first | exact oneCells1 rfl | assumption | exact oneCells1 (by assumption) | ((repeat (first | assumption | exact oneCells_nil | exact oneCells_bytesC _ | (apply oneCells_cons; (focus (first | rfl | assumption))) | apply oneCells_append)); done) | (simp [oneCells, Value.oneCell'] <;> done)))) | (refine Sts.row1 (by first | assumption | omega | (simp <;> omega)) (by first | rfl | assumption)) | (refine Sts.rowP (by assumption) (by first | rfl | assumption | (simp <;> done)) (by rfl) (by (first | exact oneCells1 rfl | assumption | exact oneCells1 (by assumption) | ((repeat (first | assumption | exact oneCells_nil | exact oneCells_bytesC _ | (apply oneCells_cons; (focus (first | rfl | assumption))) | apply oneCells_append)); done) | (simp [oneCells, Value.oneCell'] <;> done)))) | apply Sts.next)) ?_)
          refine WpL.nil ?_
          refine Thn.n ?_
          refine Wp.seq ?_
          refine Wp.block ?_
          refine Wp.seq ?_
          refine Wp.region ?_
          refine WpL.step (Stp.rd (Rdo.fieldAddr0 rfl) rfl ?_)
          refine WpL.step (Stp.rd (Rdo.load rfl (Lds.one rfl)) rfl ?_)
          refine WpL.step (Stp.rd (Rdo.assign rfl) rfl ?_)
          refine WpL.nil ?_
          refine Thn.n ?_
          refine Wp.condL rfl (by first | rfl | assumption | (simp only [decide_eq_true_eq, decide_eq_false_iff_not, Bool.not_eq_true', Bool.not_eq_false', List.length_cons, List.length_nil]; first | assumption | omega) | (simp <;> done) | (simp <;> omega)) ?_
          refine Wp.seq ?_
          refine Wp.region ?_
          refine WpL.step (Stp.rd (Rdo.move rfl) rfl ?_)
          refine WpL.step (Stp.rd (Rdo.lenSlice rfl) rfl ?_)
          refine WpL.step (Stp.rd (Rdo.gti rfl rfl) rfl ?_)
          refine WpL.step (Stp.rd (Rdo.assign rfl) rfl ?_)
          refine WpL.nil ?_
          refine Thn.n ?_
          refine Wp.condL rfl (by first | rfl | assumption | (simp only [decide_eq_true_eq, decide_eq_false_iff_not, Bool.not_eq_true', Bool.not_eq_false', List.length_cons, List.length_nil]; first | assumption | omega) | (simp <;> done) | (simp <;> omega)) ?_
          refine Wp.seq ?_
          refine Wp.region ?_
          refine WpL.step (Stp.rd (Rdo.fieldAddr0 rfl) rfl ?_)
          refine WpL.step (Stp.rd (Rdo.load rfl (Lds.one rfl)) rfl ?_)
          refine WpL.step (Stp.rd (Rdo.gti rfl rfl) rfl ?_)
          refine WpL.step (Stp.rd (Rdo.assign rfl) rfl ?_)
          refine WpL.nil ?_
          refine Thn.n ?_
          refine Wp.condK rfl (by first | rfl | assumption | (simp only [decide_eq_true_eq, decide_eq_false_iff_not, Bool.not_eq_true', Bool.not_eq_false', List.length_cons, List.length_nil]; first | assumption | omega) | (simp <;> done) | (simp <;> omega)) ?_
          refine Wp.seq ?_
          refine Wp.region ?_
          refine WpL.step (Stp.rd (Rdo.bld rfl (BldL.nil _)) rfl ?_)
          refine WpL.step (Stp.storeV rfl rfl (VC.ag _) (by first | rfl | assumption | (simp <;> done)) (by repeat (first | (apply Sts.all; (focus (first | rfl | assumption | (simp <;> done))); (focus (first | exact oneCells1 rfl | assumption | exact oneCells1 (by assumption) | ((repeat (first | assumption | exact oneCells_nil | exact oneCells_bytesC _ | (apply oneCells_cons; (focus (first | rfl | assumption))) | apply oneCells_append)); done) | (simp [oneCells, Value.oneCell'] <;> done)))) | (apply Sts.lp (by repeat (first | exact LPut.nil _ | apply LPut.here | apply LPut.next)); (focus (first | exact oneCells1 rfl | assumption | exact oneCells1 (by assumption) | ((repeat (first | assumption | exact oneCells_nil | exact oneCells_bytesC _ | (apply oneCells_cons; (focus (first | rfl | assumption))) | apply oneCells_append)); done) | (simp [oneCells, Value.oneCell'] <;> done)))) | (refine Sts.row1 (by first | assumption | omega | (simp <;> omega)) (by first | rfl | assumption)) | (refine Sts.rowP (by assumption) (by first | rfl | assumption | (simp <;> done)) (by rfl) (by (first | exact oneCells1 rfl | assumption | exact oneCells1 (by assumption) | ((repeat (first | assumption | exact oneCells_nil | exact oneCells_bytesC _ | (apply oneCells_cons; (focus (first | rfl | assumption))) | apply oneCells_append)); done) | (simp [oneCells, Value.oneCell'] <;> done)))) | apply Sts.next)) ?_)
          refine WpL.step (Stp.rd (Rdo.assign rfl) rfl ?_)
          refine WpL.nil ?_
          refine Thn.n ?_
          refine Wp.ret ?_
          refine Blk.r ?_
          refine Thn.r ?_
          refine Ret.now (ResV.cell rfl (by repeat (first | exact Lds.one rfl | (apply Lds.all; (first | rfl | assumption | (simp <;> fail))) | exact Lds.ione0 | exact Lds.ione rfl | (apply Lds.iall; (first | rfl | assumption | (simp <;> fail))) | apply Lds.next)) (ResV.tmp rfl ResV.nil)) ?_ ⟨_, ⟨rfl, rfl⟩⟩
          exact Gh.trans (Gh.noBytes (a := none) (c := 0)) (Gh.trans (Gh.tk (by repeat (first | exact Tk.nil | apply Tk.cons (by repeat (first | exact Pk.here | apply Pk.next))))) (Gh.trans (simA_shut (l := [fz (fun g => RdBytes g (.slice none 0 0) []), fz (fun g => RdBytes g (.slice av value.length cv) value)]) (b := b) (c := c) (x0, x1, x2, x3) (vals4 (x0, x1, x2, x3) a0 c0 a1 c1 a2 c2 a3 c3) hs) (Gh.tk (by repeat (first | exact Tk.nil | apply Tk.cons (by repeat (first | exact Pk.here | apply Pk.next)))))))
        · rw [if_neg hmx]
          rw [← hxn]
          rw [← hxn] at hmx hnb
          have hs2 : Sim { c with parts := c.parts.set (Int.toNat 1) { p1 with next := x1.next + 1, out := some ⟨c.producer, c.epoch, c.last, x1.next, value⟩ } } (x0, { x1 with next := x1.next + 1, out := true, r := ⟨c.producer, c.epoch, c.last, x1.next, value⟩ }, x2, x3) := ⟨p0, { p1 with next := x1.next + 1, out := some ⟨c.producer, c.epoch, c.last, x1.next, value⟩ }, p2, p3, by rw [hp]; rfl, g0.pres rfl rfl, g1.rec_ rfl rfl (by rw [hxn]), g2.pres rfl rfl, g3.pres rfl rfl⟩
          refine Trip.of_body Tryd.func35 rfl Tryd.ntmps35 Tryd.results35 rfl ?_
          refine Wp.seq ?_
          refine Wp.region ?_
          (refine WpL.step (Stp.alloc rfl ?_); intro nb2)
          refine WpL.step (Stp.rd (Rdo.assign rfl) rfl ?_)
          refine WpL.nil ?_
          refine Thn.n ?_
          refine Wp.seq ?_
          refine Wp.seq ?_
          refine Wp.region ?_
          refine WpL.step (Stp.rd (Rdo.move rfl) rfl ?_)
          refine WpL.step (Stp.rd (Rdo.nilCheck rfl) rfl ?_)
          refine WpL.step (Stp.rd (Rdo.fieldAddr0 rfl) rfl ?_)
          refine WpL.step (Stp.rd (Rdo.load rfl (Lds.next (Lds.one rfl))) rfl ?_)
          refine WpL.step (Stp.rd (Rdo.not rfl) rfl ?_)
          refine WpL.step (Stp.rd (Rdo.move rfl) rfl ?_)
          refine WpL.gF rfl rfl (by first | rfl | assumption | (simp only [decide_eq_true_eq, decide_eq_false_iff_not, Bool.not_eq_true', Bool.not_eq_false', List.length_cons, List.length_nil]; first | assumption | omega) | (simp <;> done) | (simp <;> omega)) ?_
          refine WpL.want rfl rfl rfl (Stp.rd (Rdo.move rfl) rfl ?_)
          refine WpL.want rfl rfl rfl (Stp.rd (Rdo.lti rfl rfl) rfl ?_)
          refine WpL.step (Stp.rd (Rdo.pick_f rfl rfl) rfl ?_)
          refine WpL.step (Stp.rd (Rdo.move rfl) rfl ?_)
          refine WpL.want rfl rfl rfl (Stp.rd (Rdo.move rfl) rfl ?_)
          refine WpL.want rfl rfl rfl (Stp.rd (Rdo.gti rfl rfl) rfl ?_)
          refine WpL.step (Stp.rd (Rdo.pick_f rfl rfl) rfl ?_)
          refine WpL.step (Stp.rd (Rdo.move rfl) rfl ?_)
          refine WpL.want rfl rfl rfl (Stp.rd (Rdo.move rfl) rfl ?_)
          refine WpL.want rfl rfl rfl (Stp.rd (Rdo.move rfl) rfl ?_)
          refine WpL.want rfl rfl rfl (Stp.rd (Rdo.nilCheck rfl) rfl ?_)
          refine WpL.want rfl rfl rfl (Stp.rd (Rdo.fieldAddr0 rfl) rfl ?_)
          refine WpL.want rfl rfl rfl (Stp.rd (Rdo.indexArrE (i := 1) rfl rfl rfl (by first | omega | (simp <;> omega))) rfl ?_)
          refine WpL.want rfl rfl rfl (Stp.rd (Rdo.fieldAddr rfl) rfl ?_)
          refine WpL.want rfl rfl rfl (Stp.rd (Rdo.load rfl (Lds.next (Lds.one rfl))) rfl ?_)
          refine WpL.want rfl rfl rfl (Stp.rd (Rdo.not rfl) rfl ?_)
          refine WpL.step (Stp.rd (Rdo.pick_f rfl rfl) rfl ?_)
          refine WpL.nil ?_
          refine Thn.n ?_
          refine Wp.condL rfl (by first | rfl | assumption | (simp only [decide_eq_true_eq, decide_eq_false_iff_not, Bool.not_eq_true', Bool.not_eq_false', List.length_cons, List.length_nil]; first | assumption | omega) | (simp <;> done) | (simp <;> omega)) ?_
          refine Wp.skip ?_
          refine Thn.n ?_
          refine Wp.seq ?_
          refine Wp.region ?_
          refine WpL.step (Stp.rd (Rdo.move rfl) rfl ?_)
          refine WpL.step (Stp.rd (Rdo.move rfl) rfl ?_)
          refine WpL.step (Stp.rd (Rdo.nilCheck rfl) rfl ?_)
          refine WpL.step (Stp.rd (Rdo.fieldAddr0 rfl) rfl ?_)
          refine WpL.step (Stp.rd (Rdo.indexArrE (i := 1) rfl rfl rfl (by first | omega | (simp <;> omega))) rfl ?_)
          refine WpL.step (Stp.rd (Rdo.load rfl (Lds.next (Lds.cut rfl (by first | rfl | assumption | (simp <;> done))))) rfl ?_)
          (refine WpL.step (Stp.alloc rfl ?_); intro nb46)
          refine WpL.step (Stp.storeV rfl rfl (VC.ag _) (by first | rfl | assumption | (simp <;> done)) (by repeat (first | (apply Sts.all; (focus (first | rfl | assumption | (simp <;> done))); (focus (first | exact oneCells1 rfl | assumption | exact oneCells1 (by assumption) | ((repeat (first | assumption | exact oneCells_nil | exact oneCells_bytesC _ | (apply oneCells_cons; (focus (first | rfl | assumption))) | apply oneCells_append)); done) | (simp [oneCells, Value.oneCell'] <;> done)))) | (apply Sts.lp (by repeat (first | exact LPut.nil _ | apply LPut.here | apply LPut.next)); (focus (first | exact oneCells1 rfl | assumption | exact oneCells1 (by assumption) | ((repeat (first | assumption | exact oneCells_nil | exact oneCells_bytesC _ | (apply oneCells_cons; (focus (first | rfl | assumption))) | apply oneCells_append)); done) | (simp [oneCells, Value.oneCell'] <;> done)))) | (refine Sts.row1 (by first | assumption | omega | (simp <;> omega)) (by first | rfl | assumption)) | (refine Sts.rowP (by assumption) (by first | rfl | assumption | (simp <;> done)) (by rfl) (by (first | exact oneCells1 rfl | assumption | exact oneCells1 (by assumption) | ((repeat (first | assumption | exact oneCells_nil | exact oneCells_bytesC _ | (apply oneCells_cons; (focus (first | rfl | assumption))) | apply oneCells_append)); done) | (simp [oneCells, Value.oneCell'] <;> done)))) | apply Sts.next)) ?_)
          refine WpL.nil ?_
          refine Thn.n ?_
          refine Wp.seq ?_
          refine Wp.block ?_
          refine Wp.seq ?_
          refine Wp.region ?_
          refine WpL.step (Stp.rd (Rdo.fieldAddr0 rfl) rfl ?_)
          refine WpL.step (Stp.rd (Rdo.load rfl (Lds.one rfl)) rfl ?_)
          refine WpL.step (Stp.rd (Rdo.assign rfl) rfl ?_)
          refine WpL.nil ?_
          refine Thn.n ?_
          refine Wp.condL rfl (by first | rfl | assumption | (simp only [decide_eq_true_eq, decide_eq_false_iff_not, Bool.not_eq_true', Bool.not_eq_false', List.length_cons, List.length_nil]; first | assumption | omega) | (simp <;> done) | (simp <;> omega)) ?_
          refine Wp.seq ?_
          refine Wp.region ?_
          refine WpL.step (Stp.rd (Rdo.move rfl) rfl ?_)
          refine WpL.step (Stp.rd (Rdo.lenSlice rfl) rfl ?_)
          refine WpL.step (Stp.rd (Rdo.gti rfl rfl) rfl ?_)
          refine WpL.step (Stp.rd (Rdo.assign rfl) rfl ?_)
          refine WpL.nil ?_
          refine Thn.n ?_
          refine Wp.condL rfl (by first | rfl | assumption | (simp only [decide_eq_true_eq, decide_eq_false_iff_not, Bool.not_eq_true', Bool.not_eq_false', List.length_cons, List.length_nil]; first | assumption | omega) | (simp <;> done) | (simp <;> omega)) ?_
          refine Wp.seq ?_
          refine Wp.region ?_
          refine WpL.step (Stp.rd (Rdo.fieldAddr0 rfl) rfl ?_)
          refine WpL.step (Stp.rd (Rdo.load rfl (Lds.one rfl)) rfl ?_)
          refine WpL.step (Stp.rd (Rdo.gti rfl rfl) rfl ?_)
          refine WpL.step (Stp.rd (Rdo.assign rfl) rfl ?_)
          refine WpL.nil ?_
          refine Thn.n ?_
          refine Wp.condL rfl (by first | rfl | assumption | (simp only [decide_eq_true_eq, decide_eq_false_iff_not, Bool.not_eq_true', Bool.not_eq_false', List.length_cons, List.length_nil]; first | assumption | omega) | (simp <;> done) | (simp <;> omega)) ?_
          refine Wp.skip ?_
          refine Blk.n ?_
          refine Thn.n ?_
          refine Wp.seq ?_
          refine Wp.draw (by kernel_rfl) ?_
          refine WpR.take (i := 0) rfl (by kernel_rfl) (by kernel_rfl) (by kernel_rfl) (Rdo.move rfl) rfl ?_
          refine WpR.take (i := 1) rfl (by kernel_rfl) (by kernel_rfl) (by kernel_rfl) (Rdo.nilCheck rfl) rfl ?_
          refine WpR.take (i := 2) rfl (by kernel_rfl) (by kernel_rfl) (by kernel_rfl) (Rdo.fieldAddr0 rfl) rfl ?_
          refine WpR.take (i := 4) rfl (by kernel_rfl) (by kernel_rfl) (by kernel_rfl) (Rdo.move rfl) rfl ?_
          refine WpR.take (i := 5) rfl (by kernel_rfl) (by kernel_rfl) (by kernel_rfl) (Rdo.nilCheck rfl) rfl ?_
          refine WpR.take (i := 6) rfl (by kernel_rfl) (by kernel_rfl) (by kernel_rfl) (Rdo.fieldAddr0 rfl) rfl ?_
          refine WpR.take (i := 8) rfl (by kernel_rfl) (by kernel_rfl) (by kernel_rfl) (Rdo.move rfl) rfl ?_
          refine WpR.take (i := 9) rfl (by kernel_rfl) (by kernel_rfl) (by kernel_rfl) (Rdo.nilCheck rfl) rfl ?_
          refine WpR.take (i := 10) rfl (by kernel_rfl) (by kernel_rfl) (by kernel_rfl) (Rdo.fieldAddr0 rfl) rfl ?_
          refine WpR.take (i := 12) rfl (by kernel_rfl) (by kernel_rfl) (by kernel_rfl) (Rdo.fieldAddr0 rfl) rfl ?_
          refine WpR.take (i := 15) rfl (by kernel_rfl) (by kernel_rfl) (by kernel_rfl) (Rdo.move rfl) rfl ?_
          refine WpR.phaseL (m := 1) #[true, true, true, true, true, true, true, true, true, true, true, true, true, true, true, true, true, true, true, false] 8 _ rfl (by kernel_rfl) (Tk.cons Pk.here (Tk.cons (Pk.next Pk.here) Tk.nil)) ?_
          refine WpA.take (i := 3) rfl rfl (by kernel_rfl) (by kernel_rfl) (by kernel_rfl) (Rdo.load rfl (Lds.next (Lds.one rfl))) rfl ?_
          refine WpA.take (i := 7) rfl rfl (by kernel_rfl) (by kernel_rfl) (by kernel_rfl) (Rdo.load rfl (Lds.next (Lds.one rfl))) rfl ?_
          refine WpA.take (i := 11) rfl rfl (by kernel_rfl) (by kernel_rfl) (by kernel_rfl) (Rdo.load rfl (Lds.next (Lds.one rfl))) rfl ?_
          refine WpA.take (i := 13) rfl rfl (by kernel_rfl) (by kernel_rfl) (by kernel_rfl) (Rdo.load rfl (Lds.one rfl)) rfl ?_
          (refine WpA.one (i := 14) rfl (by kernel_rfl) (Stp.slice0 rfl ?_); intro nb99)
          (refine WpA.one (i := 16) rfl (by kernel_rfl) (Stp.append0P rfl rfl Pk.here (Src.next (Src.next (Src.next (Src.next (Src.next Src.frozen))))) (by first | rfl | (simp <;> done) | (simp <;> omega)) (by first | assumption | exact oneCells1 rfl | exact oneCells1 (by assumption) | exact oneCells_bytesC _ | exact oneCells_votesC _ | (simp [oneCells, Value.oneCell'] <;> done)) (by first | omega | (simp <;> omega)) (by first | omega | (simp <;> omega)) rfl (by first | rfl | (simp <;> done)) ?_); intro na100 nc100)
          refine WpA.take (i := 17) rfl rfl (by kernel_rfl) (by kernel_rfl) (by kernel_rfl) (Rdo.bld rfl (BldL.cons rfl (VC.i _ _) (by first | rfl | assumption | (simp <;> done)) (by repeat (first | exact LPut.nil _ | apply LPut.here | apply LPut.next)) (BldL.cons rfl (VC.i _ _) (by first | rfl | assumption | (simp <;> done)) (by repeat (first | exact LPut.nil _ | apply LPut.here | apply LPut.next)) (BldL.cons rfl (VC.i _ _) (by first | rfl | assumption | (simp <;> done)) (by repeat (first | exact LPut.nil _ | apply LPut.here | apply LPut.next)) (BldL.cons rfl (VC.i _ _) (by first | rfl | assumption | (simp <;> done)) (by repeat (first | exact LPut.nil _ | apply LPut.here | apply LPut.next)) (BldL.cons rfl (VC.sl _ _ _) (by first | rfl | assumption | (simp <;> done)) (by repeat (first | exact LPut.nil _ | apply LPut.here | apply LPut.next)) (BldL.nil _))))))) rfl ?_
          refine WpA.take (i := 18) rfl rfl (by kernel_rfl) (by kernel_rfl) (by kernel_rfl) (Rdo.fieldAddr0 rfl) rfl ?_
          refine WpA.stop (by kernel_rfl) ?_
          refine WpR.lst (by simp only [List.cons_append, List.nil_append]; exact rfl) ?_
          refine WpR.one (i := 19) rfl (by kernel_rfl) (Stp.storeV rfl rfl (VC.ag _) (by first | rfl | assumption | (simp <;> done)) (by repeat (first | (apply Sts.all; (focus (first | rfl | assumption | (simp <;> done))); (focus (first | exact oneCells1 rfl | assumption | exact oneCells1 (by assumption) | ((repeat (first | assumption | exact oneCells_nil | exact oneCells_bytesC _ | (apply oneCells_cons; (focus (first | rfl | assumption))) | apply oneCells_append)); done) | (simp [oneCells, Value.oneCell'] <;> done)))) | (apply Sts.lp (by repeat (first | exact LPut.nil _ | apply LPut.here | apply LPut.next)); (focus (first | exact oneCells1 rfl | assumption | exact oneCells1 (by assumption) | ((repeat (first | assumption | exact oneCells_nil | exact oneCells_bytesC _ | (apply oneCells_cons; (focus (first | rfl | assumption))) | apply oneCells_append)); done) | (simp [oneCells, Value.oneCell'] <;> done)))) | (refine Sts.row1 (by first | assumption | omega | (simp <;> omega)) (by first | rfl | assumption)) | (refine Sts.rowP (by assumption) (by first | rfl | assumption | (simp <;> done)) (by rfl) (by (first | exact oneCells1 rfl | assumption | exact oneCells1 (by assumption) | ((repeat (first | assumption | exact oneCells_nil | exact oneCells_bytesC _ | (apply oneCells_cons; (focus (first | rfl | assumption))) | apply oneCells_append)); done) | (simp [oneCells, Value.oneCell'] <;> done)))) | apply Sts.next)) ?_)
          refine WpR.done (by kernel_rfl) ?_
          refine Thn.n ?_
          refine Wp.seq ?_
          refine Wp.region ?_
          refine WpL.step (Stp.rd (Rdo.fieldAddr0 rfl) rfl ?_)
          refine WpL.step (Stp.rd (Rdo.load rfl (Lds.one rfl)) rfl ?_)
          refine WpL.step (Stp.rd (Rdo.add64 rfl rfl (by first | omega | (dsimp only; omega))) rfl ?_)
          refine WpL.step (Stp.rd (Rdo.fieldAddr0 rfl) rfl ?_)
          refine WpL.step (Stp.storeV rfl rfl (VC.i _ _) rfl (Sts.lp (by repeat (first | exact LPut.nil _ | apply LPut.here | apply LPut.next)) (oneCells1 rfl)) ?_)
          refine WpL.nil ?_
          refine Thn.n ?_
          refine Wp.seq ?_
          refine Wp.region ?_
          refine WpL.step (Stp.rd (Rdo.fieldAddr0 rfl) rfl ?_)
          refine WpL.step (Stp.storeV rfl rfl (VC.b _) rfl (Sts.lp (by repeat (first | exact LPut.nil _ | apply LPut.here | apply LPut.next)) (oneCells1 rfl)) ?_)
          refine WpL.nil ?_
          refine Thn.n ?_
          refine Wp.seq ?_
          refine Wp.draw (by kernel_rfl) ?_
          refine WpR.take (i := 0) rfl (by kernel_rfl) (by kernel_rfl) (by kernel_rfl) (Rdo.move rfl) rfl ?_
          refine WpR.take (i := 1) rfl (by kernel_rfl) (by kernel_rfl) (by kernel_rfl) (Rdo.move rfl) rfl ?_
          refine WpR.take (i := 3) rfl (by kernel_rfl) (by kernel_rfl) (by kernel_rfl) (Rdo.nilCheck rfl) rfl ?_
          refine WpR.take (i := 4) rfl (by kernel_rfl) (by kernel_rfl) (by kernel_rfl) (Rdo.fieldAddr0 rfl) rfl ?_
          refine WpR.one (i := 2) rfl (by kernel_rfl) (Stp.rd (Rdo.load rfl (by apply Lds.all; (first | rfl | assumption | (simp <;> fail)))) rfl ?_)
          refine WpR.take (i := 5) rfl (by kernel_rfl) (by kernel_rfl) (by kernel_rfl) (Rdo.indexArrE (i := 1) rfl rfl rfl (by first | omega | (simp <;> omega))) rfl ?_
          refine WpR.one (i := 6) rfl (by kernel_rfl) (Stp.storeV rfl rfl (VC.ag _) (by first | rfl | assumption | (simp <;> done)) (by repeat (first | (apply Sts.all; (focus (first | rfl | assumption | (simp <;> done))); (focus (first | exact oneCells1 rfl | assumption | exact oneCells1 (by assumption) | ((repeat (first | assumption | exact oneCells_nil | exact oneCells_bytesC _ | (apply oneCells_cons; (focus (first | rfl | assumption))) | apply oneCells_append)); done) | (simp [oneCells, Value.oneCell'] <;> done)))) | (apply Sts.lp (by repeat (first | exact LPut.nil _ | apply LPut.here | apply LPut.next)); (focus (first | exact oneCells1 rfl | assumption | exact oneCells1 (by assumption) | ((repeat (first | assumption | exact oneCells_nil | exact oneCells_bytesC _ | (apply oneCells_cons; (focus (first | rfl | assumption))) | apply oneCells_append)); done) | (simp [oneCells, Value.oneCell'] <;> done)))) | (refine Sts.row1 (by first | assumption | omega | (simp <;> omega)) (by first | rfl | assumption)) | (refine Sts.rowP (by assumption) (by first | rfl | assumption | (simp <;> done)) (by rfl) (by (first | exact oneCells1 rfl | assumption | exact oneCells1 (by assumption) | ((repeat (first | assumption | exact oneCells_nil | exact oneCells_bytesC _ | (apply oneCells_cons; (focus (first | rfl | assumption))) | apply oneCells_append)); done) | (simp [oneCells, Value.oneCell'] <;> done)))) | apply Sts.next)) ?_)
          refine WpR.done (by kernel_rfl) ?_
          refine Thn.n ?_
          refine Wp.seq ?_
          refine Wp.region ?_
          refine WpL.step (Stp.rd (Rdo.fieldAddr0 rfl) rfl ?_)
          refine WpL.step (Stp.rd (Rdo.load rfl (Lds.cut rfl (by first | rfl | assumption | (simp <;> done)))) rfl ?_)
          refine WpL.step (Stp.storeV rfl rfl (VC.ag _) (by first | rfl | assumption | (simp <;> done)) (by repeat (first | (apply Sts.all; (focus (first | rfl | assumption | (simp <;> done))); (focus (first | exact oneCells1 rfl | assumption | exact oneCells1 (by assumption) | ((repeat (first | assumption | exact oneCells_nil | exact oneCells_bytesC _ | (apply oneCells_cons; (focus (first | rfl | assumption))) | apply oneCells_append)); done) | (simp [oneCells, Value.oneCell'] <;> done)))) | (apply Sts.lp (by repeat (first | exact LPut.nil _ | apply LPut.here | apply LPut.next)); (focus (first | exact oneCells1 rfl | assumption | exact oneCells1 (by assumption) | ((repeat (first | assumption | exact oneCells_nil | exact oneCells_bytesC _ | (apply oneCells_cons; (focus (first | rfl | assumption))) | apply oneCells_append)); done) | (simp [oneCells, Value.oneCell'] <;> done)))) | (refine Sts.row1 (by first | assumption | omega | (simp <;> omega)) (by first | rfl | assumption)) | (refine Sts.rowP (by assumption) (by first | rfl | assumption | (simp <;> done)) (by rfl) (by (first | exact oneCells1 rfl | assumption | exact oneCells1 (by assumption) | ((repeat (first | assumption | exact oneCells_nil | exact oneCells_bytesC _ | (apply oneCells_cons; (focus (first | rfl | assumption))) | apply oneCells_append)); done) | (simp [oneCells, Value.oneCell'] <;> done)))) | apply Sts.next)) ?_)
          refine WpL.step (Stp.rd (Rdo.assign rfl) rfl ?_)
          refine WpL.nil ?_
          refine Thn.n ?_
          refine Wp.ret ?_
          refine Ret.now (ResV.cell rfl (by repeat (first | exact Lds.one rfl | (apply Lds.all; (first | rfl | assumption | (simp <;> fail))) | exact Lds.ione0 | exact Lds.ione rfl | (apply Lds.iall; (first | rfl | assumption | (simp <;> fail))) | apply Lds.next)) (ResV.tmp rfl ResV.nil)) ?_ ⟨_, ⟨rfl, rfl⟩⟩
          refine Gh.trans (Gh.ice (t := 5) (sz := 1) (n := value.length) (v := .slice na100 value.length nc100) (xs := bytesC value) (by repeat (first | exact Pk.here | apply Pk.next))) ?_
          refine Gh.trans (Gh.fzAlso (Φ := fun g => RdBytes g (.slice na100 value.length nc100) value) Pk.here fun g h => h) ?_
          exact Gh.trans (Gh.tk (by repeat (first | exact Tk.nil | apply Tk.cons (by repeat (first | exact Pk.here | apply Pk.next))))) (Gh.trans (simA_shut (l := [fz (fun g => RdBytes g (.slice na100 value.length nc100) value), fz (fun g => RdBytes g (.slice av value.length cv) value)]) (b := b) (x0, { x1 with next := x1.next + 1, out := true, r := ⟨c.producer, c.epoch, c.last, x1.next, value⟩ }, x2, x3) (.slice a0 x0.r.value.length c0, .slice na100 value.length nc100, .slice a2 x2.r.value.length c2, .slice a3 x3.r.value.length c3) hs2) (Gh.tk (by repeat (first | exact Tk.nil | apply Tk.cons (by repeat (first | exact Pk.here | apply Pk.next))))))
    · rw [if_pos (.inr hb)]
      rw [decide_eq_false hb] at hbg
      refine Trip.of_body Tryd.func35 rfl Tryd.ntmps35 Tryd.results35 rfl ?_
      refine Wp.seq ?_
      refine Wp.region ?_
      (refine WpL.step (Stp.alloc rfl ?_); intro nb2)
      refine WpL.step (Stp.rd (Rdo.assign rfl) rfl ?_)
      refine WpL.nil ?_
      refine Thn.n ?_
      refine Wp.seq ?_
      refine Wp.seq ?_
      refine Wp.region ?_
      refine WpL.step (Stp.rd (Rdo.move rfl) rfl ?_)
      refine WpL.step (Stp.rd (Rdo.nilCheck rfl) rfl ?_)
      refine WpL.step (Stp.rd (Rdo.fieldAddr0 rfl) rfl ?_)
      refine WpL.step (Stp.rd (Rdo.load rfl (Lds.next (Lds.one rfl))) rfl ?_)
      refine WpL.step (Stp.rd (Rdo.not rfl) rfl ?_)
      refine WpL.step (Stp.rd (Rdo.move rfl) rfl ?_)
      refine WpL.gF rfl rfl (by first | rfl | assumption | (simp only [decide_eq_true_eq, decide_eq_false_iff_not, Bool.not_eq_true', Bool.not_eq_false', List.length_cons, List.length_nil]; first | assumption | omega) | (simp <;> done) | (simp <;> omega)) ?_
      refine WpL.want rfl rfl rfl (Stp.rd (Rdo.move rfl) rfl ?_)
      refine WpL.want rfl rfl rfl (Stp.rd (Rdo.lti rfl rfl) rfl ?_)
      refine WpL.step (Stp.rd (Rdo.pick_f rfl rfl) rfl ?_)
      refine WpL.step (Stp.rd (Rdo.move rfl) rfl ?_)
      refine WpL.want rfl rfl rfl (Stp.rd (Rdo.move rfl) rfl ?_)
      refine WpL.want rfl rfl rfl (Stp.rd (Rdo.gti rfl rfl) rfl ?_)
      refine WpL.step (Stp.rd (Rdo.pick_f rfl rfl) rfl ?_)
      refine WpL.step (Stp.rd (Rdo.move rfl) rfl ?_)
      refine WpL.want rfl rfl rfl (Stp.rd (Rdo.move rfl) rfl ?_)
      refine WpL.want rfl rfl rfl (Stp.rd (Rdo.move rfl) rfl ?_)
      refine WpL.want rfl rfl rfl (Stp.rd (Rdo.nilCheck rfl) rfl ?_)
      refine WpL.want rfl rfl rfl (Stp.rd (Rdo.fieldAddr0 rfl) rfl ?_)
      refine WpL.want rfl rfl rfl (Stp.rd (Rdo.indexArrE (i := 1) rfl rfl rfl (by first | omega | (simp <;> omega))) rfl ?_)
      refine WpL.want rfl rfl rfl (Stp.rd (Rdo.fieldAddr rfl) rfl ?_)
      refine WpL.want rfl rfl rfl (Stp.rd (Rdo.load rfl (Lds.next (Lds.one rfl))) rfl ?_)
      refine WpL.want rfl rfl rfl (Stp.rd (Rdo.not rfl) rfl ?_)
      refine WpL.step (Stp.rd (Rdo.pick_f rfl rfl) rfl ?_)
      refine WpL.nil ?_
      refine Thn.n ?_
      refine Wp.condK rfl (by first | rfl | assumption | (simp only [decide_eq_true_eq, decide_eq_false_iff_not, Bool.not_eq_true', Bool.not_eq_false', List.length_cons, List.length_nil]; first | assumption | omega) | (simp <;> done) | (simp <;> omega)) ?_
      refine Wp.seq ?_
      refine Wp.region ?_
      refine WpL.step (Stp.rd (Rdo.bld rfl (BldL.nil _)) rfl ?_)
      refine WpL.step (Stp.storeV rfl rfl (VC.ag _) (by first | rfl | assumption | (simp <;> done)) (by repeat (first | (apply Sts.all; (focus (first | rfl | assumption | (simp <;> done))); (focus (first | exact oneCells1 rfl | assumption | exact oneCells1 (by assumption) | ((repeat (first | assumption | exact oneCells_nil | exact oneCells_bytesC _ | (apply oneCells_cons; (focus (first | rfl | assumption))) | apply oneCells_append)); done) | (simp [oneCells, Value.oneCell'] <;> done)))) | (apply Sts.lp (by repeat (first | exact LPut.nil _ | apply LPut.here | apply LPut.next)); (focus (first | exact oneCells1 rfl | assumption | exact oneCells1 (by assumption) | ((repeat (first | assumption | exact oneCells_nil | exact oneCells_bytesC _ | (apply oneCells_cons; (focus (first | rfl | assumption))) | apply oneCells_append)); done) | (simp [oneCells, Value.oneCell'] <;> done)))) | (refine Sts.row1 (by first | assumption | omega | (simp <;> omega)) (by first | rfl | assumption)) | (refine Sts.rowP (by assumption) (by first | rfl | assumption | (simp <;> done)) (by rfl) (by (first | exact oneCells1 rfl | assumption | exact oneCells1 (by assumption) | ((repeat (first | assumption | exact oneCells_nil | exact oneCells_bytesC _ | (apply oneCells_cons; (focus (first | rfl | assumption))) | apply oneCells_append)); done) | (simp [oneCells, Value.oneCell'] <;> done)))) | apply Sts.next)) ?_)
      refine WpL.step (Stp.rd (Rdo.assign rfl) rfl ?_)
      refine WpL.nil ?_
      refine Thn.n ?_
      refine Wp.ret ?_
      refine Thn.r ?_
      refine Ret.now (ResV.cell rfl (by repeat (first | exact Lds.one rfl | (apply Lds.all; (first | rfl | assumption | (simp <;> fail))) | exact Lds.ione0 | exact Lds.ione rfl | (apply Lds.iall; (first | rfl | assumption | (simp <;> fail))) | apply Lds.next)) (ResV.tmp rfl ResV.nil)) ?_ ⟨_, ⟨rfl, rfl⟩⟩
      exact Gh.trans (Gh.noBytes (a := none) (c := 0)) (Gh.trans (Gh.tk (by repeat (first | exact Tk.nil | apply Tk.cons (by repeat (first | exact Pk.here | apply Pk.next))))) (Gh.trans (simA_shut (l := [fz (fun g => RdBytes g (.slice none 0 0) []), fz (fun g => RdBytes g (.slice av value.length cv) value)]) (b := b) (c := c) (x0, x1, x2, x3) (vals4 (x0, x1, x2, x3) a0 c0 a1 c1 a2 c2 a3 c3) hs) (Gh.tk (by repeat (first | exact Tk.nil | apply Tk.cons (by repeat (first | exact Pk.here | apply Pk.next)))))))
  · have hpt : c.part 2 = p2 := by unfold CliS.part; rw [hp]; rfl
    rw [hpt]
    have hbg := g2.2.2.2 ho
    have hxn := g2.1
    have hxo := g2.2.1
    have hnb := hpn p2 (by rw [hp]; simp)
    by_cases hb : p2.begun = c.last
    · rw [if_neg (by rw [ho]; simp [hb])]
      rw [decide_eq_true hb] at hbg
      cases hpo : p2.out with
      | some r =>
        rw [hpo] at hxo
        have hxo' : x2.out = true := hxo
        obtain rfl := g2.2.2.1 r hpo
        simp only
        refine Trip.gh (Gh.trans (Gh.fzAlso (Φ := fun g => RdBytes g (.slice a2 x2.r.value.length c2) x2.r.value) (by repeat (first | exact Pk.here | apply Pk.next)) fun g h => h) (Gh.tk (l' := [cel b 63 (simC c (x0, x1, x2, x3) (vals4 (x0, x1, x2, x3) a0 c0 a1 c1 a2 c2 a3 c3)), simF (.slice a0 x0.r.value.length c0) x0, simF (.slice a1 x1.r.value.length c1) x1, simF (.slice a2 x2.r.value.length c2) x2, simF (.slice a3 x3.r.value.length c3) x3, fz (fun g => RdBytes g (.slice a2 x2.r.value.length c2) x2.r.value), fz (fun g => RdBytes g (.slice av value.length cv) value)]) (by repeat (first | exact Tk.nil | apply Tk.cons (by repeat (first | exact Pk.here | apply Pk.next)))))) ?_
        refine Trip.of_body Tryd.func35 rfl Tryd.ntmps35 Tryd.results35 rfl ?_
        refine Wp.seq ?_
        refine Wp.region ?_
        (refine WpL.step (Stp.alloc rfl ?_); intro nb2)
        refine WpL.step (Stp.rd (Rdo.assign rfl) rfl ?_)
        refine WpL.nil ?_
        refine Thn.n ?_
        refine Wp.seq ?_
        refine Wp.seq ?_
        refine Wp.region ?_
        refine WpL.step (Stp.rd (Rdo.move rfl) rfl ?_)
        refine WpL.step (Stp.rd (Rdo.nilCheck rfl) rfl ?_)
        refine WpL.step (Stp.rd (Rdo.fieldAddr0 rfl) rfl ?_)
        refine WpL.step (Stp.rd (Rdo.load rfl (Lds.next (Lds.one rfl))) rfl ?_)
        refine WpL.step (Stp.rd (Rdo.not rfl) rfl ?_)
        refine WpL.step (Stp.rd (Rdo.move rfl) rfl ?_)
        refine WpL.gF rfl rfl (by first | rfl | assumption | (simp only [decide_eq_true_eq, decide_eq_false_iff_not, Bool.not_eq_true', Bool.not_eq_false', List.length_cons, List.length_nil]; first | assumption | omega) | (simp <;> done) | (simp <;> omega)) ?_
        refine WpL.want rfl rfl rfl (Stp.rd (Rdo.move rfl) rfl ?_)
        refine WpL.want rfl rfl rfl (Stp.rd (Rdo.lti rfl rfl) rfl ?_)
        refine WpL.step (Stp.rd (Rdo.pick_f rfl rfl) rfl ?_)
        refine WpL.step (Stp.rd (Rdo.move rfl) rfl ?_)
        refine WpL.want rfl rfl rfl (Stp.rd (Rdo.move rfl) rfl ?_)
        refine WpL.want rfl rfl rfl (Stp.rd (Rdo.gti rfl rfl) rfl ?_)
        refine WpL.step (Stp.rd (Rdo.pick_f rfl rfl) rfl ?_)
        refine WpL.step (Stp.rd (Rdo.move rfl) rfl ?_)
        refine WpL.want rfl rfl rfl (Stp.rd (Rdo.move rfl) rfl ?_)
        refine WpL.want rfl rfl rfl (Stp.rd (Rdo.move rfl) rfl ?_)
        refine WpL.want rfl rfl rfl (Stp.rd (Rdo.nilCheck rfl) rfl ?_)
        refine WpL.want rfl rfl rfl (Stp.rd (Rdo.fieldAddr0 rfl) rfl ?_)
        refine WpL.want rfl rfl rfl (Stp.rd (Rdo.indexArrE (i := 2) rfl rfl rfl (by first | omega | (simp <;> omega))) rfl ?_)
        refine WpL.want rfl rfl rfl (Stp.rd (Rdo.fieldAddr rfl) rfl ?_)
        refine WpL.want rfl rfl rfl (Stp.rd (Rdo.load rfl (Lds.next (Lds.one rfl))) rfl ?_)
        refine WpL.want rfl rfl rfl (Stp.rd (Rdo.not rfl) rfl ?_)
        refine WpL.step (Stp.rd (Rdo.pick_f rfl rfl) rfl ?_)
        refine WpL.nil ?_
        refine Thn.n ?_
        refine Wp.condL rfl (by first | rfl | assumption | (simp only [decide_eq_true_eq, decide_eq_false_iff_not, Bool.not_eq_true', Bool.not_eq_false', List.length_cons, List.length_nil]; first | assumption | omega) | (simp <;> done) | (simp <;> omega)) ?_
        refine Wp.skip ?_
        refine Thn.n ?_
        refine Wp.seq ?_
        refine Wp.region ?_
        refine WpL.step (Stp.rd (Rdo.move rfl) rfl ?_)
        refine WpL.step (Stp.rd (Rdo.move rfl) rfl ?_)
        refine WpL.step (Stp.rd (Rdo.nilCheck rfl) rfl ?_)
        refine WpL.step (Stp.rd (Rdo.fieldAddr0 rfl) rfl ?_)
        refine WpL.step (Stp.rd (Rdo.indexArrE (i := 2) rfl rfl rfl (by first | omega | (simp <;> omega))) rfl ?_)
        refine WpL.step (Stp.rd (Rdo.load rfl (Lds.next (Lds.cut rfl (by first | rfl | assumption | (simp <;> done))))) rfl ?_)
        (refine WpL.step (Stp.alloc rfl ?_); intro nb46)
        refine WpL.step (Stp.storeV rfl rfl (VC.ag _) (by first | rfl | assumption | (simp <;> done)) (by repeat (first | (apply Sts.all; (focus (first | rfl | assumption | (simp <;> done))); (focus (first | exact oneCells1 rfl | assumption | exact oneCells1 (by assumption) | ((repeat (first | assumption | exact oneCells_nil | exact oneCells_bytesC _ | (apply oneCells_cons; (focus (first | rfl | assumption))) | apply oneCells_append)); done) | (simp [oneCells, Value.oneCell'] <;> done)))) | (apply Sts.lp (by repeat (first | exact LPut.nil _ | apply LPut.here | apply LPut.next)); (focus (first | exact oneCells1 rfl | assumption | exact oneCells1 (by assumption) | ((repeat (first | assumption | exact oneCells_nil | exact oneCells_bytesC _ | (apply oneCells_cons; (focus (first | rfl | assumption))) | apply oneCells_append)); done) | (simp [oneCells, Value.oneCell'] <;> done)))) | (refine Sts.row1 (by first | assumption | omega | (simp <;> omega)) (by first | rfl | assumption)) | (refine Sts.rowP (by assumption) (by first | rfl | assumption | (simp <;> done)) (by rfl) (by (first | exact oneCells1 rfl | assumption | exact oneCells1 (by assumption) | ((repeat (first | assumption | exact oneCells_nil | exact oneCells_bytesC _ | (apply oneCells_cons; (focus (first | rfl | assumption))) | apply oneCells_append)); done) | (simp [oneCells, Value.oneCell'] <;> done)))) | apply Sts.next)) ?_)
        refine WpL.nil ?_
        refine Thn.n ?_
        refine Wp.seq ?_
        refine Wp.block ?_
        refine Wp.seq ?_
        refine Wp.region ?_
        refine WpL.step (Stp.rd (Rdo.fieldAddr0 rfl) rfl ?_)
        refine WpL.step (Stp.rd (Rdo.load rfl (Lds.one rfl)) rfl ?_)
        refine WpL.step (Stp.rd (Rdo.assign rfl) rfl ?_)
        refine WpL.nil ?_
        refine Thn.n ?_
        refine Wp.condK rfl (by first | rfl | assumption | (simp only [decide_eq_true_eq, decide_eq_false_iff_not, Bool.not_eq_true', Bool.not_eq_false', List.length_cons, List.length_nil]; first | assumption | omega) | (simp <;> done) | (simp <;> omega)) ?_
        refine Wp.seq ?_
        refine Wp.region ?_
        refine WpL.step (Stp.rd (Rdo.fieldAddr0 rfl) rfl ?_)
        refine WpL.step (Stp.rd (Rdo.load rfl (Lds.cut rfl (by first | rfl | assumption | (simp <;> done)))) rfl ?_)
        refine WpL.step (Stp.storeV rfl rfl (VC.ag _) (by first | rfl | assumption | (simp <;> done)) (by repeat (first | (apply Sts.all; (focus (first | rfl | assumption | (simp <;> done))); (focus (first | exact oneCells1 rfl | assumption | exact oneCells1 (by assumption) | ((repeat (first | assumption | exact oneCells_nil | exact oneCells_bytesC _ | (apply oneCells_cons; (focus (first | rfl | assumption))) | apply oneCells_append)); done) | (simp [oneCells, Value.oneCell'] <;> done)))) | (apply Sts.lp (by repeat (first | exact LPut.nil _ | apply LPut.here | apply LPut.next)); (focus (first | exact oneCells1 rfl | assumption | exact oneCells1 (by assumption) | ((repeat (first | assumption | exact oneCells_nil | exact oneCells_bytesC _ | (apply oneCells_cons; (focus (first | rfl | assumption))) | apply oneCells_append)); done) | (simp [oneCells, Value.oneCell'] <;> done)))) | (refine Sts.row1 (by first | assumption | omega | (simp <;> omega)) (by first | rfl | assumption)) | (refine Sts.rowP (by assumption) (by first | rfl | assumption | (simp <;> done)) (by rfl) (by (first | exact oneCells1 rfl | assumption | exact oneCells1 (by assumption) | ((repeat (first | assumption | exact oneCells_nil | exact oneCells_bytesC _ | (apply oneCells_cons; (focus (first | rfl | assumption))) | apply oneCells_append)); done) | (simp [oneCells, Value.oneCell'] <;> done)))) | apply Sts.next)) ?_)
        refine WpL.step (Stp.rd (Rdo.assign rfl) rfl ?_)
        refine WpL.nil ?_
        refine Thn.n ?_
        refine Wp.ret ?_
        refine Blk.r ?_
        refine Thn.r ?_
        refine Ret.now (ResV.cell rfl (by repeat (first | exact Lds.one rfl | (apply Lds.all; (first | rfl | assumption | (simp <;> fail))) | exact Lds.ione0 | exact Lds.ione rfl | (apply Lds.iall; (first | rfl | assumption | (simp <;> fail))) | apply Lds.next)) (ResV.tmp rfl ResV.nil)) ?_ ⟨_, ⟨rfl, rfl⟩⟩
        exact Gh.trans (Gh.tk (by repeat (first | exact Tk.nil | apply Tk.cons (by repeat (first | exact Pk.here | apply Pk.next))))) (Gh.trans (simA_shut (l := [fz (fun g => RdBytes g (.slice a2 x2.r.value.length c2) x2.r.value), fz (fun g => RdBytes g (.slice av value.length cv) value)]) (b := b) (c := c) (x0, x1, x2, x3) (vals4 (x0, x1, x2, x3) a0 c0 a1 c1 a2 c2 a3 c3) hs) (Gh.tk (by repeat (first | exact Tk.nil | apply Tk.cons (by repeat (first | exact Pk.here | apply Pk.next))))))
      | none =>
        rw [hpo] at hxo
        have hxo' : x2.out = false := hxo
        simp only
        by_cases hlong : 200 < value.length
        · rw [if_pos hlong]
          have hlong' : (200 : Int) < value.length := by omega
          refine Trip.of_body Tryd.func35 rfl Tryd.ntmps35 Tryd.results35 rfl ?_
          refine Wp.seq ?_
          refine Wp.region ?_
          (refine WpL.step (Stp.alloc rfl ?_); intro nb2)
          refine WpL.step (Stp.rd (Rdo.assign rfl) rfl ?_)
          refine WpL.nil ?_
          refine Thn.n ?_
          refine Wp.seq ?_
          refine Wp.seq ?_
          refine Wp.region ?_
          refine WpL.step (Stp.rd (Rdo.move rfl) rfl ?_)
          refine WpL.step (Stp.rd (Rdo.nilCheck rfl) rfl ?_)
          refine WpL.step (Stp.rd (Rdo.fieldAddr0 rfl) rfl ?_)
          refine WpL.step (Stp.rd (Rdo.load rfl (Lds.next (Lds.one rfl))) rfl ?_)
          refine WpL.step (Stp.rd (Rdo.not rfl) rfl ?_)
          refine WpL.step (Stp.rd (Rdo.move rfl) rfl ?_)
          refine WpL.gF rfl rfl (by first | rfl | assumption | (simp only [decide_eq_true_eq, decide_eq_false_iff_not, Bool.not_eq_true', Bool.not_eq_false', List.length_cons, List.length_nil]; first | assumption | omega) | (simp <;> done) | (simp <;> omega)) ?_
          refine WpL.want rfl rfl rfl (Stp.rd (Rdo.move rfl) rfl ?_)
          refine WpL.want rfl rfl rfl (Stp.rd (Rdo.lti rfl rfl) rfl ?_)
          refine WpL.step (Stp.rd (Rdo.pick_f rfl rfl) rfl ?_)
          refine WpL.step (Stp.rd (Rdo.move rfl) rfl ?_)
          refine WpL.want rfl rfl rfl (Stp.rd (Rdo.move rfl) rfl ?_)
          refine WpL.want rfl rfl rfl (Stp.rd (Rdo.gti rfl rfl) rfl ?_)
          refine WpL.step (Stp.rd (Rdo.pick_f rfl rfl) rfl ?_)
          refine WpL.step (Stp.rd (Rdo.move rfl) rfl ?_)
          refine WpL.want rfl rfl rfl (Stp.rd (Rdo.move rfl) rfl ?_)
          refine WpL.want rfl rfl rfl (Stp.rd (Rdo.move rfl) rfl ?_)
          refine WpL.want rfl rfl rfl (Stp.rd (Rdo.nilCheck rfl) rfl ?_)
          refine WpL.want rfl rfl rfl (Stp.rd (Rdo.fieldAddr0 rfl) rfl ?_)
          refine WpL.want rfl rfl rfl (Stp.rd (Rdo.indexArrE (i := 2) rfl rfl rfl (by first | omega | (simp <;> omega))) rfl ?_)
          refine WpL.want rfl rfl rfl (Stp.rd (Rdo.fieldAddr rfl) rfl ?_)
          refine WpL.want rfl rfl rfl (Stp.rd (Rdo.load rfl (Lds.next (Lds.one rfl))) rfl ?_)
          refine WpL.want rfl rfl rfl (Stp.rd (Rdo.not rfl) rfl ?_)
          refine WpL.step (Stp.rd (Rdo.pick_f rfl rfl) rfl ?_)
          refine WpL.nil ?_
          refine Thn.n ?_
          refine Wp.condL rfl (by first | rfl | assumption | (simp only [decide_eq_true_eq, decide_eq_false_iff_not, Bool.not_eq_true', Bool.not_eq_false', List.length_cons, List.length_nil]; first | assumption | omega) | (simp <;> done) | (simp <;> omega)) ?_
          refine Wp.skip ?_
          refine Thn.n ?_
          refine Wp.seq ?_
          refine Wp.region ?_
          refine WpL.step (Stp.rd (Rdo.move rfl) rfl ?_)
          refine WpL.step (Stp.rd (Rdo.move rfl) rfl ?_)
          refine WpL.step (Stp.rd (Rdo.nilCheck rfl) rfl ?_)
          refine WpL.step (Stp.rd (Rdo.fieldAddr0 rfl) rfl ?_)
          refine WpL.step (Stp.rd (Rdo.indexArrE (i := 2) rfl rfl rfl (by first | omega | (simp <;> omega))) rfl ?_)
          refine WpL.step (Stp.rd (Rdo.load rfl (Lds.next (Lds.cut rfl (by first | rfl | assumption | (simp <;> done))))) rfl ?_)
          (refine WpL.step (Stp.alloc rfl ?_); intro nb46)
          refine WpL.step (Stp.storeV rfl rfl (VC.ag _) (by first | rfl | assumption | (simp <;> done)) (by repeat (first | (apply Sts.all; (focus (first | rfl | assumption | (simp <;> done))); (focus (first | exact oneCells1 rfl | assumption | exact oneCells1 (by assumption) | ((repeat (first | assumption | exact oneCells_nil | exact oneCells_bytesC _ | (apply oneCells_cons; (focus (first | rfl | assumption))) | apply oneCells_append)); done) | (simp [oneCells, Value.oneCell'] <;> done)))) | (apply Sts.lp (by repeat (first | exact LPut.nil _ | apply LPut.here | apply LPut.next)); (focus (first | exact oneCells1 rfl | assumption | exact oneCells1 (by assumption) | ((repeat (first | assumption | exact oneCells_nil | exact oneCells_bytesC _ | (apply oneCells_cons; (focus (first | rfl | assumption))) | apply oneCells_append)); done) | (simp [oneCells, Value.oneCell'] <;> done)))) | (refine Sts.row1 (by first | assumption | omega | (simp <;> omega)) (by first | rfl | assumption)) | (refine Sts.rowP (by assumption) (by first | rfl | assumption | (simp <;> done)) (by rfl) (by (first | exact oneCells1 rfl | assumption | exact oneCells1 (by assumption) | ((repeat (first | assumption | exact oneCells_nil | exact oneCells_bytesC _ | (apply oneCells_cons; (focus (first | rfl | assumption))) | apply oneCells_append)); done) | (simp [oneCells, Value.oneCell'] <;> done)))) | apply Sts.next)) ?_)
          refine WpL.nil ?_
          refine Thn.n ?_
          refine Wp.seq ?_
          refine Wp.block ?_
          refine Wp.seq ?_
          refine Wp.region ?_
          refine WpL.step (Stp.rd (Rdo.fieldAddr0 rfl) rfl ?_)
          refine WpL.step (Stp.rd (Rdo.load rfl (Lds.one rfl)) rfl ?_)
          refine WpL.step (Stp.rd (Rdo.assign rfl) rfl ?_)
          refine WpL.nil ?_
          refine Thn.n ?_
          refine Wp.condL rfl (by first | rfl | assumption | (simp only [decide_eq_true_eq, decide_eq_false_iff_not, Bool.not_eq_true', Bool.not_eq_false', List.length_cons, List.length_nil]; first | assumption | omega) | (simp <;> done) | (simp <;> omega)) ?_
          refine Wp.seq ?_
          refine Wp.region ?_
          refine WpL.step (Stp.rd (Rdo.move rfl) rfl ?_)
          refine WpL.step (Stp.rd (Rdo.lenSlice rfl) rfl ?_)
          refine WpL.step (Stp.rd (Rdo.gti rfl rfl) rfl ?_)
          refine WpL.step (Stp.rd (Rdo.assign rfl) rfl ?_)
          refine WpL.nil ?_
          refine Thn.n ?_
          refine Wp.condK rfl (by first | rfl | assumption | (simp only [decide_eq_true_eq, decide_eq_false_iff_not, Bool.not_eq_true', Bool.not_eq_false', List.length_cons, List.length_nil]; first | assumption | omega) | (simp <;> done) | (simp <;> omega)) ?_
          refine Wp.seq ?_
          refine Wp.region ?_
          refine WpL.step (Stp.rd (Rdo.bld rfl (BldL.nil _)) rfl ?_)
          refine WpL.step (Stp.storeV rfl rfl (VC.ag _) (by first | rfl | assumption | (simp <;> done)) (by repeat (first | (apply Sts.all; (focus (first | rfl | assumption | (simp <;> done))); (focus (first | exact oneCells1 rfl | assumption | exact oneCells1 (by assumption) | ((repeat (first | assumption | exact oneCells_nil | exact oneCells_bytesC _ | (apply oneCells_cons; (focus (first | rfl | assumption))) | apply oneCells_append)); done) | (simp [oneCells, Value.oneCell'] <;> done)))) | (apply Sts.lp (by repeat (first | exact LPut.nil _ | apply LPut.here | apply LPut.next)); (focus (first | exact oneCells1 rfl | assumption | exact oneCells1 (by assumption) | ((repeat (first | assumption | exact oneCells_nil | exact oneCells_bytesC _ | (apply oneCells_cons; (focus (first | rfl | assumption))) | apply oneCells_append)); done) | (simp [oneCells, Value.oneCell'] <;> done)))) | (refine Sts.row1 (by first | assumption | omega | (simp <;> omega)) (by first | rfl | assumption)) | (refine Sts.rowP (by assumption) (by first | rfl | assumption | (simp <;> done)) (by rfl) (by (first | exact oneCells1 rfl | assumption | exact oneCells1 (by assumption) | ((repeat (first | assumption | exact oneCells_nil | exact oneCells_bytesC _ | (apply oneCells_cons; (focus (first | rfl | assumption))) | apply oneCells_append)); done) | (simp [oneCells, Value.oneCell'] <;> done)))) | apply Sts.next)) ?_)
          refine WpL.step (Stp.rd (Rdo.assign rfl) rfl ?_)
          refine WpL.nil ?_
          refine Thn.n ?_
          refine Wp.ret ?_
          refine Blk.r ?_
          refine Thn.r ?_
          refine Ret.now (ResV.cell rfl (by repeat (first | exact Lds.one rfl | (apply Lds.all; (first | rfl | assumption | (simp <;> fail))) | exact Lds.ione0 | exact Lds.ione rfl | (apply Lds.iall; (first | rfl | assumption | (simp <;> fail))) | apply Lds.next)) (ResV.tmp rfl ResV.nil)) ?_ ⟨_, ⟨rfl, rfl⟩⟩
          exact Gh.trans (Gh.noBytes (a := none) (c := 0)) (Gh.trans (Gh.tk (by repeat (first | exact Tk.nil | apply Tk.cons (by repeat (first | exact Pk.here | apply Pk.next))))) (Gh.trans (simA_shut (l := [fz (fun g => RdBytes g (.slice none 0 0) []), fz (fun g => RdBytes g (.slice av value.length cv) value)]) (b := b) (c := c) (x0, x1, x2, x3) (vals4 (x0, x1, x2, x3) a0 c0 a1 c1 a2 c2 a3 c3) hs) (Gh.tk (by repeat (first | exact Tk.nil | apply Tk.cons (by repeat (first | exact Pk.here | apply Pk.next)))))))
        rw [if_neg hlong]
        have hlong' : ¬ (200 : Int) < value.length := by omega
        by_cases hmx : p2.next > 1048576
        · rw [if_pos hmx]
          refine Trip.of_body Tryd.func35 rfl Tryd.ntmps35 Tryd.results35 rfl ?_
          refine Wp.seq ?_
          refine Wp.region ?_
          (refine WpL.step (Stp.alloc rfl ?_); intro nb2)
          refine WpL.step (Stp.rd (Rdo.assign rfl) rfl ?_)
          refine WpL.nil ?_
          refine Thn.n ?_
          refine Wp.seq ?_
          refine Wp.seq ?_
          refine Wp.region ?_
          refine WpL.step (Stp.rd (Rdo.move rfl) rfl ?_)
          refine WpL.step (Stp.rd (Rdo.nilCheck rfl) rfl ?_)
          refine WpL.step (Stp.rd (Rdo.fieldAddr0 rfl) rfl ?_)
          refine WpL.step (Stp.rd (Rdo.load rfl (Lds.next (Lds.one rfl))) rfl ?_)
          refine WpL.step (Stp.rd (Rdo.not rfl) rfl ?_)
          refine WpL.step (Stp.rd (Rdo.move rfl) rfl ?_)
          refine WpL.gF rfl rfl (by first | rfl | assumption | (simp only [decide_eq_true_eq, decide_eq_false_iff_not, Bool.not_eq_true', Bool.not_eq_false', List.length_cons, List.length_nil]; first | assumption | omega) | (simp <;> done) | (simp <;> omega)) ?_
          refine WpL.want rfl rfl rfl (Stp.rd (Rdo.move rfl) rfl ?_)
          refine WpL.want rfl rfl rfl (Stp.rd (Rdo.lti rfl rfl) rfl ?_)
          refine WpL.step (Stp.rd (Rdo.pick_f rfl rfl) rfl ?_)
          refine WpL.step (Stp.rd (Rdo.move rfl) rfl ?_)
          refine WpL.want rfl rfl rfl (Stp.rd (Rdo.move rfl) rfl ?_)
          refine WpL.want rfl rfl rfl (Stp.rd (Rdo.gti rfl rfl) rfl ?_)
          refine WpL.step (Stp.rd (Rdo.pick_f rfl rfl) rfl ?_)
          refine WpL.step (Stp.rd (Rdo.move rfl) rfl ?_)
          refine WpL.want rfl rfl rfl (Stp.rd (Rdo.move rfl) rfl ?_)
          refine WpL.want rfl rfl rfl (Stp.rd (Rdo.move rfl) rfl ?_)
          refine WpL.want rfl rfl rfl (Stp.rd (Rdo.nilCheck rfl) rfl ?_)
          refine WpL.want rfl rfl rfl (Stp.rd (Rdo.fieldAddr0 rfl) rfl ?_)
          refine WpL.want rfl rfl rfl (Stp.rd (Rdo.indexArrE (i := 2) rfl rfl rfl (by first | omega | (simp <;> omega))) rfl ?_)
          refine WpL.want rfl rfl rfl (Stp.rd (Rdo.fieldAddr rfl) rfl ?_)
          refine WpL.want rfl rfl rfl (Stp.rd (Rdo.load rfl (Lds.next (Lds.one rfl))) rfl ?_)
          refine WpL.want rfl rfl rfl (Stp.rd (Rdo.not rfl) rfl ?_)
          refine WpL.step (Stp.rd (Rdo.pick_f rfl rfl) rfl ?_)
          refine WpL.nil ?_
          refine Thn.n ?_
          refine Wp.condL rfl (by first | rfl | assumption | (simp only [decide_eq_true_eq, decide_eq_false_iff_not, Bool.not_eq_true', Bool.not_eq_false', List.length_cons, List.length_nil]; first | assumption | omega) | (simp <;> done) | (simp <;> omega)) ?_
          refine Wp.skip ?_
          refine Thn.n ?_
          refine Wp.seq ?_
          refine Wp.region ?_
          refine WpL.step (Stp.rd (Rdo.move rfl) rfl ?_)
          refine WpL.step (Stp.rd (Rdo.move rfl) rfl ?_)
          refine WpL.step (Stp.rd (Rdo.nilCheck rfl) rfl ?_)
          refine WpL.step (Stp.rd (Rdo.fieldAddr0 rfl) rfl ?_)
          refine WpL.step (Stp.rd (Rdo.indexArrE (i := 2) rfl rfl rfl (by first | omega | (simp <;> omega))) rfl ?_)
          refine WpL.step (Stp.rd (Rdo.load rfl (Lds.next (Lds.cut rfl (by first | rfl | assumption | (simp <;> done))))) rfl ?_)
          (refine WpL.step (Stp.alloc rfl ?_); intro nb46)
          refine WpL.step (Stp.storeV rfl rfl (VC.ag _) (by first | rfl | assumption | (simp <;> done)) (by repeat (first | (apply Sts.all; (focus (first | rfl | assumption | (simp <;> done))); (focus (first | exact oneCells1 rfl | assumption | exact oneCells1 (by assumption) | ((repeat (first | assumption | exact oneCells_nil | exact oneCells_bytesC _ | (apply oneCells_cons; (focus (first | rfl | assumption))) | apply oneCells_append)); done) | (simp [oneCells, Value.oneCell'] <;> done)))) | (apply Sts.lp (by repeat (first | exact LPut.nil _ | apply LPut.here | apply LPut.next)); (focus (first | exact oneCells1 rfl | assumption | exact oneCells1 (by assumption) | ((repeat (first | assumption | exact oneCells_nil | exact oneCells_bytesC _ | (apply oneCells_cons; (focus (first | rfl | assumption))) | apply oneCells_append)); done) | (simp [oneCells, Value.oneCell'] <;> done)))) | (refine Sts.row1 (by first | assumption | omega | (simp <;> omega)) (by first | rfl | assumption)) | (refine Sts.rowP (by assumption) (by first | rfl | assumption | (simp <;> done)) (by rfl) (by (first | exact oneCells1 rfl | assumption | exact oneCells1 (by assumption) | ((repeat (first | assumption | exact oneCells_nil | exact oneCells_bytesC _ | (apply oneCells_cons; (focus (first | rfl | assumption))) | apply oneCells_append)); done) | (simp [oneCells, Value.oneCell'] <;> done)))) | apply Sts.next)) ?_)
          refine WpL.nil ?_
          refine Thn.n ?_
          refine Wp.seq ?_
          refine Wp.block ?_
          refine Wp.seq ?_
          refine Wp.region ?_
          refine WpL.step (Stp.rd (Rdo.fieldAddr0 rfl) rfl ?_)
          refine WpL.step (Stp.rd (Rdo.load rfl (Lds.one rfl)) rfl ?_)
          refine WpL.step (Stp.rd (Rdo.assign rfl) rfl ?_)
          refine WpL.nil ?_
          refine Thn.n ?_
          refine Wp.condL rfl (by first | rfl | assumption | (simp only [decide_eq_true_eq, decide_eq_false_iff_not, Bool.not_eq_true', Bool.not_eq_false', List.length_cons, List.length_nil]; first | assumption | omega) | (simp <;> done) | (simp <;> omega)) ?_
          refine Wp.seq ?_
          refine Wp.region ?_
          refine WpL.step (Stp.rd (Rdo.move rfl) rfl ?_)
          refine WpL.step (Stp.rd (Rdo.lenSlice rfl) rfl ?_)
          refine WpL.step (Stp.rd (Rdo.gti rfl rfl) rfl ?_)
          refine WpL.step (Stp.rd (Rdo.assign rfl) rfl ?_)
          refine WpL.nil ?_
          refine Thn.n ?_
          refine Wp.condL rfl (by first | rfl | assumption | (simp only [decide_eq_true_eq, decide_eq_false_iff_not, Bool.not_eq_true', Bool.not_eq_false', List.length_cons, List.length_nil]; first | assumption | omega) | (simp <;> done) | (simp <;> omega)) ?_
          refine Wp.seq ?_
          refine Wp.region ?_
          refine WpL.step (Stp.rd (Rdo.fieldAddr0 rfl) rfl ?_)
          refine WpL.step (Stp.rd (Rdo.load rfl (Lds.one rfl)) rfl ?_)
          refine WpL.step (Stp.rd (Rdo.gti rfl rfl) rfl ?_)
          refine WpL.step (Stp.rd (Rdo.assign rfl) rfl ?_)
          refine WpL.nil ?_
          refine Thn.n ?_
          refine Wp.condK rfl (by first | rfl | assumption | (simp only [decide_eq_true_eq, decide_eq_false_iff_not, Bool.not_eq_true', Bool.not_eq_false', List.length_cons, List.length_nil]; first | assumption | omega) | (simp <;> done) | (simp <;> omega)) ?_
          refine Wp.seq ?_
          refine Wp.region ?_
          refine WpL.step (Stp.rd (Rdo.bld rfl (BldL.nil _)) rfl ?_)
          refine WpL.step (Stp.storeV rfl rfl (VC.ag _) (by first | rfl | assumption | (simp <;> done)) (by repeat (first | (apply Sts.all; (focus (first | rfl | assumption | (simp <;> done))); (focus (first | exact oneCells1 rfl | assumption | exact oneCells1 (by assumption) | ((repeat (first | assumption | exact oneCells_nil | exact oneCells_bytesC _ | (apply oneCells_cons; (focus (first | rfl | assumption))) | apply oneCells_append)); done) | (simp [oneCells, Value.oneCell'] <;> done)))) | (apply Sts.lp (by repeat (first | exact LPut.nil _ | apply LPut.here | apply LPut.next)); (focus (first | exact oneCells1 rfl | assumption | exact oneCells1 (by assumption) | ((repeat (first | assumption | exact oneCells_nil | exact oneCells_bytesC _ | (apply oneCells_cons; (focus (first | rfl | assumption))) | apply oneCells_append)); done) | (simp [oneCells, Value.oneCell'] <;> done)))) | (refine Sts.row1 (by first | assumption | omega | (simp <;> omega)) (by first | rfl | assumption)) | (refine Sts.rowP (by assumption) (by first | rfl | assumption | (simp <;> done)) (by rfl) (by (first | exact oneCells1 rfl | assumption | exact oneCells1 (by assumption) | ((repeat (first | assumption | exact oneCells_nil | exact oneCells_bytesC _ | (apply oneCells_cons; (focus (first | rfl | assumption))) | apply oneCells_append)); done) | (simp [oneCells, Value.oneCell'] <;> done)))) | apply Sts.next)) ?_)
          refine WpL.step (Stp.rd (Rdo.assign rfl) rfl ?_)
          refine WpL.nil ?_
          refine Thn.n ?_
          refine Wp.ret ?_
          refine Blk.r ?_
          refine Thn.r ?_
          refine Ret.now (ResV.cell rfl (by repeat (first | exact Lds.one rfl | (apply Lds.all; (first | rfl | assumption | (simp <;> fail))) | exact Lds.ione0 | exact Lds.ione rfl | (apply Lds.iall; (first | rfl | assumption | (simp <;> fail))) | apply Lds.next)) (ResV.tmp rfl ResV.nil)) ?_ ⟨_, ⟨rfl, rfl⟩⟩
          exact Gh.trans (Gh.noBytes (a := none) (c := 0)) (Gh.trans (Gh.tk (by repeat (first | exact Tk.nil | apply Tk.cons (by repeat (first | exact Pk.here | apply Pk.next))))) (Gh.trans (simA_shut (l := [fz (fun g => RdBytes g (.slice none 0 0) []), fz (fun g => RdBytes g (.slice av value.length cv) value)]) (b := b) (c := c) (x0, x1, x2, x3) (vals4 (x0, x1, x2, x3) a0 c0 a1 c1 a2 c2 a3 c3) hs) (Gh.tk (by repeat (first | exact Tk.nil | apply Tk.cons (by repeat (first | exact Pk.here | apply Pk.next)))))))
        · rw [if_neg hmx]
          rw [← hxn]
          rw [← hxn] at hmx hnb
          have hs2 : Sim { c with parts := c.parts.set (Int.toNat 2) { p2 with next := x2.next + 1, out := some ⟨c.producer, c.epoch, c.last, x2.next, value⟩ } } (x0, x1, { x2 with next := x2.next + 1, out := true, r := ⟨c.producer, c.epoch, c.last, x2.next, value⟩ }, x3) := ⟨p0, p1, { p2 with next := x2.next + 1, out := some ⟨c.producer, c.epoch, c.last, x2.next, value⟩ }, p3, by rw [hp]; rfl, g0.pres rfl rfl, g1.pres rfl rfl, g2.rec_ rfl rfl (by rw [hxn]), g3.pres rfl rfl⟩
          refine Trip.of_body Tryd.func35 rfl Tryd.ntmps35 Tryd.results35 rfl ?_
          refine Wp.seq ?_
          refine Wp.region ?_
          (refine WpL.step (Stp.alloc rfl ?_); intro nb2)
          refine WpL.step (Stp.rd (Rdo.assign rfl) rfl ?_)
          refine WpL.nil ?_
          refine Thn.n ?_
          refine Wp.seq ?_
          refine Wp.seq ?_
          refine Wp.region ?_
          refine WpL.step (Stp.rd (Rdo.move rfl) rfl ?_)
          refine WpL.step (Stp.rd (Rdo.nilCheck rfl) rfl ?_)
          refine WpL.step (Stp.rd (Rdo.fieldAddr0 rfl) rfl ?_)
          refine WpL.step (Stp.rd (Rdo.load rfl (Lds.next (Lds.one rfl))) rfl ?_)
          refine WpL.step (Stp.rd (Rdo.not rfl) rfl ?_)
          refine WpL.step (Stp.rd (Rdo.move rfl) rfl ?_)
          refine WpL.gF rfl rfl (by first | rfl | assumption | (simp only [decide_eq_true_eq, decide_eq_false_iff_not, Bool.not_eq_true', Bool.not_eq_false', List.length_cons, List.length_nil]; first | assumption | omega) | (simp <;> done) | (simp <;> omega)) ?_
          refine WpL.want rfl rfl rfl (Stp.rd (Rdo.move rfl) rfl ?_)
          refine WpL.want rfl rfl rfl (Stp.rd (Rdo.lti rfl rfl) rfl ?_)
          refine WpL.step (Stp.rd (Rdo.pick_f rfl rfl) rfl ?_)
          refine WpL.step (Stp.rd (Rdo.move rfl) rfl ?_)
          refine WpL.want rfl rfl rfl (Stp.rd (Rdo.move rfl) rfl ?_)
          refine WpL.want rfl rfl rfl (Stp.rd (Rdo.gti rfl rfl) rfl ?_)
          refine WpL.step (Stp.rd (Rdo.pick_f rfl rfl) rfl ?_)
          refine WpL.step (Stp.rd (Rdo.move rfl) rfl ?_)
          refine WpL.want rfl rfl rfl (Stp.rd (Rdo.move rfl) rfl ?_)
          refine WpL.want rfl rfl rfl (Stp.rd (Rdo.move rfl) rfl ?_)
          refine WpL.want rfl rfl rfl (Stp.rd (Rdo.nilCheck rfl) rfl ?_)
          refine WpL.want rfl rfl rfl (Stp.rd (Rdo.fieldAddr0 rfl) rfl ?_)
          refine WpL.want rfl rfl rfl (Stp.rd (Rdo.indexArrE (i := 2) rfl rfl rfl (by first | omega | (simp <;> omega))) rfl ?_)
          refine WpL.want rfl rfl rfl (Stp.rd (Rdo.fieldAddr rfl) rfl ?_)
          refine WpL.want rfl rfl rfl (Stp.rd (Rdo.load rfl (Lds.next (Lds.one rfl))) rfl ?_)
          refine WpL.want rfl rfl rfl (Stp.rd (Rdo.not rfl) rfl ?_)
          refine WpL.step (Stp.rd (Rdo.pick_f rfl rfl) rfl ?_)
          refine WpL.nil ?_
          refine Thn.n ?_
          refine Wp.condL rfl (by first | rfl | assumption | (simp only [decide_eq_true_eq, decide_eq_false_iff_not, Bool.not_eq_true', Bool.not_eq_false', List.length_cons, List.length_nil]; first | assumption | omega) | (simp <;> done) | (simp <;> omega)) ?_
          refine Wp.skip ?_
          refine Thn.n ?_
          refine Wp.seq ?_
          refine Wp.region ?_
          refine WpL.step (Stp.rd (Rdo.move rfl) rfl ?_)
          refine WpL.step (Stp.rd (Rdo.move rfl) rfl ?_)
          refine WpL.step (Stp.rd (Rdo.nilCheck rfl) rfl ?_)
          refine WpL.step (Stp.rd (Rdo.fieldAddr0 rfl) rfl ?_)
          refine WpL.step (Stp.rd (Rdo.indexArrE (i := 2) rfl rfl rfl (by first | omega | (simp <;> omega))) rfl ?_)
          refine WpL.step (Stp.rd (Rdo.load rfl (Lds.next (Lds.cut rfl (by first | rfl | assumption | (simp <;> done))))) rfl ?_)
          (refine WpL.step (Stp.alloc rfl ?_); intro nb46)
          refine WpL.step (Stp.storeV rfl rfl (VC.ag _) (by first | rfl | assumption | (simp <;> done)) (by repeat (first | (apply Sts.all; (focus (first | rfl | assumption | (simp <;> done))); (focus (first | exact oneCells1 rfl | assumption | exact oneCells1 (by assumption) | ((repeat (first | assumption | exact oneCells_nil | exact oneCells_bytesC _ | (apply oneCells_cons; (focus (first | rfl | assumption))) | apply oneCells_append)); done) | (simp [oneCells, Value.oneCell'] <;> done)))) | (apply Sts.lp (by repeat (first | exact LPut.nil _ | apply LPut.here | apply LPut.next)); (focus (first | exact oneCells1 rfl | assumption | exact oneCells1 (by assumption) | ((repeat (first | assumption | exact oneCells_nil | exact oneCells_bytesC _ | (apply oneCells_cons; (focus (first | rfl | assumption))) | apply oneCells_append)); done) | (simp [oneCells, Value.oneCell'] <;> done)))) | (refine Sts.row1 (by first | assumption | omega | (simp <;> omega)) (by first | rfl | assumption)) | (refine Sts.rowP (by assumption) (by first | rfl | assumption | (simp <;> done)) (by rfl) (by (first | exact oneCells1 rfl | assumption | exact oneCells1 (by assumption) | ((repeat (first | assumption | exact oneCells_nil | exact oneCells_bytesC _ | (apply oneCells_cons; (focus (first | rfl | assumption))) | apply oneCells_append)); done) | (simp [oneCells, Value.oneCell'] <;> done)))) | apply Sts.next)) ?_)
          refine WpL.nil ?_
          refine Thn.n ?_
          refine Wp.seq ?_
          refine Wp.block ?_
          refine Wp.seq ?_
          refine Wp.region ?_
          refine WpL.step (Stp.rd (Rdo.fieldAddr0 rfl) rfl ?_)
          refine WpL.step (Stp.rd (Rdo.load rfl (Lds.one rfl)) rfl ?_)
          refine WpL.step (Stp.rd (Rdo.assign rfl) rfl ?_)
          refine WpL.nil ?_
          refine Thn.n ?_
          refine Wp.condL rfl (by first | rfl | assumption | (simp only [decide_eq_true_eq, decide_eq_false_iff_not, Bool.not_eq_true', Bool.not_eq_false', List.length_cons, List.length_nil]; first | assumption | omega) | (simp <;> done) | (simp <;> omega)) ?_
          refine Wp.seq ?_
          refine Wp.region ?_
          refine WpL.step (Stp.rd (Rdo.move rfl) rfl ?_)
          refine WpL.step (Stp.rd (Rdo.lenSlice rfl) rfl ?_)
          refine WpL.step (Stp.rd (Rdo.gti rfl rfl) rfl ?_)
          refine WpL.step (Stp.rd (Rdo.assign rfl) rfl ?_)
          refine WpL.nil ?_
          refine Thn.n ?_
          refine Wp.condL rfl (by first | rfl | assumption | (simp only [decide_eq_true_eq, decide_eq_false_iff_not, Bool.not_eq_true', Bool.not_eq_false', List.length_cons, List.length_nil]; first | assumption | omega) | (simp <;> done) | (simp <;> omega)) ?_
          refine Wp.seq ?_
          refine Wp.region ?_
          refine WpL.step (Stp.rd (Rdo.fieldAddr0 rfl) rfl ?_)
          refine WpL.step (Stp.rd (Rdo.load rfl (Lds.one rfl)) rfl ?_)
          refine WpL.step (Stp.rd (Rdo.gti rfl rfl) rfl ?_)
          refine WpL.step (Stp.rd (Rdo.assign rfl) rfl ?_)
          refine WpL.nil ?_
          refine Thn.n ?_
          refine Wp.condL rfl (by first | rfl | assumption | (simp only [decide_eq_true_eq, decide_eq_false_iff_not, Bool.not_eq_true', Bool.not_eq_false', List.length_cons, List.length_nil]; first | assumption | omega) | (simp <;> done) | (simp <;> omega)) ?_
          refine Wp.skip ?_
          refine Blk.n ?_
          refine Thn.n ?_
          refine Wp.seq ?_
          refine Wp.draw (by kernel_rfl) ?_
          refine WpR.take (i := 0) rfl (by kernel_rfl) (by kernel_rfl) (by kernel_rfl) (Rdo.move rfl) rfl ?_
          refine WpR.take (i := 1) rfl (by kernel_rfl) (by kernel_rfl) (by kernel_rfl) (Rdo.nilCheck rfl) rfl ?_
          refine WpR.take (i := 2) rfl (by kernel_rfl) (by kernel_rfl) (by kernel_rfl) (Rdo.fieldAddr0 rfl) rfl ?_
          refine WpR.take (i := 4) rfl (by kernel_rfl) (by kernel_rfl) (by kernel_rfl) (Rdo.move rfl) rfl ?_
          refine WpR.take (i := 5) rfl (by kernel_rfl) (by kernel_rfl) (by kernel_rfl) (Rdo.nilCheck rfl) rfl ?_
          refine WpR.take (i := 6) rfl (by kernel_rfl) (by kernel_rfl) (by kernel_rfl) (Rdo.fieldAddr0 rfl) rfl ?_
          refine WpR.take (i := 8) rfl (by kernel_rfl) (by kernel_rfl) (by kernel_rfl) (Rdo.move rfl) rfl ?_
          refine WpR.take (i := 9) rfl (by kernel_rfl) (by kernel_rfl) (by kernel_rfl) (Rdo.nilCheck rfl) rfl ?_
          refine WpR.take (i := 10) rfl (by kernel_rfl) (by kernel_rfl) (by kernel_rfl) (Rdo.fieldAddr0 rfl) rfl ?_
          refine WpR.take (i := 12) rfl (by kernel_rfl) (by kernel_rfl) (by kernel_rfl) (Rdo.fieldAddr0 rfl) rfl ?_
          refine WpR.take (i := 15) rfl (by kernel_rfl) (by kernel_rfl) (by kernel_rfl) (Rdo.move rfl) rfl ?_
          refine WpR.phaseL (m := 1) #[true, true, true, true, true, true, true, true, true, true, true, true, true, true, true, true, true, true, true, false] 8 _ rfl (by kernel_rfl) (Tk.cons Pk.here (Tk.cons (Pk.next Pk.here) Tk.nil)) ?_
          refine WpA.take (i := 3) rfl rfl (by kernel_rfl) (by kernel_rfl) (by kernel_rfl) (Rdo.load rfl (Lds.next (Lds.one rfl))) rfl ?_
          refine WpA.take (i := 7) rfl rfl (by kernel_rfl) (by kernel_rfl) (by kernel_rfl) (Rdo.load rfl (Lds.next (Lds.one rfl))) rfl ?_
          refine WpA.take (i := 11) rfl rfl (by kernel_rfl) (by kernel_rfl) (by kernel_rfl) (Rdo.load rfl (Lds.next (Lds.one rfl))) rfl ?_
          refine WpA.take (i := 13) rfl rfl (by kernel_rfl) (by kernel_rfl) (by kernel_rfl) (Rdo.load rfl (Lds.one rfl)) rfl ?_
          (refine WpA.one (i := 14) rfl (by kernel_rfl) (Stp.slice0 rfl ?_); intro nb99)
          (refine WpA.one (i := 16) rfl (by kernel_rfl) (Stp.append0P rfl rfl Pk.here (Src.next (Src.next (Src.next (Src.next (Src.next Src.frozen))))) (by first | rfl | (simp <;> done) | (simp <;> omega)) (by first | assumption | exact oneCells1 rfl | exact oneCells1 (by assumption) | exact oneCells_bytesC _ | exact oneCells_votesC _ | (simp [oneCells, Value.oneCell'] <;> done)) (by first | omega | (simp <;> omega)) (by first | omega | (simp <;> omega)) rfl (by first | rfl | (simp <;> done)) ?_); intro na100 nc100)
          refine WpA.take (i := 17) rfl rfl (by kernel_rfl) (by kernel_rfl) (by kernel_rfl) (Rdo.bld rfl (BldL.cons rfl (VC.i _ _) (by first | rfl | assumption | (simp <;> done)) (by repeat (first | exact LPut.nil _ | apply LPut.here | apply LPut.next)) (BldL.cons rfl (VC.i _ _) (by first | rfl | assumption | (simp <;> done)) (by repeat (first | exact LPut.nil _ | apply LPut.here | apply LPut.next)) (BldL.cons rfl (VC.i _ _) (by first | rfl | assumption | (simp <;> done)) (by repeat (first | exact LPut.nil _ | apply LPut.here | apply LPut.next)) (BldL.cons rfl (VC.i _ _) (by first | rfl | assumption | (simp <;> done)) (by repeat (first | exact LPut.nil _ | apply LPut.here | apply LPut.next)) (BldL.cons rfl (VC.sl _ _ _) (by first | rfl | assumption | (simp <;> done)) (by repeat (first | exact LPut.nil _ | apply LPut.here | apply LPut.next)) (BldL.nil _))))))) rfl ?_
          refine WpA.take (i := 18) rfl rfl (by kernel_rfl) (by kernel_rfl) (by kernel_rfl) (Rdo.fieldAddr0 rfl) rfl ?_
          refine WpA.stop (by kernel_rfl) ?_
          refine WpR.lst (by simp only [List.cons_append, List.nil_append]; exact rfl) ?_
          refine WpR.one (i := 19) rfl (by kernel_rfl) (Stp.storeV rfl rfl (VC.ag _) (by first | rfl | assumption | (simp <;> done)) (by repeat (first | (apply Sts.all; (focus (first | rfl | assumption | (simp <;> done))); (focus (first | exact oneCells1 rfl | assumption | exact oneCells1 (by assumption) | ((repeat (first | assumption | exact oneCells_nil | exact oneCells_bytesC _ | (apply oneCells_cons; (focus (first | rfl | assumption))) | apply oneCells_append)); done) | (simp [oneCells, Value.oneCell'] <;> done)))) | (apply Sts.lp (by repeat (first | exact LPut.nil _ | apply LPut.here | apply LPut.next)); (focus (first | exact oneCells1 rfl | assumption | exact oneCells1 (by assumption) | ((repeat (first | assumption | exact oneCells_nil | exact oneCells_bytesC _ | (apply oneCells_cons; (focus (first | rfl | assumption))) | apply oneCells_append)); done) | (simp [oneCells, Value.oneCell'] <;> done)))) | (refine Sts.row1 (by first | assumption | omega | (simp <;> omega)) (by first | rfl | assumption)) | (refine Sts.rowP (by assumption) (by first | rfl | assumption | (simp <;> done)) (by rfl) (by (first | exact oneCells1 rfl | assumption | exact oneCells1 (by assumption) | ((repeat (first | assumption | exact oneCells_nil | exact oneCells_bytesC _ | (apply oneCells_cons; (focus (first | rfl | assumption))) | apply oneCells_append)); done) | (simp [oneCells, Value.oneCell'] <;> done)))) | apply Sts.next)) ?_)
          refine WpR.done (by kernel_rfl) ?_
          refine Thn.n ?_
          refine Wp.seq ?_
          refine Wp.region ?_
          refine WpL.step (Stp.rd (Rdo.fieldAddr0 rfl) rfl ?_)
          refine WpL.step (Stp.rd (Rdo.load rfl (Lds.one rfl)) rfl ?_)
          refine WpL.step (Stp.rd (Rdo.add64 rfl rfl (by first | omega | (dsimp only; omega))) rfl ?_)
          refine WpL.step (Stp.rd (Rdo.fieldAddr0 rfl) rfl ?_)
          refine WpL.step (Stp.storeV rfl rfl (VC.i _ _) rfl (Sts.lp (by repeat (first | exact LPut.nil _ | apply LPut.here | apply LPut.next)) (oneCells1 rfl)) ?_)
          refine WpL.nil ?_
          refine Thn.n ?_
          refine Wp.seq ?_
          refine Wp.region ?_
          refine WpL.step (Stp.rd (Rdo.fieldAddr0 rfl) rfl ?_)
          refine WpL.step (Stp.storeV rfl rfl (VC.b _) rfl (Sts.lp (by repeat (first | exact LPut.nil _ | apply LPut.here | apply LPut.next)) (oneCells1 rfl)) ?_)
          refine WpL.nil ?_
          refine Thn.n ?_
          refine Wp.seq ?_
          refine Wp.draw (by kernel_rfl) ?_
          refine WpR.take (i := 0) rfl (by kernel_rfl) (by kernel_rfl) (by kernel_rfl) (Rdo.move rfl) rfl ?_
          refine WpR.take (i := 1) rfl (by kernel_rfl) (by kernel_rfl) (by kernel_rfl) (Rdo.move rfl) rfl ?_
          refine WpR.take (i := 3) rfl (by kernel_rfl) (by kernel_rfl) (by kernel_rfl) (Rdo.nilCheck rfl) rfl ?_
          refine WpR.take (i := 4) rfl (by kernel_rfl) (by kernel_rfl) (by kernel_rfl) (Rdo.fieldAddr0 rfl) rfl ?_
          refine WpR.one (i := 2) rfl (by kernel_rfl) (Stp.rd (Rdo.load rfl (by apply Lds.all; (first | rfl | assumption | (simp <;> fail)))) rfl ?_)
          refine WpR.take (i := 5) rfl (by kernel_rfl) (by kernel_rfl) (by kernel_rfl) (Rdo.indexArrE (i := 2) rfl rfl rfl (by first | omega | (simp <;> omega))) rfl ?_
          refine WpR.one (i := 6) rfl (by kernel_rfl) (Stp.storeV rfl rfl (VC.ag _) (by first | rfl | assumption | (simp <;> done)) (by repeat (first | (apply Sts.all; (focus (first | rfl | assumption | (simp <;> done))); (focus (first | exact oneCells1 rfl | assumption | exact oneCells1 (by assumption) | ((repeat (first | assumption | exact oneCells_nil | exact oneCells_bytesC _ | (apply oneCells_cons; (focus (first | rfl | assumption))) | apply oneCells_append)); done) | (simp [oneCells, Value.oneCell'] <;> done)))) | (apply Sts.lp (by repeat (first | exact LPut.nil _ | apply LPut.here | apply LPut.next)); (focus (first | exact oneCells1 rfl | assumption | exact oneCells1 (by assumption) | ((repeat (first | assumption | exact oneCells_nil | exact oneCells_bytesC _ | (apply oneCells_cons; (focus (first | rfl | assumption))) | apply oneCells_append)); done) | (simp [oneCells, Value.oneCell'] <;> done)))) | (refine Sts.row1 (by first | assumption | omega | (simp <;> omega)) (by first | rfl | assumption)) | (refine Sts.rowP (by assumption) (by first | rfl | assumption | (simp <;> done)) (by rfl) (by (first | exact oneCells1 rfl | assumption | exact oneCells1 (by assumption) | ((repeat (first | assumption | exact oneCells_nil | exact oneCells_bytesC _ | (apply oneCells_cons; (focus (first | rfl | assumption))) | apply oneCells_append)); done) | (simp [oneCells, Value.oneCell'] <;> done)))) | apply Sts.next)) ?_)
          refine WpR.done (by kernel_rfl) ?_
          refine Thn.n ?_
          refine Wp.seq ?_
          refine Wp.region ?_
          refine WpL.step (Stp.rd (Rdo.fieldAddr0 rfl) rfl ?_)
          refine WpL.step (Stp.rd (Rdo.load rfl (Lds.cut rfl (by first | rfl | assumption | (simp <;> done)))) rfl ?_)
          refine WpL.step (Stp.storeV rfl rfl (VC.ag _) (by first | rfl | assumption | (simp <;> done)) (by repeat (first | (apply Sts.all; (focus (first | rfl | assumption | (simp <;> done))); (focus (first | exact oneCells1 rfl | assumption | exact oneCells1 (by assumption) | ((repeat (first | assumption | exact oneCells_nil | exact oneCells_bytesC _ | (apply oneCells_cons; (focus (first | rfl | assumption))) | apply oneCells_append)); done) | (simp [oneCells, Value.oneCell'] <;> done)))) | (apply Sts.lp (by repeat (first | exact LPut.nil _ | apply LPut.here | apply LPut.next)); (focus (first | exact oneCells1 rfl | assumption | exact oneCells1 (by assumption) | ((repeat (first | assumption | exact oneCells_nil | exact oneCells_bytesC _ | (apply oneCells_cons; (focus (first | rfl | assumption))) | apply oneCells_append)); done) | (simp [oneCells, Value.oneCell'] <;> done)))) | (refine Sts.row1 (by first | assumption | omega | (simp <;> omega)) (by first | rfl | assumption)) | (refine Sts.rowP (by assumption) (by first | rfl | assumption | (simp <;> done)) (by rfl) (by (first | exact oneCells1 rfl | assumption | exact oneCells1 (by assumption) | ((repeat (first | assumption | exact oneCells_nil | exact oneCells_bytesC _ | (apply oneCells_cons; (focus (first | rfl | assumption))) | apply oneCells_append)); done) | (simp [oneCells, Value.oneCell'] <;> done)))) | apply Sts.next)) ?_)
          refine WpL.step (Stp.rd (Rdo.assign rfl) rfl ?_)
          refine WpL.nil ?_
          refine Thn.n ?_
          refine Wp.ret ?_
          refine Ret.now (ResV.cell rfl (by repeat (first | exact Lds.one rfl | (apply Lds.all; (first | rfl | assumption | (simp <;> fail))) | exact Lds.ione0 | exact Lds.ione rfl | (apply Lds.iall; (first | rfl | assumption | (simp <;> fail))) | apply Lds.next)) (ResV.tmp rfl ResV.nil)) ?_ ⟨_, ⟨rfl, rfl⟩⟩
          refine Gh.trans (Gh.ice (t := 5) (sz := 1) (n := value.length) (v := .slice na100 value.length nc100) (xs := bytesC value) (by repeat (first | exact Pk.here | apply Pk.next))) ?_
          refine Gh.trans (Gh.fzAlso (Φ := fun g => RdBytes g (.slice na100 value.length nc100) value) Pk.here fun g h => h) ?_
          exact Gh.trans (Gh.tk (by repeat (first | exact Tk.nil | apply Tk.cons (by repeat (first | exact Pk.here | apply Pk.next))))) (Gh.trans (simA_shut (l := [fz (fun g => RdBytes g (.slice na100 value.length nc100) value), fz (fun g => RdBytes g (.slice av value.length cv) value)]) (b := b) (x0, x1, { x2 with next := x2.next + 1, out := true, r := ⟨c.producer, c.epoch, c.last, x2.next, value⟩ }, x3) (.slice a0 x0.r.value.length c0, .slice a1 x1.r.value.length c1, .slice na100 value.length nc100, .slice a3 x3.r.value.length c3) hs2) (Gh.tk (by repeat (first | exact Tk.nil | apply Tk.cons (by repeat (first | exact Pk.here | apply Pk.next))))))
    · rw [if_pos (.inr hb)]
      rw [decide_eq_false hb] at hbg
      refine Trip.of_body Tryd.func35 rfl Tryd.ntmps35 Tryd.results35 rfl ?_
      refine Wp.seq ?_
      refine Wp.region ?_
      (refine WpL.step (Stp.alloc rfl ?_); intro nb2)
      refine WpL.step (Stp.rd (Rdo.assign rfl) rfl ?_)
      refine WpL.nil ?_
      refine Thn.n ?_
      refine Wp.seq ?_
      refine Wp.seq ?_
      refine Wp.region ?_
      refine WpL.step (Stp.rd (Rdo.move rfl) rfl ?_)
      refine WpL.step (Stp.rd (Rdo.nilCheck rfl) rfl ?_)
      refine WpL.step (Stp.rd (Rdo.fieldAddr0 rfl) rfl ?_)
      refine WpL.step (Stp.rd (Rdo.load rfl (Lds.next (Lds.one rfl))) rfl ?_)
      refine WpL.step (Stp.rd (Rdo.not rfl) rfl ?_)
      refine WpL.step (Stp.rd (Rdo.move rfl) rfl ?_)
      refine WpL.gF rfl rfl (by first | rfl | assumption | (simp only [decide_eq_true_eq, decide_eq_false_iff_not, Bool.not_eq_true', Bool.not_eq_false', List.length_cons, List.length_nil]; first | assumption | omega) | (simp <;> done) | (simp <;> omega)) ?_
      refine WpL.want rfl rfl rfl (Stp.rd (Rdo.move rfl) rfl ?_)
      refine WpL.want rfl rfl rfl (Stp.rd (Rdo.lti rfl rfl) rfl ?_)
      refine WpL.step (Stp.rd (Rdo.pick_f rfl rfl) rfl ?_)
      refine WpL.step (Stp.rd (Rdo.move rfl) rfl ?_)
      refine WpL.want rfl rfl rfl (Stp.rd (Rdo.move rfl) rfl ?_)
      refine WpL.want rfl rfl rfl (Stp.rd (Rdo.gti rfl rfl) rfl ?_)
      refine WpL.step (Stp.rd (Rdo.pick_f rfl rfl) rfl ?_)
      refine WpL.step (Stp.rd (Rdo.move rfl) rfl ?_)
      refine WpL.want rfl rfl rfl (Stp.rd (Rdo.move rfl) rfl ?_)
      refine WpL.want rfl rfl rfl (Stp.rd (Rdo.move rfl) rfl ?_)
      refine WpL.want rfl rfl rfl (Stp.rd (Rdo.nilCheck rfl) rfl ?_)
      refine WpL.want rfl rfl rfl (Stp.rd (Rdo.fieldAddr0 rfl) rfl ?_)
      refine WpL.want rfl rfl rfl (Stp.rd (Rdo.indexArrE (i := 2) rfl rfl rfl (by first | omega | (simp <;> omega))) rfl ?_)
      refine WpL.want rfl rfl rfl (Stp.rd (Rdo.fieldAddr rfl) rfl ?_)
      refine WpL.want rfl rfl rfl (Stp.rd (Rdo.load rfl (Lds.next (Lds.one rfl))) rfl ?_)
      refine WpL.want rfl rfl rfl (Stp.rd (Rdo.not rfl) rfl ?_)
      refine WpL.step (Stp.rd (Rdo.pick_f rfl rfl) rfl ?_)
      refine WpL.nil ?_
      refine Thn.n ?_
      refine Wp.condK rfl (by first | rfl | assumption | (simp only [decide_eq_true_eq, decide_eq_false_iff_not, Bool.not_eq_true', Bool.not_eq_false', List.length_cons, List.length_nil]; first | assumption | omega) | (simp <;> done) | (simp <;> omega)) ?_
      refine Wp.seq ?_
      refine Wp.region ?_
      refine WpL.step (Stp.rd (Rdo.bld rfl (BldL.nil _)) rfl ?_)
      refine WpL.step (Stp.storeV rfl rfl (VC.ag _) (by first | rfl | assumption | (simp <;> done)) (by repeat (first | (apply Sts.all; (focus (first | rfl | assumption | (simp <;> done))); (focus (first | exact oneCells1 rfl | assumption | exact oneCells1 (by assumption) | ((repeat (first | assumption | exact oneCells_nil | exact oneCells_bytesC _ | (apply oneCells_cons; (focus (first | rfl | assumption))) | apply oneCells_append)); done) | (simp [oneCells, Value.oneCell'] <;> done)))) | (apply Sts.lp (by repeat (first | exact LPut.nil _ | apply LPut.here | apply LPut.next)); (focus (first | exact oneCells1 rfl | assumption | exact oneCells1 (by assumption) | ((repeat (first | assumption | exact oneCells_nil | exact oneCells_bytesC _ | (apply oneCells_cons; (focus (first | rfl | assumption))) | apply oneCells_append)); done) | (simp [oneCells, Value.oneCell'] <;> done)))) | (refine Sts.row1 (by first | assumption | omega | (simp <;> omega)) (by first | rfl | assumption)) | (refine Sts.rowP (by assumption) (by first | rfl | assumption | (simp <;> done)) (by rfl) (by (first | exact oneCells1 rfl | assumption | exact oneCells1 (by assumption) | ((repeat (first | assumption | exact oneCells_nil | exact oneCells_bytesC _ | (apply oneCells_cons; (focus (first | rfl | assumption))) | apply oneCells_append)); done) | (simp [oneCells, Value.oneCell'] <;> done)))) | apply Sts.next)) ?_)
      refine WpL.step (Stp.rd (Rdo.assign rfl) rfl ?_)
      refine WpL.nil ?_
      refine Thn.n ?_
      refine Wp.ret ?_
      refine Thn.r ?_
      refine Ret.now (ResV.cell rfl (by repeat (first | exact Lds.one rfl | (apply Lds.all; (first | rfl | assumption | (simp <;> fail))) | exact Lds.ione0 | exact Lds.ione rfl | (apply Lds.iall; (first | rfl | assumption | (simp <;> fail))) | apply Lds.next)) (ResV.tmp rfl ResV.nil)) ?_ ⟨_, ⟨rfl, rfl⟩⟩
      exact Gh.trans (Gh.noBytes (a := none) (c := 0)) (Gh.trans (Gh.tk (by repeat (first | exact Tk.nil | apply Tk.cons (by repeat (first | exact Pk.here | apply Pk.next))))) (Gh.trans (simA_shut (l := [fz (fun g => RdBytes g (.slice none 0 0) []), fz (fun g => RdBytes g (.slice av value.length cv) value)]) (b := b) (c := c) (x0, x1, x2, x3) (vals4 (x0, x1, x2, x3) a0 c0 a1 c1 a2 c2 a3 c3) hs) (Gh.tk (by repeat (first | exact Tk.nil | apply Tk.cons (by repeat (first | exact Pk.here | apply Pk.next)))))))
  · have hpt : c.part 3 = p3 := by unfold CliS.part; rw [hp]; rfl
    rw [hpt]
    have hbg := g3.2.2.2 ho
    have hxn := g3.1
    have hxo := g3.2.1
    have hnb := hpn p3 (by rw [hp]; simp)
    by_cases hb : p3.begun = c.last
    · rw [if_neg (by rw [ho]; simp [hb])]
      rw [decide_eq_true hb] at hbg
      cases hpo : p3.out with
      | some r =>
        rw [hpo] at hxo
        have hxo' : x3.out = true := hxo
        obtain rfl := g3.2.2.1 r hpo
        simp only
        refine Trip.gh (Gh.trans (Gh.fzAlso (Φ := fun g => RdBytes g (.slice a3 x3.r.value.length c3) x3.r.value) (by repeat (first | exact Pk.here | apply Pk.next)) fun g h => h) (Gh.tk (l' := [cel b 63 (simC c (x0, x1, x2, x3) (vals4 (x0, x1, x2, x3) a0 c0 a1 c1 a2 c2 a3 c3)), simF (.slice a0 x0.r.value.length c0) x0, simF (.slice a1 x1.r.value.length c1) x1, simF (.slice a2 x2.r.value.length c2) x2, simF (.slice a3 x3.r.value.length c3) x3, fz (fun g => RdBytes g (.slice a3 x3.r.value.length c3) x3.r.value), fz (fun g => RdBytes g (.slice av value.length cv) value)]) (by repeat (first | exact Tk.nil | apply Tk.cons (by repeat (first | exact Pk.here | apply Pk.next)))))) ?_
        refine Trip.of_body Tryd.func35 rfl Tryd.ntmps35 Tryd.results35 rfl ?_
        refine Wp.seq ?_
        refine Wp.region ?_
        (refine WpL.step (Stp.alloc rfl ?_); intro nb2)
        refine WpL.step (Stp.rd (Rdo.assign rfl) rfl ?_)
        refine WpL.nil ?_
        refine Thn.n ?_
        refine Wp.seq ?_
        refine Wp.seq ?_
        refine Wp.region ?_
        refine WpL.step (Stp.rd (Rdo.move rfl) rfl ?_)
        refine WpL.step (Stp.rd (Rdo.nilCheck rfl) rfl ?_)
        refine WpL.step (Stp.rd (Rdo.fieldAddr0 rfl) rfl ?_)
        refine WpL.step (Stp.rd (Rdo.load rfl (Lds.next (Lds.one rfl))) rfl ?_)
        refine WpL.step (Stp.rd (Rdo.not rfl) rfl ?_)
        refine WpL.step (Stp.rd (Rdo.move rfl) rfl ?_)
        refine WpL.gF rfl rfl (by first | rfl | assumption | (simp only [decide_eq_true_eq, decide_eq_false_iff_not, Bool.not_eq_true', Bool.not_eq_false', List.length_cons, List.length_nil]; first | assumption | omega) | (simp <;> done) | (simp <;> omega)) ?_
        refine WpL.want rfl rfl rfl (Stp.rd (Rdo.move rfl) rfl ?_)
        refine WpL.want rfl rfl rfl (Stp.rd (Rdo.lti rfl rfl) rfl ?_)
        refine WpL.step (Stp.rd (Rdo.pick_f rfl rfl) rfl ?_)
        refine WpL.step (Stp.rd (Rdo.move rfl) rfl ?_)
        refine WpL.want rfl rfl rfl (Stp.rd (Rdo.move rfl) rfl ?_)
        refine WpL.want rfl rfl rfl (Stp.rd (Rdo.gti rfl rfl) rfl ?_)
        refine WpL.step (Stp.rd (Rdo.pick_f rfl rfl) rfl ?_)
        refine WpL.step (Stp.rd (Rdo.move rfl) rfl ?_)
        refine WpL.want rfl rfl rfl (Stp.rd (Rdo.move rfl) rfl ?_)
        refine WpL.want rfl rfl rfl (Stp.rd (Rdo.move rfl) rfl ?_)
        refine WpL.want rfl rfl rfl (Stp.rd (Rdo.nilCheck rfl) rfl ?_)
        refine WpL.want rfl rfl rfl (Stp.rd (Rdo.fieldAddr0 rfl) rfl ?_)
        refine WpL.want rfl rfl rfl (Stp.rd (Rdo.indexArrE (i := 3) rfl rfl rfl (by first | omega | (simp <;> omega))) rfl ?_)
        refine WpL.want rfl rfl rfl (Stp.rd (Rdo.fieldAddr rfl) rfl ?_)
        refine WpL.want rfl rfl rfl (Stp.rd (Rdo.load rfl (Lds.next (Lds.one rfl))) rfl ?_)
        refine WpL.want rfl rfl rfl (Stp.rd (Rdo.not rfl) rfl ?_)
        refine WpL.step (Stp.rd (Rdo.pick_f rfl rfl) rfl ?_)
        refine WpL.nil ?_
        refine Thn.n ?_
        refine Wp.condL rfl (by first | rfl | assumption | (simp only [decide_eq_true_eq, decide_eq_false_iff_not, Bool.not_eq_true', Bool.not_eq_false', List.length_cons, List.length_nil]; first | assumption | omega) | (simp <;> done) | (simp <;> omega)) ?_
        refine Wp.skip ?_
        refine Thn.n ?_
        refine Wp.seq ?_
        refine Wp.region ?_
        refine WpL.step (Stp.rd (Rdo.move rfl) rfl ?_)
        refine WpL.step (Stp.rd (Rdo.move rfl) rfl ?_)
        refine WpL.step (Stp.rd (Rdo.nilCheck rfl) rfl ?_)
        refine WpL.step (Stp.rd (Rdo.fieldAddr0 rfl) rfl ?_)
        refine WpL.step (Stp.rd (Rdo.indexArrE (i := 3) rfl rfl rfl (by first | omega | (simp <;> omega))) rfl ?_)
        refine WpL.step (Stp.rd (Rdo.load rfl (Lds.next (Lds.cut rfl (by first | rfl | assumption | (simp <;> done))))) rfl ?_)
        (refine WpL.step (Stp.alloc rfl ?_); intro nb46)
        refine WpL.step (Stp.storeV rfl rfl (VC.ag _) (by first | rfl | assumption | (simp <;> done)) (by repeat (first | (apply Sts.all; (focus (first | rfl | assumption | (simp <;> done))); (focus (first | exact oneCells1 rfl | assumption | exact oneCells1 (by assumption) | ((repeat (first | assumption | exact oneCells_nil | exact oneCells_bytesC _ | (apply oneCells_cons; (focus (first | rfl | assumption))) | apply oneCells_append)); done) | (simp [oneCells, Value.oneCell'] <;> done)))) | (apply Sts.lp (by repeat (first | exact LPut.nil _ | apply LPut.here | apply LPut.next)); (focus (first | exact oneCells1 rfl | assumption | exact oneCells1 (by assumption) | ((repeat (first | assumption | exact oneCells_nil | exact oneCells_bytesC _ | (apply oneCells_cons; (focus (first | rfl | assumption))) | apply oneCells_append)); done) | (simp [oneCells, Value.oneCell'] <;> done)))) | (refine Sts.row1 (by first | assumption | omega | (simp <;> omega)) (by first | rfl | assumption)) | (refine Sts.rowP (by assumption) (by first | rfl | assumption | (simp <;> done)) (by rfl) (by (first | exact oneCells1 rfl | assumption | exact oneCells1 (by assumption) | ((repeat (first | assumption | exact oneCells_nil | exact oneCells_bytesC _ | (apply oneCells_cons; (focus (first | rfl | assumption))) | apply oneCells_append)); done) | (simp [oneCells, Value.oneCell'] <;> done)))) | apply Sts.next)) ?_)
        refine WpL.nil ?_
        refine Thn.n ?_
        refine Wp.seq ?_
        refine Wp.block ?_
        refine Wp.seq ?_
        refine Wp.region ?_
        refine WpL.step (Stp.rd (Rdo.fieldAddr0 rfl) rfl ?_)
        refine WpL.step (Stp.rd (Rdo.load rfl (Lds.one rfl)) rfl ?_)
        refine WpL.step (Stp.rd (Rdo.assign rfl) rfl ?_)
        refine WpL.nil ?_
        refine Thn.n ?_
        refine Wp.condK rfl (by first | rfl | assumption | (simp only [decide_eq_true_eq, decide_eq_false_iff_not, Bool.not_eq_true', Bool.not_eq_false', List.length_cons, List.length_nil]; first | assumption | omega) | (simp <;> done) | (simp <;> omega)) ?_
        refine Wp.seq ?_
        refine Wp.region ?_
        refine WpL.step (Stp.rd (Rdo.fieldAddr0 rfl) rfl ?_)
        refine WpL.step (Stp.rd (Rdo.load rfl (Lds.cut rfl (by first | rfl | assumption | (simp <;> done)))) rfl ?_)
        refine WpL.step (Stp.storeV rfl rfl (VC.ag _) (by first | rfl | assumption | (simp <;> done)) (by repeat (first | (apply Sts.all; (focus (first | rfl | assumption | (simp <;> done))); (focus (first | exact oneCells1 rfl | assumption | exact oneCells1 (by assumption) | ((repeat (first | assumption | exact oneCells_nil | exact oneCells_bytesC _ | (apply oneCells_cons; (focus (first | rfl | assumption))) | apply oneCells_append)); done) | (simp [oneCells, Value.oneCell'] <;> done)))) | (apply Sts.lp (by repeat (first | exact LPut.nil _ | apply LPut.here | apply LPut.next)); (focus (first | exact oneCells1 rfl | assumption | exact oneCells1 (by assumption) | ((repeat (first | assumption | exact oneCells_nil | exact oneCells_bytesC _ | (apply oneCells_cons; (focus (first | rfl | assumption))) | apply oneCells_append)); done) | (simp [oneCells, Value.oneCell'] <;> done)))) | (refine Sts.row1 (by first | assumption | omega | (simp <;> omega)) (by first | rfl | assumption)) | (refine Sts.rowP (by assumption) (by first | rfl | assumption | (simp <;> done)) (by rfl) (by (first | exact oneCells1 rfl | assumption | exact oneCells1 (by assumption) | ((repeat (first | assumption | exact oneCells_nil | exact oneCells_bytesC _ | (apply oneCells_cons; (focus (first | rfl | assumption))) | apply oneCells_append)); done) | (simp [oneCells, Value.oneCell'] <;> done)))) | apply Sts.next)) ?_)
        refine WpL.step (Stp.rd (Rdo.assign rfl) rfl ?_)
        refine WpL.nil ?_
        refine Thn.n ?_
        refine Wp.ret ?_
        refine Blk.r ?_
        refine Thn.r ?_
        refine Ret.now (ResV.cell rfl (by repeat (first | exact Lds.one rfl | (apply Lds.all; (first | rfl | assumption | (simp <;> fail))) | exact Lds.ione0 | exact Lds.ione rfl | (apply Lds.iall; (first | rfl | assumption | (simp <;> fail))) | apply Lds.next)) (ResV.tmp rfl ResV.nil)) ?_ ⟨_, ⟨rfl, rfl⟩⟩
        exact Gh.trans (Gh.tk (by repeat (first | exact Tk.nil | apply Tk.cons (by repeat (first | exact Pk.here | apply Pk.next))))) (Gh.trans (simA_shut (l := [fz (fun g => RdBytes g (.slice a3 x3.r.value.length c3) x3.r.value), fz (fun g => RdBytes g (.slice av value.length cv) value)]) (b := b) (c := c) (x0, x1, x2, x3) (vals4 (x0, x1, x2, x3) a0 c0 a1 c1 a2 c2 a3 c3) hs) (Gh.tk (by repeat (first | exact Tk.nil | apply Tk.cons (by repeat (first | exact Pk.here | apply Pk.next))))))
      | none =>
        rw [hpo] at hxo
        have hxo' : x3.out = false := hxo
        simp only
        by_cases hlong : 200 < value.length
        · rw [if_pos hlong]
          have hlong' : (200 : Int) < value.length := by omega
          refine Trip.of_body Tryd.func35 rfl Tryd.ntmps35 Tryd.results35 rfl ?_
          refine Wp.seq ?_
          refine Wp.region ?_
          (refine WpL.step (Stp.alloc rfl ?_); intro nb2)
          refine WpL.step (Stp.rd (Rdo.assign rfl) rfl ?_)
          refine WpL.nil ?_
          refine Thn.n ?_
          refine Wp.seq ?_
          refine Wp.seq ?_
          refine Wp.region ?_
          refine WpL.step (Stp.rd (Rdo.move rfl) rfl ?_)
          refine WpL.step (Stp.rd (Rdo.nilCheck rfl) rfl ?_)
          refine WpL.step (Stp.rd (Rdo.fieldAddr0 rfl) rfl ?_)
          refine WpL.step (Stp.rd (Rdo.load rfl (Lds.next (Lds.one rfl))) rfl ?_)
          refine WpL.step (Stp.rd (Rdo.not rfl) rfl ?_)
          refine WpL.step (Stp.rd (Rdo.move rfl) rfl ?_)
          refine WpL.gF rfl rfl (by first | rfl | assumption | (simp only [decide_eq_true_eq, decide_eq_false_iff_not, Bool.not_eq_true', Bool.not_eq_false', List.length_cons, List.length_nil]; first | assumption | omega) | (simp <;> done) | (simp <;> omega)) ?_
          refine WpL.want rfl rfl rfl (Stp.rd (Rdo.move rfl) rfl ?_)
          refine WpL.want rfl rfl rfl (Stp.rd (Rdo.lti rfl rfl) rfl ?_)
          refine WpL.step (Stp.rd (Rdo.pick_f rfl rfl) rfl ?_)
          refine WpL.step (Stp.rd (Rdo.move rfl) rfl ?_)
          refine WpL.want rfl rfl rfl (Stp.rd (Rdo.move rfl) rfl ?_)
          refine WpL.want rfl rfl rfl (Stp.rd (Rdo.gti rfl rfl) rfl ?_)
          refine WpL.step (Stp.rd (Rdo.pick_f rfl rfl) rfl ?_)
          refine WpL.step (Stp.rd (Rdo.move rfl) rfl ?_)
          refine WpL.want rfl rfl rfl (Stp.rd (Rdo.move rfl) rfl ?_)
          refine WpL.want rfl rfl rfl (Stp.rd (Rdo.move rfl) rfl ?_)
          refine WpL.want rfl rfl rfl (Stp.rd (Rdo.nilCheck rfl) rfl ?_)
          refine WpL.want rfl rfl rfl (Stp.rd (Rdo.fieldAddr0 rfl) rfl ?_)
          refine WpL.want rfl rfl rfl (Stp.rd (Rdo.indexArrE (i := 3) rfl rfl rfl (by first | omega | (simp <;> omega))) rfl ?_)
          refine WpL.want rfl rfl rfl (Stp.rd (Rdo.fieldAddr rfl) rfl ?_)
          refine WpL.want rfl rfl rfl (Stp.rd (Rdo.load rfl (Lds.next (Lds.one rfl))) rfl ?_)
          refine WpL.want rfl rfl rfl (Stp.rd (Rdo.not rfl) rfl ?_)
          refine WpL.step (Stp.rd (Rdo.pick_f rfl rfl) rfl ?_)
          refine WpL.nil ?_
          refine Thn.n ?_
          refine Wp.condL rfl (by first | rfl | assumption | (simp only [decide_eq_true_eq, decide_eq_false_iff_not, Bool.not_eq_true', Bool.not_eq_false', List.length_cons, List.length_nil]; first | assumption | omega) | (simp <;> done) | (simp <;> omega)) ?_
          refine Wp.skip ?_
          refine Thn.n ?_
          refine Wp.seq ?_
          refine Wp.region ?_
          refine WpL.step (Stp.rd (Rdo.move rfl) rfl ?_)
          refine WpL.step (Stp.rd (Rdo.move rfl) rfl ?_)
          refine WpL.step (Stp.rd (Rdo.nilCheck rfl) rfl ?_)
          refine WpL.step (Stp.rd (Rdo.fieldAddr0 rfl) rfl ?_)
          refine WpL.step (Stp.rd (Rdo.indexArrE (i := 3) rfl rfl rfl (by first | omega | (simp <;> omega))) rfl ?_)
          refine WpL.step (Stp.rd (Rdo.load rfl (Lds.next (Lds.cut rfl (by first | rfl | assumption | (simp <;> done))))) rfl ?_)
          (refine WpL.step (Stp.alloc rfl ?_); intro nb46)
          refine WpL.step (Stp.storeV rfl rfl (VC.ag _) (by first | rfl | assumption | (simp <;> done)) (by repeat (first | (apply Sts.all; (focus (first | rfl | assumption | (simp <;> done))); (focus (first | exact oneCells1 rfl | assumption | exact oneCells1 (by assumption) | ((repeat (first | assumption | exact oneCells_nil | exact oneCells_bytesC _ | (apply oneCells_cons; (focus (first | rfl | assumption))) | apply oneCells_append)); done) | (simp [oneCells, Value.oneCell'] <;> done)))) | (apply Sts.lp (by repeat (first | exact LPut.nil _ | apply LPut.here | apply LPut.next)); (focus (first | exact oneCells1 rfl | assumption | exact oneCells1 (by assumption) | ((repeat (first | assumption | exact oneCells_nil | exact oneCells_bytesC _ | (apply oneCells_cons; (focus (first | rfl | assumption))) | apply oneCells_append)); done) | (simp [oneCells, Value.oneCell'] <;> done)))) | (refine Sts.row1 (by first | assumption | omega | (simp <;> omega)) (by first | rfl | assumption)) | (refine Sts.rowP (by assumption) (by first | rfl | assumption | (simp <;> done)) (by rfl) (by (first | exact oneCells1 rfl | assumption | exact oneCells1 (by assumption) | ((repeat (first | assumption | exact oneCells_nil | exact oneCells_bytesC _ | (apply oneCells_cons; (focus (first | rfl | assumption))) | apply oneCells_append)); done) | (simp [oneCells, Value.oneCell'] <;> done)))) | apply Sts.next)) ?_)
          refine WpL.nil ?_
          refine Thn.n ?_
          refine Wp.seq ?_
          refine Wp.block ?_
          refine Wp.seq ?_
          refine Wp.region ?_
          refine WpL.step (Stp.rd (Rdo.fieldAddr0 rfl) rfl ?_)
          refine WpL.step (Stp.rd (Rdo.load rfl (Lds.one rfl)) rfl ?_)
          refine WpL.step (Stp.rd (Rdo.assign rfl) rfl ?_)
          refine WpL.nil ?_
          refine Thn.n ?_
          refine Wp.condL rfl (by first | rfl | assumption | (simp only [decide_eq_true_eq, decide_eq_false_iff_not, Bool.not_eq_true', Bool.not_eq_false', List.length_cons, List.length_nil]; first | assumption | omega) | (simp <;> done) | (simp <;> omega)) ?_
          refine Wp.seq ?_
          refine Wp.region ?_
          refine WpL.step (Stp.rd (Rdo.move rfl) rfl ?_)
          refine WpL.step (Stp.rd (Rdo.lenSlice rfl) rfl ?_)
          refine WpL.step (Stp.rd (Rdo.gti rfl rfl) rfl ?_)
          refine WpL.step (Stp.rd (Rdo.assign rfl) rfl ?_)
          refine WpL.nil ?_
          refine Thn.n ?_
          refine Wp.condK rfl (by first | rfl | assumption | (simp only [decide_eq_true_eq, decide_eq_false_iff_not, Bool.not_eq_true', Bool.not_eq_false', List.length_cons, List.length_nil]; first | assumption | omega) | (simp <;> done) | (simp <;> omega)) ?_
          refine Wp.seq ?_
          refine Wp.region ?_
          refine WpL.step (Stp.rd (Rdo.bld rfl (BldL.nil _)) rfl ?_)
          refine WpL.step (Stp.storeV rfl rfl (VC.ag _) (by first | rfl | assumption | (simp <;> done)) (by repeat (first | (apply Sts.all; (focus (first | rfl | assumption | (simp <;> done))); (focus (first | exact oneCells1 rfl | assumption | exact oneCells1 (by assumption) | ((repeat (first | assumption | exact oneCells_nil | exact oneCells_bytesC _ | (apply oneCells_cons; (focus (first | rfl | assumption))) | apply oneCells_append)); done) | (simp [oneCells, Value.oneCell'] <;> done)))) | (apply Sts.lp (by repeat (first | exact LPut.nil _ | apply LPut.here | apply LPut.next)); (focus (first | exact oneCells1 rfl | assumption | exact oneCells1 (by assumption) | ((repeat (first | assumption | exact oneCells_nil | exact oneCells_bytesC _ | (apply oneCells_cons; (focus (first | rfl | assumption))) | apply oneCells_append)); done) | (simp [oneCells, Value.oneCell'] <;> done)))) | (refine Sts.row1 (by first | assumption | omega | (simp <;> omega)) (by first | rfl | assumption)) | (refine Sts.rowP (by assumption) (by first | rfl | assumption | (simp <;> done)) (by rfl) (by (first | exact oneCells1 rfl | assumption | exact oneCells1 (by assumption) | ((repeat (first | assumption | exact oneCells_nil | exact oneCells_bytesC _ | (apply oneCells_cons; (focus (first | rfl | assumption))) | apply oneCells_append)); done) | (simp [oneCells, Value.oneCell'] <;> done)))) | apply Sts.next)) ?_)
          refine WpL.step (Stp.rd (Rdo.assign rfl) rfl ?_)
          refine WpL.nil ?_
          refine Thn.n ?_
          refine Wp.ret ?_
          refine Blk.r ?_
          refine Thn.r ?_
          refine Ret.now (ResV.cell rfl (by repeat (first | exact Lds.one rfl | (apply Lds.all; (first | rfl | assumption | (simp <;> fail))) | exact Lds.ione0 | exact Lds.ione rfl | (apply Lds.iall; (first | rfl | assumption | (simp <;> fail))) | apply Lds.next)) (ResV.tmp rfl ResV.nil)) ?_ ⟨_, ⟨rfl, rfl⟩⟩
          exact Gh.trans (Gh.noBytes (a := none) (c := 0)) (Gh.trans (Gh.tk (by repeat (first | exact Tk.nil | apply Tk.cons (by repeat (first | exact Pk.here | apply Pk.next))))) (Gh.trans (simA_shut (l := [fz (fun g => RdBytes g (.slice none 0 0) []), fz (fun g => RdBytes g (.slice av value.length cv) value)]) (b := b) (c := c) (x0, x1, x2, x3) (vals4 (x0, x1, x2, x3) a0 c0 a1 c1 a2 c2 a3 c3) hs) (Gh.tk (by repeat (first | exact Tk.nil | apply Tk.cons (by repeat (first | exact Pk.here | apply Pk.next)))))))
        rw [if_neg hlong]
        have hlong' : ¬ (200 : Int) < value.length := by omega
        by_cases hmx : p3.next > 1048576
        · rw [if_pos hmx]
          refine Trip.of_body Tryd.func35 rfl Tryd.ntmps35 Tryd.results35 rfl ?_
          refine Wp.seq ?_
          refine Wp.region ?_
          (refine WpL.step (Stp.alloc rfl ?_); intro nb2)
          refine WpL.step (Stp.rd (Rdo.assign rfl) rfl ?_)
          refine WpL.nil ?_
          refine Thn.n ?_
          refine Wp.seq ?_
          refine Wp.seq ?_
          refine Wp.region ?_
          refine WpL.step (Stp.rd (Rdo.move rfl) rfl ?_)
          refine WpL.step (Stp.rd (Rdo.nilCheck rfl) rfl ?_)
          refine WpL.step (Stp.rd (Rdo.fieldAddr0 rfl) rfl ?_)
          refine WpL.step (Stp.rd (Rdo.load rfl (Lds.next (Lds.one rfl))) rfl ?_)
          refine WpL.step (Stp.rd (Rdo.not rfl) rfl ?_)
          refine WpL.step (Stp.rd (Rdo.move rfl) rfl ?_)
          refine WpL.gF rfl rfl (by first | rfl | assumption | (simp only [decide_eq_true_eq, decide_eq_false_iff_not, Bool.not_eq_true', Bool.not_eq_false', List.length_cons, List.length_nil]; first | assumption | omega) | (simp <;> done) | (simp <;> omega)) ?_
          refine WpL.want rfl rfl rfl (Stp.rd (Rdo.move rfl) rfl ?_)
          refine WpL.want rfl rfl rfl (Stp.rd (Rdo.lti rfl rfl) rfl ?_)
          refine WpL.step (Stp.rd (Rdo.pick_f rfl rfl) rfl ?_)
          refine WpL.step (Stp.rd (Rdo.move rfl) rfl ?_)
          refine WpL.want rfl rfl rfl (Stp.rd (Rdo.move rfl) rfl ?_)
          refine WpL.want rfl rfl rfl (Stp.rd (Rdo.gti rfl rfl) rfl ?_)
          refine WpL.step (Stp.rd (Rdo.pick_f rfl rfl) rfl ?_)
          refine WpL.step (Stp.rd (Rdo.move rfl) rfl ?_)
          refine WpL.want rfl rfl rfl (Stp.rd (Rdo.move rfl) rfl ?_)
          refine WpL.want rfl rfl rfl (Stp.rd (Rdo.move rfl) rfl ?_)
          refine WpL.want rfl rfl rfl (Stp.rd (Rdo.nilCheck rfl) rfl ?_)
          refine WpL.want rfl rfl rfl (Stp.rd (Rdo.fieldAddr0 rfl) rfl ?_)
          refine WpL.want rfl rfl rfl (Stp.rd (Rdo.indexArrE (i := 3) rfl rfl rfl (by first | omega | (simp <;> omega))) rfl ?_)
          refine WpL.want rfl rfl rfl (Stp.rd (Rdo.fieldAddr rfl) rfl ?_)
          refine WpL.want rfl rfl rfl (Stp.rd (Rdo.load rfl (Lds.next (Lds.one rfl))) rfl ?_)
          refine WpL.want rfl rfl rfl (Stp.rd (Rdo.not rfl) rfl ?_)
          refine WpL.step (Stp.rd (Rdo.pick_f rfl rfl) rfl ?_)
          refine WpL.nil ?_
          refine Thn.n ?_
          refine Wp.condL rfl (by first | rfl | assumption | (simp only [decide_eq_true_eq, decide_eq_false_iff_not, Bool.not_eq_true', Bool.not_eq_false', List.length_cons, List.length_nil]; first | assumption | omega) | (simp <;> done) | (simp <;> omega)) ?_
          refine Wp.skip ?_
          refine Thn.n ?_
          refine Wp.seq ?_
          refine Wp.region ?_
          refine WpL.step (Stp.rd (Rdo.move rfl) rfl ?_)
          refine WpL.step (Stp.rd (Rdo.move rfl) rfl ?_)
          refine WpL.step (Stp.rd (Rdo.nilCheck rfl) rfl ?_)
          refine WpL.step (Stp.rd (Rdo.fieldAddr0 rfl) rfl ?_)
          refine WpL.step (Stp.rd (Rdo.indexArrE (i := 3) rfl rfl rfl (by first | omega | (simp <;> omega))) rfl ?_)
          refine WpL.step (Stp.rd (Rdo.load rfl (Lds.next (Lds.cut rfl (by first | rfl | assumption | (simp <;> done))))) rfl ?_)
          (refine WpL.step (Stp.alloc rfl ?_); intro nb46)
          refine WpL.step (Stp.storeV rfl rfl (VC.ag _) (by first | rfl | assumption | (simp <;> done)) (by repeat (first | (apply Sts.all; (focus (first | rfl | assumption | (simp <;> done))); (focus (first | exact oneCells1 rfl | assumption | exact oneCells1 (by assumption) | ((repeat (first | assumption | exact oneCells_nil | exact oneCells_bytesC _ | (apply oneCells_cons; (focus (first | rfl | assumption))) | apply oneCells_append)); done) | (simp [oneCells, Value.oneCell'] <;> done)))) | (apply Sts.lp (by repeat (first | exact LPut.nil _ | apply LPut.here | apply LPut.next)); (focus (first | exact oneCells1 rfl | assumption | exact oneCells1 (by assumption) | ((repeat (first | assumption | exact oneCells_nil | exact oneCells_bytesC _ | (apply oneCells_cons; (focus (first | rfl | assumption))) | apply oneCells_append)); done) | (simp [oneCells, Value.oneCell'] <;> done)))) | (refine Sts.row1 (by first | assumption | omega | (simp <;> omega)) (by first | rfl | assumption)) | (refine Sts.rowP (by assumption) (by first | rfl | assumption | (simp <;> done)) (by rfl) (by (first | exact oneCells1 rfl | assumption | exact oneCells1 (by assumption) | ((repeat (first | assumption | exact oneCells_nil | exact oneCells_bytesC _ | (apply oneCells_cons; (focus (first | rfl | assumption))) | apply oneCells_append)); done) | (simp [oneCells, Value.oneCell'] <;> done)))) | apply Sts.next)) ?_)
          refine WpL.nil ?_
          refine Thn.n ?_
          refine Wp.seq ?_
          refine Wp.block ?_
          refine Wp.seq ?_
          refine Wp.region ?_
          refine WpL.step (Stp.rd (Rdo.fieldAddr0 rfl) rfl ?_)
          refine WpL.step (Stp.rd (Rdo.load rfl (Lds.one rfl)) rfl ?_)
          refine WpL.step (Stp.rd (Rdo.assign rfl) rfl ?_)
          refine WpL.nil ?_
          refine Thn.n ?_
          refine Wp.condL rfl (by first | rfl | assumption | (simp only [decide_eq_true_eq, decide_eq_false_iff_not, Bool.not_eq_true', Bool.not_eq_false', List.length_cons, List.length_nil]; first | assumption | omega) | (simp <;> done) | (simp <;> omega)) ?_
          refine Wp.seq ?_
          refine Wp.region ?_
          refine WpL.step (Stp.rd (Rdo.move rfl) rfl ?_)
          refine WpL.step (Stp.rd (Rdo.lenSlice rfl) rfl ?_)
          refine WpL.step (Stp.rd (Rdo.gti rfl rfl) rfl ?_)
          refine WpL.step (Stp.rd (Rdo.assign rfl) rfl ?_)
          refine WpL.nil ?_
          refine Thn.n ?_
          refine Wp.condL rfl (by first | rfl | assumption | (simp only [decide_eq_true_eq, decide_eq_false_iff_not, Bool.not_eq_true', Bool.not_eq_false', List.length_cons, List.length_nil]; first | assumption | omega) | (simp <;> done) | (simp <;> omega)) ?_
          refine Wp.seq ?_
          refine Wp.region ?_
          refine WpL.step (Stp.rd (Rdo.fieldAddr0 rfl) rfl ?_)
          refine WpL.step (Stp.rd (Rdo.load rfl (Lds.one rfl)) rfl ?_)
          refine WpL.step (Stp.rd (Rdo.gti rfl rfl) rfl ?_)
          refine WpL.step (Stp.rd (Rdo.assign rfl) rfl ?_)
          refine WpL.nil ?_
          refine Thn.n ?_
          refine Wp.condK rfl (by first | rfl | assumption | (simp only [decide_eq_true_eq, decide_eq_false_iff_not, Bool.not_eq_true', Bool.not_eq_false', List.length_cons, List.length_nil]; first | assumption | omega) | (simp <;> done) | (simp <;> omega)) ?_
          refine Wp.seq ?_
          refine Wp.region ?_
          refine WpL.step (Stp.rd (Rdo.bld rfl (BldL.nil _)) rfl ?_)
          refine WpL.step (Stp.storeV rfl rfl (VC.ag _) (by first | rfl | assumption | (simp <;> done)) (by repeat (first | (apply Sts.all; (focus (first | rfl | assumption | (simp <;> done))); (focus (first | exact oneCells1 rfl | assumption | exact oneCells1 (by assumption) | ((repeat (first | assumption | exact oneCells_nil | exact oneCells_bytesC _ | (apply oneCells_cons; (focus (first | rfl | assumption))) | apply oneCells_append)); done) | (simp [oneCells, Value.oneCell'] <;> done)))) | (apply Sts.lp (by repeat (first | exact LPut.nil _ | apply LPut.here | apply LPut.next)); (focus (first | exact oneCells1 rfl | assumption | exact oneCells1 (by assumption) | ((repeat (first | assumption | exact oneCells_nil | exact oneCells_bytesC _ | (apply oneCells_cons; (focus (first | rfl | assumption))) | apply oneCells_append)); done) | (simp [oneCells, Value.oneCell'] <;> done)))) | (refine Sts.row1 (by first | assumption | omega | (simp <;> omega)) (by first | rfl | assumption)) | (refine Sts.rowP (by assumption) (by first | rfl | assumption | (simp <;> done)) (by rfl) (by (first | exact oneCells1 rfl | assumption | exact oneCells1 (by assumption) | ((repeat (first | assumption | exact oneCells_nil | exact oneCells_bytesC _ | (apply oneCells_cons; (focus (first | rfl | assumption))) | apply oneCells_append)); done) | (simp [oneCells, Value.oneCell'] <;> done)))) | apply Sts.next)) ?_)
          refine WpL.step (Stp.rd (Rdo.assign rfl) rfl ?_)
          refine WpL.nil ?_
          refine Thn.n ?_
          refine Wp.ret ?_
          refine Blk.r ?_
          refine Thn.r ?_
          refine Ret.now (ResV.cell rfl (by repeat (first | exact Lds.one rfl | (apply Lds.all; (first | rfl | assumption | (simp <;> fail))) | exact Lds.ione0 | exact Lds.ione rfl | (apply Lds.iall; (first | rfl | assumption | (simp <;> fail))) | apply Lds.next)) (ResV.tmp rfl ResV.nil)) ?_ ⟨_, ⟨rfl, rfl⟩⟩
          exact Gh.trans (Gh.noBytes (a := none) (c := 0)) (Gh.trans (Gh.tk (by repeat (first | exact Tk.nil | apply Tk.cons (by repeat (first | exact Pk.here | apply Pk.next))))) (Gh.trans (simA_shut (l := [fz (fun g => RdBytes g (.slice none 0 0) []), fz (fun g => RdBytes g (.slice av value.length cv) value)]) (b := b) (c := c) (x0, x1, x2, x3) (vals4 (x0, x1, x2, x3) a0 c0 a1 c1 a2 c2 a3 c3) hs) (Gh.tk (by repeat (first | exact Tk.nil | apply Tk.cons (by repeat (first | exact Pk.here | apply Pk.next)))))))
        · rw [if_neg hmx]
          rw [← hxn]
          rw [← hxn] at hmx hnb
          have hs2 : Sim { c with parts := c.parts.set (Int.toNat 3) { p3 with next := x3.next + 1, out := some ⟨c.producer, c.epoch, c.last, x3.next, value⟩ } } (x0, x1, x2, { x3 with next := x3.next + 1, out := true, r := ⟨c.producer, c.epoch, c.last, x3.next, value⟩ }) := ⟨p0, p1, p2, { p3 with next := x3.next + 1, out := some ⟨c.producer, c.epoch, c.last, x3.next, value⟩ }, by rw [hp]; rfl, g0.pres rfl rfl, g1.pres rfl rfl, g2.pres rfl rfl, g3.rec_ rfl rfl (by rw [hxn])⟩
          refine Trip.of_body Tryd.func35 rfl Tryd.ntmps35 Tryd.results35 rfl ?_
          refine Wp.seq ?_
          refine Wp.region ?_
          (refine WpL.step (Stp.alloc rfl ?_); intro nb2)
          refine WpL.step (Stp.rd (Rdo.assign rfl) rfl ?_)
          refine WpL.nil ?_
          refine Thn.n ?_
          refine Wp.seq ?_
          refine Wp.seq ?_
          refine Wp.region ?_
          refine WpL.step (Stp.rd (Rdo.move rfl) rfl ?_)
          refine WpL.step (Stp.rd (Rdo.nilCheck rfl) rfl ?_)
          refine WpL.step (Stp.rd (Rdo.fieldAddr0 rfl) rfl ?_)
          refine WpL.step (Stp.rd (Rdo.load rfl (Lds.next (Lds.one rfl))) rfl ?_)
          refine WpL.step (Stp.rd (Rdo.not rfl) rfl ?_)
          refine WpL.step (Stp.rd (Rdo.move rfl) rfl ?_)
          refine WpL.gF rfl rfl (by first | rfl | assumption | (simp only [decide_eq_true_eq, decide_eq_false_iff_not, Bool.not_eq_true', Bool.not_eq_false', List.length_cons, List.length_nil]; first | assumption | omega) | (simp <;> done) | (simp <;> omega)) ?_
          refine WpL.want rfl rfl rfl (Stp.rd (Rdo.move rfl) rfl ?_)
          refine WpL.want rfl rfl rfl (Stp.rd (Rdo.lti rfl rfl) rfl ?_)
          refine WpL.step (Stp.rd (Rdo.pick_f rfl rfl) rfl ?_)
          refine WpL.step (Stp.rd (Rdo.move rfl) rfl ?_)
          refine WpL.want rfl rfl rfl (Stp.rd (Rdo.move rfl) rfl ?_)
          refine WpL.want rfl rfl rfl (Stp.rd (Rdo.gti rfl rfl) rfl ?_)
          refine WpL.step (Stp.rd (Rdo.pick_f rfl rfl) rfl ?_)
          refine WpL.step (Stp.rd (Rdo.move rfl) rfl ?_)
          refine WpL.want rfl rfl rfl (Stp.rd (Rdo.move rfl) rfl ?_)
          refine WpL.want rfl rfl rfl (Stp.rd (Rdo.move rfl) rfl ?_)
          refine WpL.want rfl rfl rfl (Stp.rd (Rdo.nilCheck rfl) rfl ?_)
          refine WpL.want rfl rfl rfl (Stp.rd (Rdo.fieldAddr0 rfl) rfl ?_)
          refine WpL.want rfl rfl rfl (Stp.rd (Rdo.indexArrE (i := 3) rfl rfl rfl (by first | omega | (simp <;> omega))) rfl ?_)
          refine WpL.want rfl rfl rfl (Stp.rd (Rdo.fieldAddr rfl) rfl ?_)
          refine WpL.want rfl rfl rfl (Stp.rd (Rdo.load rfl (Lds.next (Lds.one rfl))) rfl ?_)
          refine WpL.want rfl rfl rfl (Stp.rd (Rdo.not rfl) rfl ?_)
          refine WpL.step (Stp.rd (Rdo.pick_f rfl rfl) rfl ?_)
          refine WpL.nil ?_
          refine Thn.n ?_
          refine Wp.condL rfl (by first | rfl | assumption | (simp only [decide_eq_true_eq, decide_eq_false_iff_not, Bool.not_eq_true', Bool.not_eq_false', List.length_cons, List.length_nil]; first | assumption | omega) | (simp <;> done) | (simp <;> omega)) ?_
          refine Wp.skip ?_
          refine Thn.n ?_
          refine Wp.seq ?_
          refine Wp.region ?_
          refine WpL.step (Stp.rd (Rdo.move rfl) rfl ?_)
          refine WpL.step (Stp.rd (Rdo.move rfl) rfl ?_)
          refine WpL.step (Stp.rd (Rdo.nilCheck rfl) rfl ?_)
          refine WpL.step (Stp.rd (Rdo.fieldAddr0 rfl) rfl ?_)
          refine WpL.step (Stp.rd (Rdo.indexArrE (i := 3) rfl rfl rfl (by first | omega | (simp <;> omega))) rfl ?_)
          refine WpL.step (Stp.rd (Rdo.load rfl (Lds.next (Lds.cut rfl (by first | rfl | assumption | (simp <;> done))))) rfl ?_)
          (refine WpL.step (Stp.alloc rfl ?_); intro nb46)
          refine WpL.step (Stp.storeV rfl rfl (VC.ag _) (by first | rfl | assumption | (simp <;> done)) (by repeat (first | (apply Sts.all; (focus (first | rfl | assumption | (simp <;> done))); (focus (first | exact oneCells1 rfl | assumption | exact oneCells1 (by assumption) | ((repeat (first | assumption | exact oneCells_nil | exact oneCells_bytesC _ | (apply oneCells_cons; (focus (first | rfl | assumption))) | apply oneCells_append)); done) | (simp [oneCells, Value.oneCell'] <;> done)))) | (apply Sts.lp (by repeat (first | exact LPut.nil _ | apply LPut.here | apply LPut.next)); (focus (first | exact oneCells1 rfl | assumption | exact oneCells1 (by assumption) | ((repeat (first | assumption | exact oneCells_nil | exact oneCells_bytesC _ | (apply oneCells_cons; (focus (first | rfl | assumption))) | apply oneCells_append)); done) | (simp [oneCells, Value.oneCell'] <;> done)))) | (refine Sts.row1 (by first | assumption | omega | (simp <;> omega)) (by first | rfl | assumption)) | (refine Sts.rowP (by assumption) (by first | rfl | assumption | (simp <;> done)) (by rfl) (by (first | exact oneCells1 rfl | assumption | exact oneCells1 (by assumption) | ((repeat (first | assumption | exact oneCells_nil | exact oneCells_bytesC _ | (apply oneCells_cons; (focus (first | rfl | assumption))) | apply oneCells_append)); done) | (simp [oneCells, Value.oneCell'] <;> done)))) | apply Sts.next)) ?_)
          refine WpL.nil ?_
          refine Thn.n ?_
          refine Wp.seq ?_
          refine Wp.block ?_
          refine Wp.seq ?_
          refine Wp.region ?_
          refine WpL.step (Stp.rd (Rdo.fieldAddr0 rfl) rfl ?_)
          refine WpL.step (Stp.rd (Rdo.load rfl (Lds.one rfl)) rfl ?_)
          refine WpL.step (Stp.rd (Rdo.assign rfl) rfl ?_)
          refine WpL.nil ?_
          refine Thn.n ?_
          refine Wp.condL rfl (by first | rfl | assumption | (simp only [decide_eq_true_eq, decide_eq_false_iff_not, Bool.not_eq_true', Bool.not_eq_false', List.length_cons, List.length_nil]; first | assumption | omega) | (simp <;> done) | (simp <;> omega)) ?_
          refine Wp.seq ?_
          refine Wp.region ?_
          refine WpL.step (Stp.rd (Rdo.move rfl) rfl ?_)
          refine WpL.step (Stp.rd (Rdo.lenSlice rfl) rfl ?_)
          refine WpL.step (Stp.rd (Rdo.gti rfl rfl) rfl ?_)
          refine WpL.step (Stp.rd (Rdo.assign rfl) rfl ?_)
          refine WpL.nil ?_
          refine Thn.n ?_
          refine Wp.condL rfl (by first | rfl | assumption | (simp only [decide_eq_true_eq, decide_eq_false_iff_not, Bool.not_eq_true', Bool.not_eq_false', List.length_cons, List.length_nil]; first | assumption | omega) | (simp <;> done) | (simp <;> omega)) ?_
          refine Wp.seq ?_
          refine Wp.region ?_
          refine WpL.step (Stp.rd (Rdo.fieldAddr0 rfl) rfl ?_)
          refine WpL.step (Stp.rd (Rdo.load rfl (Lds.one rfl)) rfl ?_)
          refine WpL.step (Stp.rd (Rdo.gti rfl rfl) rfl ?_)
          refine WpL.step (Stp.rd (Rdo.assign rfl) rfl ?_)
          refine WpL.nil ?_
          refine Thn.n ?_
          refine Wp.condL rfl (by first | rfl | assumption | (simp only [decide_eq_true_eq, decide_eq_false_iff_not, Bool.not_eq_true', Bool.not_eq_false', List.length_cons, List.length_nil]; first | assumption | omega) | (simp <;> done) | (simp <;> omega)) ?_
          refine Wp.skip ?_
          refine Blk.n ?_
          refine Thn.n ?_
          refine Wp.seq ?_
          refine Wp.draw (by kernel_rfl) ?_
          refine WpR.take (i := 0) rfl (by kernel_rfl) (by kernel_rfl) (by kernel_rfl) (Rdo.move rfl) rfl ?_
          refine WpR.take (i := 1) rfl (by kernel_rfl) (by kernel_rfl) (by kernel_rfl) (Rdo.nilCheck rfl) rfl ?_
          refine WpR.take (i := 2) rfl (by kernel_rfl) (by kernel_rfl) (by kernel_rfl) (Rdo.fieldAddr0 rfl) rfl ?_
          refine WpR.take (i := 4) rfl (by kernel_rfl) (by kernel_rfl) (by kernel_rfl) (Rdo.move rfl) rfl ?_
          refine WpR.take (i := 5) rfl (by kernel_rfl) (by kernel_rfl) (by kernel_rfl) (Rdo.nilCheck rfl) rfl ?_
          refine WpR.take (i := 6) rfl (by kernel_rfl) (by kernel_rfl) (by kernel_rfl) (Rdo.fieldAddr0 rfl) rfl ?_
          refine WpR.take (i := 8) rfl (by kernel_rfl) (by kernel_rfl) (by kernel_rfl) (Rdo.move rfl) rfl ?_
          refine WpR.take (i := 9) rfl (by kernel_rfl) (by kernel_rfl) (by kernel_rfl) (Rdo.nilCheck rfl) rfl ?_
          refine WpR.take (i := 10) rfl (by kernel_rfl) (by kernel_rfl) (by kernel_rfl) (Rdo.fieldAddr0 rfl) rfl ?_
          refine WpR.take (i := 12) rfl (by kernel_rfl) (by kernel_rfl) (by kernel_rfl) (Rdo.fieldAddr0 rfl) rfl ?_
          refine WpR.take (i := 15) rfl (by kernel_rfl) (by kernel_rfl) (by kernel_rfl) (Rdo.move rfl) rfl ?_
          refine WpR.phaseL (m := 1) #[true, true, true, true, true, true, true, true, true, true, true, true, true, true, true, true, true, true, true, false] 8 _ rfl (by kernel_rfl) (Tk.cons Pk.here (Tk.cons (Pk.next Pk.here) Tk.nil)) ?_
          refine WpA.take (i := 3) rfl rfl (by kernel_rfl) (by kernel_rfl) (by kernel_rfl) (Rdo.load rfl (Lds.next (Lds.one rfl))) rfl ?_
          refine WpA.take (i := 7) rfl rfl (by kernel_rfl) (by kernel_rfl) (by kernel_rfl) (Rdo.load rfl (Lds.next (Lds.one rfl))) rfl ?_
          refine WpA.take (i := 11) rfl rfl (by kernel_rfl) (by kernel_rfl) (by kernel_rfl) (Rdo.load rfl (Lds.next (Lds.one rfl))) rfl ?_
          refine WpA.take (i := 13) rfl rfl (by kernel_rfl) (by kernel_rfl) (by kernel_rfl) (Rdo.load rfl (Lds.one rfl)) rfl ?_
          (refine WpA.one (i := 14) rfl (by kernel_rfl) (Stp.slice0 rfl ?_); intro nb99)
          (refine WpA.one (i := 16) rfl (by kernel_rfl) (Stp.append0P rfl rfl Pk.here (Src.next (Src.next (Src.next (Src.next (Src.next Src.frozen))))) (by first | rfl | (simp <;> done) | (simp <;> omega)) (by first | assumption | exact oneCells1 rfl | exact oneCells1 (by assumption) | exact oneCells_bytesC _ | exact oneCells_votesC _ | (simp [oneCells, Value.oneCell'] <;> done)) (by first | omega | (simp <;> omega)) (by first | omega | (simp <;> omega)) rfl (by first | rfl | (simp <;> done)) ?_); intro na100 nc100)
          refine WpA.take (i := 17) rfl rfl (by kernel_rfl) (by kernel_rfl) (by kernel_rfl) (Rdo.bld rfl (BldL.cons rfl (VC.i _ _) (by first | rfl | assumption | (simp <;> done)) (by repeat (first | exact LPut.nil _ | apply LPut.here | apply LPut.next)) (BldL.cons rfl (VC.i _ _) (by first | rfl | assumption | (simp <;> done)) (by repeat (first | exact LPut.nil _ | apply LPut.here | apply LPut.next)) (BldL.cons rfl (VC.i _ _) (by first | rfl | assumption | (simp <;> done)) (by repeat (first | exact LPut.nil _ | apply LPut.here | apply LPut.next)) (BldL.cons rfl (VC.i _ _) (by first | rfl | assumption | (simp <;> done)) (by repeat (first | exact LPut.nil _ | apply LPut.here | apply LPut.next)) (BldL.cons rfl (VC.sl _ _ _) (by first | rfl | assumption | (simp <;> done)) (by repeat (first | exact LPut.nil _ | apply LPut.here | apply LPut.next)) (BldL.nil _))))))) rfl ?_
          refine WpA.take (i := 18) rfl rfl (by kernel_rfl) (by kernel_rfl) (by kernel_rfl) (Rdo.fieldAddr0 rfl) rfl ?_
          refine WpA.stop (by kernel_rfl) ?_
          refine WpR.lst (by simp only [List.cons_append, List.nil_append]; exact rfl) ?_
          refine WpR.one (i := 19) rfl (by kernel_rfl) (Stp.storeV rfl rfl (VC.ag _) (by first | rfl | assumption | (simp <;> done)) (by repeat (first | (apply Sts.all; (focus (first | rfl | assumption | (simp <;> done))); (focus (first | exact oneCells1 rfl | assumption | exact oneCells1 (by assumption) | ((repeat (first | assumption | exact oneCells_nil | exact oneCells_bytesC _ | (apply oneCells_cons; (focus (first | rfl | assumption))) | apply oneCells_append)); done) | (simp [oneCells, Value.oneCell'] <;> done)))) | (apply Sts.lp (by repeat (first | exact LPut.nil _ | apply LPut.here | apply LPut.next)); (focus (first | exact oneCells1 rfl | assumption | exact oneCells1 (by assumption) | ((repeat (first | assumption | exact oneCells_nil | exact oneCells_bytesC _ | (apply oneCells_cons; (focus (first | rfl | assumption))) | apply oneCells_append)); done) | (simp [oneCells, Value.oneCell'] <;> done)))) | (refine Sts.row1 (by first | assumption | omega | (simp <;> omega)) (by first | rfl | assumption)) | (refine Sts.rowP (by assumption) (by first | rfl | assumption | (simp <;> done)) (by rfl) (by (first | exact oneCells1 rfl | assumption | exact oneCells1 (by assumption) | ((repeat (first | assumption | exact oneCells_nil | exact oneCells_bytesC _ | (apply oneCells_cons; (focus (first | rfl | assumption))) | apply oneCells_append)); done) | (simp [oneCells, Value.oneCell'] <;> done)))) | apply Sts.next)) ?_)
          refine WpR.done (by kernel_rfl) ?_
          refine Thn.n ?_
          refine Wp.seq ?_
          refine Wp.region ?_
          refine WpL.step (Stp.rd (Rdo.fieldAddr0 rfl) rfl ?_)
          refine WpL.step (Stp.rd (Rdo.load rfl (Lds.one rfl)) rfl ?_)
          refine WpL.step (Stp.rd (Rdo.add64 rfl rfl (by first | omega | (dsimp only; omega))) rfl ?_)
          refine WpL.step (Stp.rd (Rdo.fieldAddr0 rfl) rfl ?_)
          refine WpL.step (Stp.storeV rfl rfl (VC.i _ _) rfl (Sts.lp (by repeat (first | exact LPut.nil _ | apply LPut.here | apply LPut.next)) (oneCells1 rfl)) ?_)
          refine WpL.nil ?_
          refine Thn.n ?_
          refine Wp.seq ?_
          refine Wp.region ?_
          refine WpL.step (Stp.rd (Rdo.fieldAddr0 rfl) rfl ?_)
          refine WpL.step (Stp.storeV rfl rfl (VC.b _) rfl (Sts.lp (by repeat (first | exact LPut.nil _ | apply LPut.here | apply LPut.next)) (oneCells1 rfl)) ?_)
          refine WpL.nil ?_
          refine Thn.n ?_
          refine Wp.seq ?_
          refine Wp.draw (by kernel_rfl) ?_
          refine WpR.take (i := 0) rfl (by kernel_rfl) (by kernel_rfl) (by kernel_rfl) (Rdo.move rfl) rfl ?_
          refine WpR.take (i := 1) rfl (by kernel_rfl) (by kernel_rfl) (by kernel_rfl) (Rdo.move rfl) rfl ?_
          refine WpR.take (i := 3) rfl (by kernel_rfl) (by kernel_rfl) (by kernel_rfl) (Rdo.nilCheck rfl) rfl ?_
          refine WpR.take (i := 4) rfl (by kernel_rfl) (by kernel_rfl) (by kernel_rfl) (Rdo.fieldAddr0 rfl) rfl ?_
          refine WpR.one (i := 2) rfl (by kernel_rfl) (Stp.rd (Rdo.load rfl (by apply Lds.all; (first | rfl | assumption | (simp <;> fail)))) rfl ?_)
          refine WpR.take (i := 5) rfl (by kernel_rfl) (by kernel_rfl) (by kernel_rfl) (Rdo.indexArrE (i := 3) rfl rfl rfl (by first | omega | (simp <;> omega))) rfl ?_
          refine WpR.one (i := 6) rfl (by kernel_rfl) (Stp.storeV rfl rfl (VC.ag _) (by first | rfl | assumption | (simp <;> done)) (by repeat (first | (apply Sts.all; (focus (first | rfl | assumption | (simp <;> done))); (focus (first | exact oneCells1 rfl | assumption | exact oneCells1 (by assumption) | ((repeat (first | assumption | exact oneCells_nil | exact oneCells_bytesC _ | (apply oneCells_cons; (focus (first | rfl | assumption))) | apply oneCells_append)); done) | (simp [oneCells, Value.oneCell'] <;> done)))) | (apply Sts.lp (by repeat (first | exact LPut.nil _ | apply LPut.here | apply LPut.next)); (focus (first | exact oneCells1 rfl | assumption | exact oneCells1 (by assumption) | ((repeat (first | assumption | exact oneCells_nil | exact oneCells_bytesC _ | (apply oneCells_cons; (focus (first | rfl | assumption))) | apply oneCells_append)); done) | (simp [oneCells, Value.oneCell'] <;> done)))) | (refine Sts.row1 (by first | assumption | omega | (simp <;> omega)) (by first | rfl | assumption)) | (refine Sts.rowP (by assumption) (by first | rfl | assumption | (simp <;> done)) (by rfl) (by (first | exact oneCells1 rfl | assumption | exact oneCells1 (by assumption) | ((repeat (first | assumption | exact oneCells_nil | exact oneCells_bytesC _ | (apply oneCells_cons; (focus (first | rfl | assumption))) | apply oneCells_append)); done) | (simp [oneCells, Value.oneCell'] <;> done)))) | apply Sts.next)) ?_)
          refine WpR.done (by kernel_rfl) ?_
          refine Thn.n ?_
          refine Wp.seq ?_
          refine Wp.region ?_
          refine WpL.step (Stp.rd (Rdo.fieldAddr0 rfl) rfl ?_)
          refine WpL.step (Stp.rd (Rdo.load rfl (Lds.cut rfl (by first | rfl | assumption | (simp <;> done)))) rfl ?_)
          refine WpL.step (Stp.storeV rfl rfl (VC.ag _) (by first | rfl | assumption | (simp <;> done)) (by repeat (first | (apply Sts.all; (focus (first | rfl | assumption | (simp <;> done))); (focus (first | exact oneCells1 rfl | assumption | exact oneCells1 (by assumption) | ((repeat (first | assumption | exact oneCells_nil | exact oneCells_bytesC _ | (apply oneCells_cons; (focus (first | rfl | assumption))) | apply oneCells_append)); done) | (simp [oneCells, Value.oneCell'] <;> done)))) | (apply Sts.lp (by repeat (first | exact LPut.nil _ | apply LPut.here | apply LPut.next)); (focus (first | exact oneCells1 rfl | assumption | exact oneCells1 (by assumption) | ((repeat (first | assumption | exact oneCells_nil | exact oneCells_bytesC _ | (apply oneCells_cons; (focus (first | rfl | assumption))) | apply oneCells_append)); done) | (simp [oneCells, Value.oneCell'] <;> done)))) | (refine Sts.row1 (by first | assumption | omega | (simp <;> omega)) (by first | rfl | assumption)) | (refine Sts.rowP (by assumption) (by first | rfl | assumption | (simp <;> done)) (by rfl) (by (first | exact oneCells1 rfl | assumption | exact oneCells1 (by assumption) | ((repeat (first | assumption | exact oneCells_nil | exact oneCells_bytesC _ | (apply oneCells_cons; (focus (first | rfl | assumption))) | apply oneCells_append)); done) | (simp [oneCells, Value.oneCell'] <;> done)))) | apply Sts.next)) ?_)
          refine WpL.step (Stp.rd (Rdo.assign rfl) rfl ?_)
          refine WpL.nil ?_
          refine Thn.n ?_
          refine Wp.ret ?_
          refine Ret.now (ResV.cell rfl (by repeat (first | exact Lds.one rfl | (apply Lds.all; (first | rfl | assumption | (simp <;> fail))) | exact Lds.ione0 | exact Lds.ione rfl | (apply Lds.iall; (first | rfl | assumption | (simp <;> fail))) | apply Lds.next)) (ResV.tmp rfl ResV.nil)) ?_ ⟨_, ⟨rfl, rfl⟩⟩
          refine Gh.trans (Gh.ice (t := 5) (sz := 1) (n := value.length) (v := .slice na100 value.length nc100) (xs := bytesC value) (by repeat (first | exact Pk.here | apply Pk.next))) ?_
          refine Gh.trans (Gh.fzAlso (Φ := fun g => RdBytes g (.slice na100 value.length nc100) value) Pk.here fun g h => h) ?_
          exact Gh.trans (Gh.tk (by repeat (first | exact Tk.nil | apply Tk.cons (by repeat (first | exact Pk.here | apply Pk.next))))) (Gh.trans (simA_shut (l := [fz (fun g => RdBytes g (.slice na100 value.length nc100) value), fz (fun g => RdBytes g (.slice av value.length cv) value)]) (b := b) (x0, x1, x2, { x3 with next := x3.next + 1, out := true, r := ⟨c.producer, c.epoch, c.last, x3.next, value⟩ }) (.slice a0 x0.r.value.length c0, .slice a1 x1.r.value.length c1, .slice a2 x2.r.value.length c2, .slice na100 value.length nc100) hs2) (Gh.tk (by repeat (first | exact Tk.nil | apply Tk.cons (by repeat (first | exact Pk.here | apply Pk.next))))))
    · rw [if_pos (.inr hb)]
      rw [decide_eq_false hb] at hbg
      refine Trip.of_body Tryd.func35 rfl Tryd.ntmps35 Tryd.results35 rfl ?_
      refine Wp.seq ?_
      refine Wp.region ?_
      (refine WpL.step (Stp.alloc rfl ?_); intro nb2)
      refine WpL.step (Stp.rd (Rdo.assign rfl) rfl ?_)
      refine WpL.nil ?_
      refine Thn.n ?_
      refine Wp.seq ?_
      refine Wp.seq ?_
      refine Wp.region ?_
      refine WpL.step (Stp.rd (Rdo.move rfl) rfl ?_)
      refine WpL.step (Stp.rd (Rdo.nilCheck rfl) rfl ?_)
      refine WpL.step (Stp.rd (Rdo.fieldAddr0 rfl) rfl ?_)
      refine WpL.step (Stp.rd (Rdo.load rfl (Lds.next (Lds.one rfl))) rfl ?_)
      refine WpL.step (Stp.rd (Rdo.not rfl) rfl ?_)
      refine WpL.step (Stp.rd (Rdo.move rfl) rfl ?_)
      refine WpL.gF rfl rfl (by first | rfl | assumption | (simp only [decide_eq_true_eq, decide_eq_false_iff_not, Bool.not_eq_true', Bool.not_eq_false', List.length_cons, List.length_nil]; first | assumption | omega) | (simp <;> done) | (simp <;> omega)) ?_
      refine WpL.want rfl rfl rfl (Stp.rd (Rdo.move rfl) rfl ?_)
      refine WpL.want rfl rfl rfl (Stp.rd (Rdo.lti rfl rfl) rfl ?_)
      refine WpL.step (Stp.rd (Rdo.pick_f rfl rfl) rfl ?_)
      refine WpL.step (Stp.rd (Rdo.move rfl) rfl ?_)
      refine WpL.want rfl rfl rfl (Stp.rd (Rdo.move rfl) rfl ?_)
      refine WpL.want rfl rfl rfl (Stp.rd (Rdo.gti rfl rfl) rfl ?_)
      refine WpL.step (Stp.rd (Rdo.pick_f rfl rfl) rfl ?_)
      refine WpL.step (Stp.rd (Rdo.move rfl) rfl ?_)
      refine WpL.want rfl rfl rfl (Stp.rd (Rdo.move rfl) rfl ?_)
      refine WpL.want rfl rfl rfl (Stp.rd (Rdo.move rfl) rfl ?_)
      refine WpL.want rfl rfl rfl (Stp.rd (Rdo.nilCheck rfl) rfl ?_)
      refine WpL.want rfl rfl rfl (Stp.rd (Rdo.fieldAddr0 rfl) rfl ?_)
      refine WpL.want rfl rfl rfl (Stp.rd (Rdo.indexArrE (i := 3) rfl rfl rfl (by first | omega | (simp <;> omega))) rfl ?_)
      refine WpL.want rfl rfl rfl (Stp.rd (Rdo.fieldAddr rfl) rfl ?_)
      refine WpL.want rfl rfl rfl (Stp.rd (Rdo.load rfl (Lds.next (Lds.one rfl))) rfl ?_)
      refine WpL.want rfl rfl rfl (Stp.rd (Rdo.not rfl) rfl ?_)
      refine WpL.step (Stp.rd (Rdo.pick_f rfl rfl) rfl ?_)
      refine WpL.nil ?_
      refine Thn.n ?_
      refine Wp.condK rfl (by first | rfl | assumption | (simp only [decide_eq_true_eq, decide_eq_false_iff_not, Bool.not_eq_true', Bool.not_eq_false', List.length_cons, List.length_nil]; first | assumption | omega) | (simp <;> done) | (simp <;> omega)) ?_
      refine Wp.seq ?_
      refine Wp.region ?_
      refine WpL.step (Stp.rd (Rdo.bld rfl (BldL.nil _)) rfl ?_)
      refine WpL.step (Stp.storeV rfl rfl (VC.ag _) (by first | rfl | assumption | (simp <;> done)) (by repeat (first | (apply Sts.all; (focus (first | rfl | assumption | (simp <;> done))); (focus (first | exact oneCells1 rfl | assumption | exact oneCells1 (by assumption) | ((repeat (first | assumption | exact oneCells_nil | exact oneCells_bytesC _ | (apply oneCells_cons; (focus (first | rfl | assumption))) | apply oneCells_append)); done) | (simp [oneCells, Value.oneCell'] <;> done)))) | (apply Sts.lp (by repeat (first | exact LPut.nil _ | apply LPut.here | apply LPut.next)); (focus (first | exact oneCells1 rfl | assumption | exact oneCells1 (by assumption) | ((repeat (first | assumption | exact oneCells_nil | exact oneCells_bytesC _ | (apply oneCells_cons; (focus (first | rfl | assumption))) | apply oneCells_append)); done) | (simp [oneCells, Value.oneCell'] <;> done)))) | (refine Sts.row1 (by first | assumption | omega | (simp <;> omega)) (by first | rfl | assumption)) | (refine Sts.rowP (by assumption) (by first | rfl | assumption | (simp <;> done)) (by rfl) (by (first | exact oneCells1 rfl | assumption | exact oneCells1 (by assumption) | ((repeat (first | assumption | exact oneCells_nil | exact oneCells_bytesC _ | (apply oneCells_cons; (focus (first | rfl | assumption))) | apply oneCells_append)); done) | (simp [oneCells, Value.oneCell'] <;> done)))) | apply Sts.next)) ?_)
      refine WpL.step (Stp.rd (Rdo.assign rfl) rfl ?_)
      refine WpL.nil ?_
      refine Thn.n ?_
      refine Wp.ret ?_
      refine Thn.r ?_
      refine Ret.now (ResV.cell rfl (by repeat (first | exact Lds.one rfl | (apply Lds.all; (first | rfl | assumption | (simp <;> fail))) | exact Lds.ione0 | exact Lds.ione rfl | (apply Lds.iall; (first | rfl | assumption | (simp <;> fail))) | apply Lds.next)) (ResV.tmp rfl ResV.nil)) ?_ ⟨_, ⟨rfl, rfl⟩⟩
      exact Gh.trans (Gh.noBytes (a := none) (c := 0)) (Gh.trans (Gh.tk (by repeat (first | exact Tk.nil | apply Tk.cons (by repeat (first | exact Pk.here | apply Pk.next))))) (Gh.trans (simA_shut (l := [fz (fun g => RdBytes g (.slice none 0 0) []), fz (fun g => RdBytes g (.slice av value.length cv) value)]) (b := b) (c := c) (x0, x1, x2, x3) (vals4 (x0, x1, x2, x3) a0 c0 a1 c1 a2 c2 a3 c3) hs) (Gh.tk (by repeat (first | exact Tk.nil | apply Tk.cons (by repeat (first | exact Pk.here | apply Pk.next)))))))
end Go.Proofs.YtaacdekfeljpeaaDoor
