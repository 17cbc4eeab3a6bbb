/- Operations that came in; how long they are; rows of operations applied. -/
import Derived.Test.YtccgdnocldmjeaaDoorCo18
import Derived.Test.YtccgdnocldmjeaaDoorFrm
import Derived.Test.YtccgdnocldmjeaaDoorFrz
namespace Go.Proofs.YtccgdnocldmjeaaDoor
open Go
set_option maxHeartbeats 4000000
set_option linter.unusedSimpArgs false
set_option linter.unusedVariables false
set_option maxRecDepth 20000

abbrev ROp (g : FH) (cs : List Value) (o : Go.Proofs.YtccgdnocldmjeaaDoor.Op) : Prop := cs = opC o ∧ o.name.length ≤ reachBytes
theorem opnI : Opn Tryd.prog 3 1 (fun _ cs (n : Int) => cs = [vi n]) := Opn.map id (Opn.int (k := .i64) (by kernel_rfl)) fun g cs a h => h.1
theorem opnB : Opn Tryd.prog 4 1 (fun _ cs (b : Bool) => cs = [vb b]) := Opn.bool (by kernel_rfl)
theorem opnS : Opn Tryd.prog 9 1 (fun _ cs (s : List UInt8) => cs = [vs s] ∧ s.length ≤ reachBytes) := Opn.string (by kernel_rfl)
theorem opnOp : Opn Tryd.prog 27 9 ROp := by
  refine Opn.map (fun x => ⟨x.1, x.2.1, x.2.2.1, x.2.2.2.1, x.2.2.2.2.1, x.2.2.2.2.2.1, x.2.2.2.2.2.2.1, x.2.2.2.2.2.2.2.1, x.2.2.2.2.2.2.2.2.1⟩) (Opn.struct (by kernel_rfl) (OpnF.cons (k := 0) opnI (OpnF.cons (k := 1) opnI (OpnF.cons (k := 2) opnI (OpnF.cons (k := 3) opnS (OpnF.cons (k := 4) opnI (OpnF.cons (k := 5) opnI (OpnF.cons (k := 6) opnI (OpnF.cons (k := 7) opnI (OpnF.cons (k := 8) opnB (OpnF.nil (k := 9) (by kernel_rfl)))))))))))) ?_
  rintro g cs ⟨a1, a2, a3, a4, a5, a6, a7, a8, a9, _⟩ ⟨c1, d1, rfl, _, rfl, c2, d2, rfl, _, rfl, c3, d3, rfl, _, rfl, c4, d4, rfl, _, ⟨rfl, h4⟩, c5, d5, rfl, _, rfl, c6, d6, rfl, _, rfl, c7, d7, rfl, _, rfl, c8, d8, rfl, _, rfl, c9, d9, rfl, _, rfl, rfl⟩
  exact ⟨rfl, h4⟩
abbrev ROps (g : FH) (cs : List Value) (ops : List Go.Proofs.YtccgdnocldmjeaaDoor.Op) : Prop := ∃ v, cs = [v] ∧ RdSl ROp 9 g v ops ∧ ops.length * 80 ≤ reachBytes
theorem opnOps : Opn Tryd.prog 22 1 ROps := Opn.slice (e := 27) (by_ := 80) (by kernel_rfl) (by kernel_rfl) (by omega) (by kernel_rfl) opnOp
abbrev opsF (v : Value) (ops : List Go.Proofs.YtccgdnocldmjeaaDoor.Op) : HP := fz (fun g => RdSl ROp 9 g v ops)
theorem rop_ {cs : List Value} {o : Go.Proofs.YtccgdnocldmjeaaDoor.Op} (r : Res) (h : fz (fun g => ROp g cs o) r) : cs = opC o ∧ o.name.length ≤ reachBytes := by unfold fz at h; exact h
/-- No name is too long. -/
def NmTo (ops : List Go.Proofs.YtccgdnocldmjeaaDoor.Op) (i : Nat) : Prop := ∀ j o, j < i → ops[j]? = some o → o.name.length ≤ 2000
theorem NmTo.succ {ops : List Go.Proofs.YtccgdnocldmjeaaDoor.Op} {i : Nat} {o : Go.Proofs.YtccgdnocldmjeaaDoor.Op} (h : NmTo ops i) (ha : ops[i]? = some o) (hok : o.name.length ≤ 2000) : NmTo ops (i + 1) := fun j b hj hb => by
  by_cases hji : j = i
  · subst hji
    rw [ha] at hb
    cases hb
    exact hok
  · exact h j b (by omega) hb
theorem NmTo.all {ops : List Go.Proofs.YtccgdnocldmjeaaDoor.Op} (h : NmTo ops ops.length) (i : Nat) : NmTo ops i := fun j b _ hb => h j b (List.getElem?_eq_some_iff.1 hb).1 hb
theorem long_ok (v : Value) (ops : List Go.Proofs.YtccgdnocldmjeaaDoor.Op) (hl : ops.length ≤ reachBytes) : Trip Tryd.prog 12 [v] [opsF v ops] (fun r l => ∃ b : {b : Bool // b = false → NmTo ops 80}, r = vb b.1 ∧ l = [opsF v ops]) := by
  have hR : reachBytes = 140737488351232 := by decide
  refine Trip.get Pk.here shape_rdsl ?_
  rintro ⟨a1, c1, rfl⟩
  refine Trip.of_body Tryd.func12 rfl Tryd.ntmps12 Tryd.results12 rfl ?_
  refine Wp.seq ?_
  refine Wp.region ?_
  refine WpL.step (Stp.rd (Rdo.assign rfl) rfl ?_)
  refine WpL.nil ?_
  refine Thn.n ?_
  refine Wp.seq ?_
  refine Wp.region ?_
  refine WpL.step (Stp.rd (Rdo.assign rfl) rfl ?_)
  refine WpL.nil ?_
  refine Thn.n ?_
  refine Wp.seq ?_
  refine Wp.seq ?_
  refine Wp.region ?_
  refine WpL.step (Stp.rd (Rdo.assign rfl) rfl ?_)
  refine WpL.nil ?_
  refine Thn.n ?_
  refine Wp.block ?_
  refine Wp.loopE (fun k e h => ∃ (i : Nat) (n : Int), i + k = ops.length ∧ (0 ≤ n ∧ n ≤ 2000) ∧ NmTo ops i ∧ e = [(0, .slice a1 ops.length c1), (2, vb false), (3, vi n), (4, vi i)] ∧ h = [opsF (.slice a1 ops.length c1) ops]) ops.length
    (e0 := [(0, .slice a1 ops.length c1), (2, vb false), (3, vi 0), (4, vi (0 : Nat))]) (l0 := [opsF (.slice a1 ops.length c1) ops]) (by repeat (first | exact trivial | refine ⟨rfl, ?_⟩)) (by repeat (first | exact trivial | refine ⟨rfl, ?_⟩)) (Gh.tk (by repeat (first | exact Tk.nil | apply Tk.cons (by repeat (first | exact Pk.here | apply Pk.next))))) ⟨0, 0, by simp, by omega, fun j a hj => by omega, rfl, rfl⟩ ?_
  rintro k e h ⟨i, n, hik, hn, hto, rfl, rfl⟩
  by_cases hi : i < ops.length
  · have hi' : (i : Int) < ops.length := by omega
    by_cases h80 : (i : Int) < 80
    · refine Wp.ghE (GhE.elem (R := ROp) Pk.here i hi) ?_
      rintro ⟨bb, o, cap, cs⟩ ⟨hv, hcs⟩
      simp only [Value.slice.injEq, true_and] at hv
      obtain ⟨rfl, rfl⟩ := hv
      simp only
      refine Wp.get (Pk.next Pk.here) rop_ ?_
      rintro ⟨rfl, hnl⟩
      have hat : ops[i]? = some ops[i] := List.getElem?_eq_getElem hi
      generalize ops[i] = x at hnl hat
      by_cases hbig : 2000 < n + 1 + (x.name.length : Int)
      · refine Wp.seq ?_
        refine Wp.seq ?_
        refine Wp.region ?_
        refine WpL.step (Stp.rd (Rdo.move rfl) rfl ?_)
        refine WpL.step (Stp.rd (Rdo.move rfl) rfl ?_)
        refine WpL.step (Stp.rd (Rdo.lenSlice rfl) rfl ?_)
        refine WpL.step (Stp.rd (Rdo.lti rfl rfl) rfl ?_)
        refine WpL.step (Stp.rd (Rdo.move rfl) rfl ?_)
        refine WpL.gT rfl rfl (by first | rfl | assumption | (simp only [decide_eq_true_eq, decide_eq_false_iff_not, Bool.not_eq_true', Bool.not_eq_false', List.length_cons, List.length_nil]; first | assumption | omega) | (simp <;> done) | (simp <;> omega)) ?_
        refine WpL.want rfl rfl rfl (Stp.rd (Rdo.move rfl) rfl ?_)
        refine WpL.want rfl rfl rfl (Stp.rd (Rdo.lti rfl rfl) rfl ?_)
        refine WpL.step (Stp.rd (Rdo.pick_t rfl rfl) rfl ?_)
        refine WpL.nil ?_
        refine Thn.n ?_
        refine Wp.condK rfl (by first | rfl | assumption | (simp only [decide_eq_true_eq, decide_eq_false_iff_not, Bool.not_eq_true', Bool.not_eq_false', List.length_cons, List.length_nil]; first | assumption | omega) | (simp <;> done) | (simp <;> omega)) ?_
        refine Wp.skip ?_
        refine Thn.n ?_
        refine Wp.seq ?_
        refine Wp.block ?_
        refine Wp.seq ?_
        refine Wp.region ?_
        refine WpL.step (Stp.rd (Rdo.move rfl) rfl ?_)
        refine WpL.step (Stp.rd (Rdo.add64 rfl rfl (by first | omega | (dsimp only; omega))) rfl ?_)
        refine WpL.step (Stp.rd (Rdo.move rfl) rfl ?_)
        refine WpL.step (Stp.rd (Rdo.move rfl) rfl ?_)
        refine WpL.step (Stp.rd (Rdo.indexSlice rfl rfl (by omega)) rfl ?_)
        refine WpL.step (Stp.rd (Rdo.fieldAddr rfl) rfl ?_)
        refine WpL.step (Stp.rd (Rdo.load rfl (Lds.ione rfl)) rfl ?_)
        refine WpL.step (Stp.rd (Rdo.lenVs rfl) rfl ?_)
        refine WpL.step (Stp.rd (Rdo.add64 rfl rfl (by first | omega | (dsimp only; omega))) rfl ?_)
        refine WpL.step (Stp.rd (Rdo.assign rfl) rfl ?_)
        refine WpL.nil ?_
        refine Thn.n ?_
        refine Wp.seq ?_
        refine Wp.region ?_
        refine WpL.step (Stp.rd (Rdo.move rfl) rfl ?_)
        refine WpL.step (Stp.rd (Rdo.gti rfl rfl) rfl ?_)
        refine WpL.nil ?_
        refine Thn.n ?_
        refine Wp.condK rfl (by first | rfl | assumption | (simp only [decide_eq_true_eq, decide_eq_false_iff_not, Bool.not_eq_true', Bool.not_eq_false', List.length_cons, List.length_nil]; first | assumption | omega) | (simp <;> done) | (simp <;> omega)) ?_
        refine Wp.seq ?_
        refine Wp.region ?_
        refine WpL.step (Stp.rd (Rdo.assign rfl) rfl ?_)
        refine WpL.nil ?_
        refine Thn.n ?_
        refine Wp.ret ?_
        refine Blk.r ?_
        refine Thn.r ?_
        refine Thn.r ?_
        refine Blk.r ?_
        refine Thn.r ?_
        refine Ret.now (by repeat (first | exact ResV.nil | apply ResV.tmp rfl | apply ResV.cell rfl (by repeat (first | exact Lds.one rfl | (apply Lds.all; (first | rfl | assumption | (simp <;> fail))) | exact Lds.ione0 | exact Lds.ione rfl | (apply Lds.iall; (first | rfl | assumption | (simp <;> fail))) | apply Lds.next)))) (Gh.tk (by repeat (first | exact Tk.nil | apply Tk.cons (by repeat (first | exact Pk.here | apply Pk.next))))) ⟨⟨true, fun h => by cases h⟩, rfl, rfl⟩
      · refine Wp.seq ?_
        refine Wp.seq ?_
        refine Wp.region ?_
        refine WpL.step (Stp.rd (Rdo.move rfl) rfl ?_)
        refine WpL.step (Stp.rd (Rdo.move rfl) rfl ?_)
        refine WpL.step (Stp.rd (Rdo.lenSlice rfl) rfl ?_)
        refine WpL.step (Stp.rd (Rdo.lti rfl rfl) rfl ?_)
        refine WpL.step (Stp.rd (Rdo.move rfl) rfl ?_)
        refine WpL.gT rfl rfl (by first | rfl | assumption | (simp only [decide_eq_true_eq, decide_eq_false_iff_not, Bool.not_eq_true', Bool.not_eq_false', List.length_cons, List.length_nil]; first | assumption | omega) | (simp <;> done) | (simp <;> omega)) ?_
        refine WpL.want rfl rfl rfl (Stp.rd (Rdo.move rfl) rfl ?_)
        refine WpL.want rfl rfl rfl (Stp.rd (Rdo.lti rfl rfl) rfl ?_)
        refine WpL.step (Stp.rd (Rdo.pick_t rfl rfl) rfl ?_)
        refine WpL.nil ?_
        refine Thn.n ?_
        refine Wp.condK rfl (by first | rfl | assumption | (simp only [decide_eq_true_eq, decide_eq_false_iff_not, Bool.not_eq_true', Bool.not_eq_false', List.length_cons, List.length_nil]; first | assumption | omega) | (simp <;> done) | (simp <;> omega)) ?_
        refine Wp.skip ?_
        refine Thn.n ?_
        refine Wp.seq ?_
        refine Wp.block ?_
        refine Wp.seq ?_
        refine Wp.region ?_
        refine WpL.step (Stp.rd (Rdo.move rfl) rfl ?_)
        refine WpL.step (Stp.rd (Rdo.add64 rfl rfl (by first | omega | (dsimp only; omega))) rfl ?_)
        refine WpL.step (Stp.rd (Rdo.move rfl) rfl ?_)
        refine WpL.step (Stp.rd (Rdo.move rfl) rfl ?_)
        refine WpL.step (Stp.rd (Rdo.indexSlice rfl rfl (by omega)) rfl ?_)
        refine WpL.step (Stp.rd (Rdo.fieldAddr rfl) rfl ?_)
        refine WpL.step (Stp.rd (Rdo.load rfl (Lds.ione rfl)) rfl ?_)
        refine WpL.step (Stp.rd (Rdo.lenVs rfl) rfl ?_)
        refine WpL.step (Stp.rd (Rdo.add64 rfl rfl (by first | omega | (dsimp only; omega))) rfl ?_)
        refine WpL.step (Stp.rd (Rdo.assign rfl) rfl ?_)
        refine WpL.nil ?_
        refine Thn.n ?_
        refine Wp.seq ?_
        refine Wp.region ?_
        refine WpL.step (Stp.rd (Rdo.move rfl) rfl ?_)
        refine WpL.step (Stp.rd (Rdo.gti rfl rfl) rfl ?_)
        refine WpL.nil ?_
        refine Thn.n ?_
        refine Wp.condL rfl (by first | rfl | assumption | (simp only [decide_eq_true_eq, decide_eq_false_iff_not, Bool.not_eq_true', Bool.not_eq_false', List.length_cons, List.length_nil]; first | assumption | omega) | (simp <;> done) | (simp <;> omega)) ?_
        refine Wp.skip ?_
        refine Blk.n ?_
        refine Thn.n ?_
        refine Wp.region ?_
        refine WpL.step (Stp.rd (Rdo.move rfl) rfl ?_)
        refine WpL.step (Stp.rd (Rdo.succ rfl rfl (by omega)) rfl ?_)
        refine WpL.step (Stp.rd (Rdo.assign rfl) rfl ?_)
        refine WpL.nil ?_
        refine Thn.n ?_
        exact ⟨k - 1, _, _, by omega, ⟨i + 1, n + 1 + (x.name.length : Int), by omega, by omega, hto.succ hat (by omega), rfl, rfl⟩, (by repeat (first | exact trivial | refine ⟨rfl, ?_⟩)), Gh.tk (by repeat (first | exact Tk.nil | apply Tk.cons (by repeat (first | exact Pk.here | apply Pk.next))))⟩
    · refine Wp.seq ?_
      refine Wp.seq ?_
      refine Wp.region ?_
      refine WpL.step (Stp.rd (Rdo.move rfl) rfl ?_)
      refine WpL.step (Stp.rd (Rdo.move rfl) rfl ?_)
      refine WpL.step (Stp.rd (Rdo.lenSlice rfl) rfl ?_)
      refine WpL.step (Stp.rd (Rdo.lti rfl rfl) rfl ?_)
      refine WpL.step (Stp.rd (Rdo.move rfl) rfl ?_)
      refine WpL.gT rfl rfl (by first | rfl | assumption | (simp only [decide_eq_true_eq, decide_eq_false_iff_not, Bool.not_eq_true', Bool.not_eq_false', List.length_cons, List.length_nil]; first | assumption | omega) | (simp <;> done) | (simp <;> omega)) ?_
      refine WpL.want rfl rfl rfl (Stp.rd (Rdo.move rfl) rfl ?_)
      refine WpL.want rfl rfl rfl (Stp.rd (Rdo.lti rfl rfl) rfl ?_)
      refine WpL.step (Stp.rd (Rdo.pick_t rfl rfl) rfl ?_)
      refine WpL.nil ?_
      refine Thn.n ?_
      refine Wp.condL rfl (by first | rfl | assumption | (simp only [decide_eq_true_eq, decide_eq_false_iff_not, Bool.not_eq_true', Bool.not_eq_false', List.length_cons, List.length_nil]; first | assumption | omega) | (simp <;> done) | (simp <;> omega)) ?_
      refine Wp.exit ?_
      refine Thn.x ?_
      refine Thn.x ?_
      refine Blk.here ?_
      refine Thn.n ?_
      refine Wp.seq ?_
      refine Wp.region ?_
      refine WpL.step (Stp.rd (Rdo.assign rfl) rfl ?_)
      refine WpL.nil ?_
      refine Thn.n ?_
      refine Wp.ret ?_
      refine Ret.now (by repeat (first | exact ResV.nil | apply ResV.tmp rfl | apply ResV.cell rfl (by repeat (first | exact Lds.one rfl | (apply Lds.all; (first | rfl | assumption | (simp <;> fail))) | exact Lds.ione0 | exact Lds.ione rfl | (apply Lds.iall; (first | rfl | assumption | (simp <;> fail))) | apply Lds.next)))) (Gh.tk (by repeat (first | exact Tk.nil | apply Tk.cons (by repeat (first | exact Pk.here | apply Pk.next))))) ⟨⟨_, fun _ j a hj => hto j a (by omega)⟩, rfl, rfl⟩
  · have hi' : i = ops.length := by omega
    subst hi'
    refine Wp.seq ?_
    refine Wp.seq ?_
    refine Wp.region ?_
    refine WpL.step (Stp.rd (Rdo.move rfl) rfl ?_)
    refine WpL.step (Stp.rd (Rdo.move rfl) rfl ?_)
    refine WpL.step (Stp.rd (Rdo.lenSlice rfl) rfl ?_)
    refine WpL.step (Stp.rd (Rdo.lti rfl rfl) rfl ?_)
    refine WpL.step (Stp.rd (Rdo.move rfl) rfl ?_)
    refine WpL.gF rfl rfl (by first | rfl | assumption | (simp only [decide_eq_true_eq, decide_eq_false_iff_not, Bool.not_eq_true', Bool.not_eq_false', List.length_cons, List.length_nil]; first | assumption | omega) | (simp <;> done) | (simp <;> omega)) ?_
    refine WpL.pass rfl rfl rfl rfl ?_
    refine WpL.pass rfl rfl rfl rfl ?_
    refine WpL.step (Stp.rd (Rdo.pick_f rfl rfl) rfl ?_)
    refine WpL.nil ?_
    refine Thn.n ?_
    refine Wp.condF rfl ?_
    refine Wp.exit ?_
    refine Thn.x ?_
    refine Thn.x ?_
    refine Blk.here ?_
    refine Thn.n ?_
    refine Wp.seq ?_
    refine Wp.region ?_
    refine WpL.step (Stp.rd (Rdo.assign rfl) rfl ?_)
    refine WpL.nil ?_
    refine Thn.n ?_
    refine Wp.ret ?_
    refine Ret.now (by repeat (first | exact ResV.nil | apply ResV.tmp rfl | apply ResV.cell rfl (by repeat (first | exact Lds.one rfl | (apply Lds.all; (first | rfl | assumption | (simp <;> fail))) | exact Lds.ione0 | exact Lds.ione rfl | (apply Lds.iall; (first | rfl | assumption | (simp <;> fail))) | apply Lds.next)))) (Gh.tk (by repeat (first | exact Tk.nil | apply Tk.cons (by repeat (first | exact Pk.here | apply Pk.next))))) ⟨⟨_, fun _ => hto.all _⟩, rfl, rfl⟩

/-- Operations, one after the other. -/
def run (c : CoS) (ops : List Go.Proofs.YtccgdnocldmjeaaDoor.Op) : CoS := ops.foldl (fun c o => (c.apply o).2.2) c
theorem run_snoc (c : CoS) (ops : List Go.Proofs.YtccgdnocldmjeaaDoor.Op) (o : Go.Proofs.YtccgdnocldmjeaaDoor.Op) : run c (ops ++ [o]) = ((run c ops).apply o).2.2 := by simp [run]
theorem run_Ok (ops : List Go.Proofs.YtccgdnocldmjeaaDoor.Op) : ∀ {k : Nat} {c : CoS}, c.Ok k → (run c ops).Ok (k + ops.length) := by
  induction ops with
  | nil => intro k c h; exact h
  | cons o ops ih =>
    intro k c h
    have h2 := ih (apply_Ok h o)
    rw [show k + 1 + ops.length = k + (o :: ops).length by simp; omega] at h2
    exact h2
theorem run_Pa (ops : List Go.Proofs.YtccgdnocldmjeaaDoor.Op) : ∀ {c : CoS}, PaL c.prods → PaL (run c ops).prods := by
  induction ops with
  | nil => intro c h; exact h
  | cons o ops ih =>
    intro c h
    exact ih (apply_Pa h o)
theorem apply_new_eq {c : CoS} {o : Go.Proofs.YtccgdnocldmjeaaDoor.Op} (ho : okOp o) (ha : alook c.answers (o.client, o.seq) = none) :
    c.apply o = ((c.does o).1, (c.does o).2.1, { (c.does o).2.2 with answers := c.answers ++ [((o.client, o.seq), (c.does o).1)] }) := by
  unfold CoS.apply
  rw [if_pos ho, ha]
  simp only [does_answers]
end Go.Proofs.YtccgdnocldmjeaaDoor
