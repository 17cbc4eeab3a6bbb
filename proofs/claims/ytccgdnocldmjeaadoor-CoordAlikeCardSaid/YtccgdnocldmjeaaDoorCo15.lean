/- The coordinator: what it tells. -/
import Derived.Test.YtccgdnocldmjeaaDoorCo13
import Derived.Test.YtccgdnocldmjeaaDoorKeysB
import Derived.Test.YtccgdnocldmjeaaDoorBrw
namespace Go.Proofs.YtccgdnocldmjeaaDoor
open Go
set_option maxHeartbeats 4000000
set_option linter.unusedSimpArgs false
set_option linter.unusedVariables false
set_option maxRecDepth 20000
open Tabprod Keysbool

abbrev RdMarks (g : FH) (v : Value) (ms : List Mark) : Prop := RdRow g 4 v ms.length (ms.map markC).flatten
theorem marksC_length (ms : List Mark) : ((ms.map markC).flatten).length = ms.length * 4 := by
  induction ms with
  | nil => rfl
  | cons m ms ih => simp [ih]; omega
theorem marksC_one (ms : List Mark) : oneCells (ms.map markC).flatten := by
  intro v hv
  obtain ⟨l, hl, hv⟩ := List.mem_flatten.1 hv
  obtain ⟨m, _, rfl⟩ := List.mem_map.1 hl
  simp only [markC, List.mem_cons, List.not_mem_nil, or_false] at hv
  rcases hv with rfl | rfl | rfl | rfl <;> rfl
theorem shape_marks {v : Value} {ms : List Mark} (r : Res) (h : fz (fun g => RdMarks g v ms) r) : ∃ a c, v = .slice a ms.length c := by
  unfold fz at h
  obtain ⟨_, a, c, h2, _⟩ := h
  exact ⟨a, c, h2⟩
theorem nil_marks {n c : Nat} {ms : List Mark} (r : Res) (h : fz (fun g => RdMarks g (.slice none n c) ms) r) : ms = [] := by
  unfold fz at h
  obtain ⟨_, a, c', h2, h3⟩ := h
  simp only [Value.slice.injEq] at h2
  obtain ⟨rfl, rfl, rfl⟩ := h2
  rcases h3 with h3 | ⟨b, o, h3, _⟩
  · exact List.eq_nil_of_length_eq_zero h3
  · cases h3
theorem marksClone0 (v : Value) (ms : List Mark) (hb : ms.length ≤ 1000000) :
    Trip Tryd.prog 26 [v] [fz (fun g => RdMarks g v ms)] (fun r l => ∃ a c, r = .slice a ms.length c ∧ l = [markA (.slice a ms.length c) ms]) := by
  refine Trip.get Pk.here shape_marks ?_
  rintro ⟨a, c, rfl⟩
  have hlen := marksC_length ms
  have hone := marksC_one ms
  cases a with
  | none =>
    refine Trip.get Pk.here nil_marks ?_
    rintro rfl
    refine Trip.of_body Tryd.func26 rfl Tryd.ntmps26 Tryd.results26 rfl ?_
    refine Wp.seq ?_
    refine Wp.region ?_
    refine WpL.step (Stp.rd (Rdo.assign rfl) rfl ?_)
    refine WpL.nil ?_
    refine Thn.n ?_
    refine Wp.seq ?_
    refine Wp.seq ?_
    refine Wp.region ?_
    refine WpL.step (Stp.rd (Rdo.move rfl) rfl ?_)
    refine WpL.step (Stp.rd (Rdo.eqslnil rfl rfl) rfl ?_)
    refine WpL.nil ?_
    refine Thn.n ?_
    refine Wp.condT rfl ?_
    refine Wp.seq ?_
    refine Wp.region ?_
    refine WpL.step (Stp.rd (Rdo.assign rfl) rfl ?_)
    refine WpL.nil ?_
    refine Thn.n ?_
    refine Wp.ret ?_
    refine Thn.r ?_
    exact Ret.now (ResV.tmp rfl ResV.nil) (Gh.trans (Gh.nil 36 4) (Gh.tk (by repeat (first | exact Tk.nil | apply Tk.cons (by repeat (first | exact Pk.here | apply Pk.next)))))) ⟨none, 0, rfl, rfl⟩
  | some a =>
    refine Trip.of_body Tryd.func26 rfl Tryd.ntmps26 Tryd.results26 rfl ?_
    refine Wp.seq ?_
    refine Wp.region ?_
    refine WpL.step (Stp.rd (Rdo.assign rfl) rfl ?_)
    refine WpL.nil ?_
    refine Thn.n ?_
    refine Wp.seq ?_
    refine Wp.seq ?_
    refine Wp.region ?_
    refine WpL.step (Stp.rd (Rdo.move rfl) rfl ?_)
    refine WpL.step (Stp.rd (Rdo.eqslnil rfl rfl) rfl ?_)
    refine WpL.nil ?_
    refine Thn.n ?_
    refine Wp.condF rfl ?_
    refine Wp.skip ?_
    refine Thn.n ?_
    refine Wp.seq ?_
    refine Wp.region ?_
    (refine WpL.step (Stp.slice0 rfl ?_); intro nb17)
    refine WpL.step (Stp.rd (Rdo.move rfl) rfl ?_)
    refine WpL.step (Stp.append0P rfl rfl Pk.here Src.frozen hlen hone (by omega) (by omega) rfl (by rfl) ?_)
    intro na nc
    refine WpL.step (Stp.rd (Rdo.assign rfl) rfl ?_)
    refine WpL.nil ?_
    refine Thn.n ?_
    refine Wp.ret ?_
    refine Ret.now (ResV.tmp rfl ResV.nil) (Gh.tk (by repeat (first | exact Tk.nil | apply Tk.cons (by repeat (first | exact Pk.here | apply Pk.next))))) ⟨_, ⟨_, ⟨rfl, rfl⟩⟩⟩
theorem RdRow.sub_ {a r : Res} {sz n : Nat} {v : Value} {xs : List Value} (hle : ∀ b x, a b = some x → r b = some x) (h : RdRow (fun b => (a b).map (·.2)) sz v n xs) : RdRow (fun b => (r b).map (·.2)) sz v n xs :=
  RdRow.mono _ _ _ _ _ _ (fun b o hb => by
    cases hx : a b with
    | none => rw [hx] at hb; cases hb
    | some y => rw [hx] at hb; rw [hle b y hx]; exact hb) h
theorem marksClone_ok (v : Value) (ms : List Mark) (hb : ms.length ≤ 1000000) :
    Trip Tryd.prog 26 [v] [markA v ms] (fun r l => ∃ a c, r = .slice a ms.length c ∧ l = [markA v ms, markA (.slice a ms.length c) ms]) := by
  have h := Trip.lend (own := [markA v ms]) (pre := []) (marksClone0 v ms hb) (fun r hr => by
    obtain ⟨r1, r2, hj, h1, h2⟩ := hr
    exact RdRow.sub_ (fun b y hb => hj.left hb) (row_iced h1)) (by rintro v l ⟨a, c, rfl, rfl⟩; exact OwnL.cons Own1.row OwnL.nil)
  refine Trip.mono h ?_
  rintro r l ⟨l', ⟨a, c, rfl, rfl⟩, rfl⟩
  exact ⟨a, c, rfl, rfl⟩
theorem marks_ok (b : Nat) (c : CoS) (hl : c.marks.length ≤ 1000000) : Trip Tryd.prog 16 [vp b 0] [coA b c] (fun r l => ∃ a cp, r = .slice a c.marks.length cp ∧ l = [coA b c, markA (.slice a c.marks.length cp) c.marks]) := by
  refine Trip.ghE coA_open ?_
  rintro m hm
  have s1 := marksClone_ok m.mv c.marks hl
  simp only [coX, List.cons_append, List.nil_append]
  refine Trip.of_body Tryd.func16 rfl Tryd.ntmps16 Tryd.results16 rfl ?_
  refine Wp.seq ?_
  refine Wp.region ?_
  refine WpL.step (Stp.rd (Rdo.assign rfl) rfl ?_)
  refine WpL.nil ?_
  refine Thn.n ?_
  refine Wp.seq ?_
  refine Wp.seq ?_
  refine Wp.region ?_
  refine WpL.step (Stp.rd (Rdo.move rfl) rfl ?_)
  refine WpL.step (Stp.rd (Rdo.eqnil rfl rfl) rfl ?_)
  refine WpL.nil ?_
  refine Thn.n ?_
  refine Wp.condF rfl ?_
  refine Wp.skip ?_
  refine Thn.n ?_
  refine Wp.seq ?_
  refine Wp.region ?_
  refine WpL.step (Stp.rd (Rdo.move rfl) rfl ?_)
  refine WpL.step (Stp.rd (Rdo.nilCheck rfl) rfl ?_)
  refine WpL.step (Stp.rd (Rdo.fieldAddr0 rfl) rfl ?_)
  refine WpL.step (Stp.rd (Rdo.load rfl (Lds.one rfl)) rfl ?_)
  refine WpL.step (Stp.call (s1) (by kernel_rfl) rfl (by repeat (first | exact Tk.nil | apply Tk.cons (by repeat (first | exact Pk.here | apply Pk.next)))) rfl ?_)
  rintro _ _ ⟨v22_0, ⟨v22_1, ⟨rfl, rfl⟩⟩⟩
  refine WpL.lst (by simp only [List.cons_append, List.nil_append]; exact rfl) ?_
  refine WpL.step (Stp.rd (Rdo.assign rfl) rfl ?_)
  refine WpL.nil ?_
  refine Thn.n ?_
  refine Wp.ret ?_
  refine Ret.now (by repeat (first | exact ResV.nil | apply ResV.tmp rfl | apply ResV.cell rfl (by repeat (first | exact Lds.one rfl | (apply Lds.all; (first | rfl | assumption | (simp <;> fail))) | exact Lds.ione0 | exact Lds.ione rfl | (apply Lds.iall; (first | rfl | assumption | (simp <;> fail))) | apply Lds.next)))) (Gh.trans (Gh.tk (by repeat (first | exact Tk.nil | apply Tk.cons (by repeat (first | exact Pk.here | apply Pk.next))))) (fin1 (c := c) (ms := c.marks) m hm)) ⟨_, _, rfl, rfl⟩
/-- A producer that there is. -/
theorem producer_at {b : Nat} {c : CoS} {m : CoM} {n : Int} {q : Nat} (h0 : 0 ≤ n) (hqi : m.qs[n.toNat]? = some q) (v1 v2 v3 v4 : Value) :
    Trip Tryd.prog 27 [vp b 0, vi n] [cel b 64 [vp m.tb 0, v1, v2, v3, v4], cel m.tb 83 [.map (some m.mb)], mapA i64 m.mb (tabE 0 m.qs)]
      (fun r l => r = vp q 0 ∧ l = [cel b 64 [vp m.tb 0, v1, v2, v3, v4], cel m.tb 83 [.map (some m.mb)], mapA i64 m.mb (tabE 0 m.qs)]) := by
  have s1 := get_at (b := m.tb) (mb := m.mb) h0 hqi
  refine Trip.of_body Tryd.func27 rfl Tryd.ntmps27 Tryd.results27 rfl ?_
  refine Wp.seq ?_
  refine Wp.region ?_
  refine WpL.step (Stp.rd (Rdo.assign rfl) rfl ?_)
  refine WpL.nil ?_
  refine Thn.n ?_
  refine Wp.seq ?_
  refine Wp.seq ?_
  refine Wp.region ?_
  refine WpL.step (Stp.rd (Rdo.move rfl) rfl ?_)
  refine WpL.step (Stp.rd (Rdo.eqnil rfl rfl) rfl ?_)
  refine WpL.nil ?_
  refine Thn.n ?_
  refine Wp.condF rfl ?_
  refine Wp.skip ?_
  refine Thn.n ?_
  refine Wp.seq ?_
  refine Wp.region ?_
  refine WpL.step (Stp.rd (Rdo.move rfl) rfl ?_)
  refine WpL.step (Stp.rd (Rdo.nilCheck rfl) rfl ?_)
  refine WpL.step (Stp.rd (Rdo.fieldAddr0 rfl) rfl ?_)
  refine WpL.step (Stp.rd (Rdo.load rfl (Lds.one rfl)) rfl ?_)
  refine WpL.step (Stp.rd (Rdo.move rfl) rfl ?_)
  refine WpL.step (Stp.call (s1) (by kernel_rfl) rfl (by repeat (first | exact Tk.nil | apply Tk.cons (by repeat (first | exact Pk.here | apply Pk.next)))) rfl ?_)
  rintro _ _ ⟨rfl, rfl⟩
  refine WpL.lst (by simp only [List.cons_append, List.nil_append]; exact rfl) ?_
  refine WpL.step (Stp.rd (Rdo.move rfl) rfl ?_)
  refine WpL.step (Stp.rd (Rdo.extract rfl rfl) rfl ?_)
  refine WpL.step (Stp.rd (Rdo.extract rfl rfl) rfl ?_)
  refine WpL.step (Stp.rd (Rdo.assign rfl) rfl ?_)
  refine WpL.step (Stp.rd (Rdo.assign rfl) rfl ?_)
  refine WpL.nil ?_
  refine Thn.n ?_
  refine Wp.seq ?_
  refine Wp.region ?_
  refine WpL.step (Stp.rd (Rdo.move rfl) rfl ?_)
  refine WpL.step (Stp.rd (Rdo.assign rfl) rfl ?_)
  refine WpL.nil ?_
  refine Thn.n ?_
  refine Wp.ret ?_
  refine Ret.now (ResV.tmp rfl ResV.nil) (Gh.tk (by repeat (first | exact Tk.nil | apply Tk.cons (by repeat (first | exact Pk.here | apply Pk.next))))) ⟨rfl, rfl⟩
theorem producer_none {b : Nat} {c : CoS} {m : CoM} {n : Int} (h0 : ¬ (0 ≤ n ∧ n < m.qs.length)) (v1 v2 v3 v4 : Value) :
    Trip Tryd.prog 27 [vp b 0, vi n] [cel b 64 [vp m.tb 0, v1, v2, v3, v4], cel m.tb 83 [.map (some m.mb)], mapA i64 m.mb (tabE 0 m.qs)]
      (fun r l => r = .pointer none ∧ l = [cel b 64 [vp m.tb 0, v1, v2, v3, v4], cel m.tb 83 [.map (some m.mb)], mapA i64 m.mb (tabE 0 m.qs)]) := by
  have s1 := get_none (b := m.tb) (mb := m.mb) (qs := m.qs) h0
  refine Trip.of_body Tryd.func27 rfl Tryd.ntmps27 Tryd.results27 rfl ?_
  refine Wp.seq ?_
  refine Wp.region ?_
  refine WpL.step (Stp.rd (Rdo.assign rfl) rfl ?_)
  refine WpL.nil ?_
  refine Thn.n ?_
  refine Wp.seq ?_
  refine Wp.seq ?_
  refine Wp.region ?_
  refine WpL.step (Stp.rd (Rdo.move rfl) rfl ?_)
  refine WpL.step (Stp.rd (Rdo.eqnil rfl rfl) rfl ?_)
  refine WpL.nil ?_
  refine Thn.n ?_
  refine Wp.condF rfl ?_
  refine Wp.skip ?_
  refine Thn.n ?_
  refine Wp.seq ?_
  refine Wp.region ?_
  refine WpL.step (Stp.rd (Rdo.move rfl) rfl ?_)
  refine WpL.step (Stp.rd (Rdo.nilCheck rfl) rfl ?_)
  refine WpL.step (Stp.rd (Rdo.fieldAddr0 rfl) rfl ?_)
  refine WpL.step (Stp.rd (Rdo.load rfl (Lds.one rfl)) rfl ?_)
  refine WpL.step (Stp.rd (Rdo.move rfl) rfl ?_)
  refine WpL.step (Stp.call (s1) (by kernel_rfl) rfl (by repeat (first | exact Tk.nil | apply Tk.cons (by repeat (first | exact Pk.here | apply Pk.next)))) rfl ?_)
  rintro _ _ ⟨rfl, rfl⟩
  refine WpL.lst (by simp only [List.cons_append, List.nil_append]; exact rfl) ?_
  refine WpL.step (Stp.rd (Rdo.move rfl) rfl ?_)
  refine WpL.step (Stp.rd (Rdo.extract rfl rfl) rfl ?_)
  refine WpL.step (Stp.rd (Rdo.extract rfl rfl) rfl ?_)
  refine WpL.step (Stp.rd (Rdo.assign rfl) rfl ?_)
  refine WpL.step (Stp.rd (Rdo.assign rfl) rfl ?_)
  refine WpL.nil ?_
  refine Thn.n ?_
  refine Wp.seq ?_
  refine Wp.region ?_
  refine WpL.step (Stp.rd (Rdo.move rfl) rfl ?_)
  refine WpL.step (Stp.rd (Rdo.assign rfl) rfl ?_)
  refine WpL.nil ?_
  refine Thn.n ?_
  refine Wp.ret ?_
  refine Ret.now (ResV.tmp rfl ResV.nil) (Gh.tk (by repeat (first | exact Tk.nil | apply Tk.cons (by repeat (first | exact Pk.here | apply Pk.next))))) ⟨rfl, rfl⟩
/-- A producer's epoch. -/
def CoS.epoch (c : CoS) (n : Int) : Int × Bool := if 0 ≤ n ∧ n < c.prods.length then ((c.prods.getD n.toNat prod0).epoch, true) else (0, false)
theorem epoch_ok (b : Nat) (c : CoS) (n : Int) : Trip Tryd.prog 20 [vp b 0, vi n] [coA b c] (fun r l => r = .tuple #[vi (c.epoch n).1, vb (c.epoch n).2] ∧ l = [coA b c]) := by
  unfold CoS.epoch
  by_cases h : 0 ≤ n ∧ n < c.prods.length
  · simp only [if_pos h]
    have hpi := getD_get (ps := c.prods) (i := n.toNat) (by omega)
    generalize c.prods.getD n.toNat prod0 = p at *
    refine Trip.ghE (coA_at hpi) ?_
    rintro ⟨m, q, v⟩ ⟨hm, hqi⟩
    simp only at hm hqi
    have s1 := producer_at (b := b) (c := c) h.1 hqi m.mv (.map (some m.db)) (.map (some m.ab)) (vi c.now)
    simp only [coH]
    refine Trip.of_body Tryd.func20 rfl Tryd.ntmps20 Tryd.results20 rfl ?_
    refine Wp.seq ?_
    refine Wp.region ?_
    refine WpL.step (Stp.rd (Rdo.assign rfl) rfl ?_)
    refine WpL.step (Stp.rd (Rdo.assign rfl) rfl ?_)
    refine WpL.nil ?_
    refine Thn.n ?_
    refine Wp.seq ?_
    refine Wp.region ?_
    refine WpL.step (Stp.rd (Rdo.move rfl) rfl ?_)
    refine WpL.step (Stp.rd (Rdo.move rfl) rfl ?_)
    refine WpL.step (Stp.call (s1) (by kernel_rfl) rfl (by repeat (first | exact Tk.nil | apply Tk.cons (by repeat (first | exact Pk.here | apply Pk.next)))) rfl ?_)
    rintro _ _ ⟨rfl, rfl⟩
    refine WpL.lst (by simp only [List.cons_append, List.nil_append]; exact rfl) ?_
    refine WpL.step (Stp.rd (Rdo.assign rfl) rfl ?_)
    refine WpL.nil ?_
    refine Thn.n ?_
    refine Wp.seq ?_
    refine Wp.seq ?_
    refine Wp.region ?_
    refine WpL.step (Stp.rd (Rdo.move rfl) rfl ?_)
    refine WpL.step (Stp.rd (Rdo.eqnil rfl rfl) rfl ?_)
    refine WpL.nil ?_
    refine Thn.n ?_
    refine Wp.condF rfl ?_
    refine Wp.skip ?_
    refine Thn.n ?_
    refine Wp.seq ?_
    refine Wp.region ?_
    refine WpL.step (Stp.rd (Rdo.move rfl) rfl ?_)
    refine WpL.step (Stp.rd (Rdo.nilCheck rfl) rfl ?_)
    refine WpL.step (Stp.rd (Rdo.fieldAddr0 rfl) rfl ?_)
    refine WpL.step (Stp.rd (Rdo.load rfl (Lds.next (Lds.next (Lds.next (Lds.one rfl))))) rfl ?_)
    refine WpL.step (Stp.rd (Rdo.assign rfl) rfl ?_)
    refine WpL.step (Stp.rd (Rdo.assign rfl) rfl ?_)
    refine WpL.nil ?_
    refine Thn.n ?_
    refine Wp.ret ?_
    refine Ret.now (by repeat (first | exact ResV.nil | apply ResV.tmp rfl | apply ResV.cell rfl (by repeat (first | exact Lds.one rfl | (apply Lds.all; (first | rfl | assumption | (simp <;> fail))) | exact Lds.ione0 | exact Lds.ione rfl | (apply Lds.iall; (first | rfl | assumption | (simp <;> fail))) | apply Lds.next)))) (Gh.trans (b := cel q 74 (prodC p v) :: pmA v p.opn p.parts :: holeA m.qs c.prods n.toNat :: coH b c m ++ []) (Gh.tk (by repeat (first | exact Tk.nil | apply Tk.cons (by repeat (first | exact Pk.here | apply Pk.next))))) (Gh.trans prodA_shut (coA_put (c' := c) hm hqi (set_same hpi).symm))) ⟨rfl, rfl⟩
  · simp only [if_neg h]
    refine Trip.ghE coA_open ?_
    rintro m hm
    have s1 := producer_none (b := b) (c := c) (m := m) (n := n) (by omega) m.mv (.map (some m.db)) (.map (some m.ab)) (vi c.now)
    simp only [coX, List.cons_append, List.nil_append]
    refine Trip.of_body Tryd.func20 rfl Tryd.ntmps20 Tryd.results20 rfl ?_
    refine Wp.seq ?_
    refine Wp.region ?_
    refine WpL.step (Stp.rd (Rdo.assign rfl) rfl ?_)
    refine WpL.step (Stp.rd (Rdo.assign rfl) rfl ?_)
    refine WpL.nil ?_
    refine Thn.n ?_
    refine Wp.seq ?_
    refine Wp.region ?_
    refine WpL.step (Stp.rd (Rdo.move rfl) rfl ?_)
    refine WpL.step (Stp.rd (Rdo.move rfl) rfl ?_)
    refine WpL.step (Stp.call (s1) (by kernel_rfl) rfl (by repeat (first | exact Tk.nil | apply Tk.cons (by repeat (first | exact Pk.here | apply Pk.next)))) rfl ?_)
    rintro _ _ ⟨rfl, rfl⟩
    refine WpL.lst (by simp only [List.cons_append, List.nil_append]; exact rfl) ?_
    refine WpL.step (Stp.rd (Rdo.assign rfl) rfl ?_)
    refine WpL.nil ?_
    refine Thn.n ?_
    refine Wp.seq ?_
    refine Wp.seq ?_
    refine Wp.region ?_
    refine WpL.step (Stp.rd (Rdo.move rfl) rfl ?_)
    refine WpL.step (Stp.rd (Rdo.eqnil rfl rfl) rfl ?_)
    refine WpL.nil ?_
    refine Thn.n ?_
    refine Wp.condT rfl ?_
    refine Wp.seq ?_
    refine Wp.region ?_
    refine WpL.step (Stp.rd (Rdo.assign rfl) rfl ?_)
    refine WpL.step (Stp.rd (Rdo.assign rfl) rfl ?_)
    refine WpL.nil ?_
    refine Thn.n ?_
    refine Wp.ret ?_
    refine Thn.r ?_
    refine Ret.now (by repeat (first | exact ResV.nil | apply ResV.tmp rfl | apply ResV.cell rfl (by repeat (first | exact Lds.one rfl | (apply Lds.all; (first | rfl | assumption | (simp <;> fail))) | exact Lds.ione0 | exact Lds.ione rfl | (apply Lds.iall; (first | rfl | assumption | (simp <;> fail))) | apply Lds.next)))) (Gh.trans (Gh.tk (by repeat (first | exact Tk.nil | apply Tk.cons (by repeat (first | exact Pk.here | apply Pk.next))))) (coA_shut (l := []) m hm)) ⟨rfl, rfl⟩

/-- Numbers in order. -/
def sortI (xs : List Int) : List Int := xs.mergeSort (fun a b => Decidable.decide (a ≤ b))
theorem sortI_perm (xs : List Int) : (sortI xs).Perm xs := List.mergeSort_perm xs _
theorem sortI_sorted (xs : List Int) : (sortI xs).Pairwise (· ≤ ·) := by
  have h := List.pairwise_mergeSort (le := fun a b : Int => Decidable.decide (a ≤ b)) (fun a b c h1 h2 => by simp at *; omega) (fun a b => by simp; omega) xs
  exact h.imp (fun h => by simpa using h)
def partsOk (xs : List Int) : Prop := xs.Nodup ∧ ∀ x ∈ xs, 0 ≤ x ∧ x ≤ 3
theorem partsOk.len {xs : List Int} (h : partsOk xs) : xs.length ≤ 4 := by
  obtain ⟨rest, hr⟩ := complete_ (l := xs) (m := [0, 1, 2, 3]) h.1 (by decide) (fun y hy => by
    have := h.2 y hy
    have : y = 0 ∨ y = 1 ∨ y = 2 ∨ y = 3 := by omega
    rcases this with rfl | rfl | rfl | rfl <;> simp)
  have := hr.length_eq
  simp at this
  omega
/-- A producer's open transaction. -/
def CoS.open_ (c : CoS) (n : Int) : Int × List Int × Bool :=
  if 0 ≤ n ∧ n < c.prods.length ∧ (c.prods.getD n.toNat prod0).opn = true then ((c.prods.getD n.toNat prod0).last, sortI (c.prods.getD n.toNat prod0).parts, true) else (0, [], false)
theorem open_ok (b : Nat) (c : CoS) (n : Int) (hpa : ∀ p ∈ c.prods, partsOk p.parts) : Trip Tryd.prog 17 [vp b 0, vi n] [coA b c]
    (fun r l => ∃ v, r = .tuple #[vi (c.open_ n).1, v, vb (c.open_ n).2.2] ∧ l = [coA b c, rowA 3 1 v (c.open_ n).2.1.length ((c.open_ n).2.1.map vi)]) := by
  unfold CoS.open_
  by_cases h : 0 ≤ n ∧ n < c.prods.length
  · have hpi := getD_get (ps := c.prods) (i := n.toNat) (by omega)
    have hpk := hpa _ (getD_mem (ps := c.prods) (i := n.toNat) (by omega))
    generalize c.prods.getD n.toNat prod0 = p at *
    refine Trip.ghE (coA_at hpi) ?_
    rintro ⟨m, q, v⟩ ⟨hm, hqi⟩
    simp only at hm hqi
    have s1 := producer_at (b := b) (c := c) h.1 hqi m.mv (.map (some m.db)) (.map (some m.ab)) (vi c.now)
    simp only [coH]
    cases ho : p.opn with
    | false =>
      rw [if_neg (by simp)]
      have e1 : pmA v p.opn p.parts = pmA v false p.parts := by rw [ho]
      refine Trip.of_body Tryd.func17 rfl Tryd.ntmps17 Tryd.results17 rfl ?_
      refine Wp.seq ?_
      refine Wp.region ?_
      refine WpL.step (Stp.rd (Rdo.assign rfl) rfl ?_)
      refine WpL.step (Stp.rd (Rdo.assign rfl) rfl ?_)
      refine WpL.step (Stp.rd (Rdo.assign rfl) rfl ?_)
      refine WpL.nil ?_
      refine Thn.n ?_
      refine Wp.seq ?_
      refine Wp.region ?_
      refine WpL.step (Stp.rd (Rdo.move rfl) rfl ?_)
      refine WpL.step (Stp.rd (Rdo.move rfl) rfl ?_)
      refine WpL.step (Stp.call (s1) (by kernel_rfl) rfl (by repeat (first | exact Tk.nil | apply Tk.cons (by repeat (first | exact Pk.here | apply Pk.next)))) rfl ?_)
      rintro _ _ ⟨rfl, rfl⟩
      refine WpL.lst (by simp only [List.cons_append, List.nil_append]; exact rfl) ?_
      refine WpL.step (Stp.rd (Rdo.assign rfl) rfl ?_)
      refine WpL.nil ?_
      refine Thn.n ?_
      refine Wp.seq ?_
      refine Wp.seq ?_
      refine Wp.region ?_
      refine WpL.step (Stp.rd (Rdo.move rfl) rfl ?_)
      refine WpL.step (Stp.rd (Rdo.eqnil rfl rfl) rfl ?_)
      refine WpL.step (Stp.rd (Rdo.move rfl) rfl ?_)
      refine WpL.want rfl rfl rfl (Stp.rd (Rdo.move rfl) rfl ?_)
      refine WpL.want rfl rfl rfl (Stp.rd (Rdo.nilCheck rfl) rfl ?_)
      refine WpL.want rfl rfl rfl (Stp.rd (Rdo.fieldAddr0 rfl) rfl ?_)
      refine WpL.want rfl rfl rfl (Stp.rd (Rdo.load rfl (Lds.next (Lds.next (Lds.next (Lds.one rfl))))) rfl ?_)
      refine WpL.want rfl rfl rfl (Stp.rd (Rdo.not rfl) rfl ?_)
      refine WpL.step (Stp.rd (Rdo.pick_f rfl rfl) rfl ?_)
      refine WpL.nil ?_
      refine Thn.n ?_
      refine Wp.condK rfl (by first | rfl | assumption | (simp only [decide_eq_true_eq, decide_eq_false_iff_not, Bool.not_eq_true', Bool.not_eq_false', List.length_cons, List.length_nil]; first | assumption | omega) | (simp <;> done) | (simp <;> omega)) ?_
      refine Wp.seq ?_
      refine Wp.region ?_
      refine WpL.step (Stp.rd (Rdo.assign rfl) rfl ?_)
      refine WpL.step (Stp.rd (Rdo.assign rfl) rfl ?_)
      refine WpL.step (Stp.rd (Rdo.assign rfl) rfl ?_)
      refine WpL.nil ?_
      refine Thn.n ?_
      refine Wp.ret ?_
      refine Thn.r ?_
      rw [← e1]
      refine Ret.now (by repeat (first | exact ResV.nil | apply ResV.tmp rfl | apply ResV.cell rfl (by repeat (first | exact Lds.one rfl | (apply Lds.all; (first | rfl | assumption | (simp <;> fail))) | exact Lds.ione0 | exact Lds.ione rfl | (apply Lds.iall; (first | rfl | assumption | (simp <;> fail))) | apply Lds.next)))) (Gh.trans (b := cel q 74 (prodC p v) :: pmA v p.opn p.parts :: holeA m.qs c.prods n.toNat :: coH b c m ++ []) (Gh.tk (by repeat (first | exact Tk.nil | apply Tk.cons (by repeat (first | exact Pk.here | apply Pk.next))))) (Gh.trans prodA_shut (Gh.trans (coA_put (c' := c) hm hqi (set_same hpi).symm) (Gh.trans (Gh.nil 3 1) (Gh.perm (List.Perm.swap _ _ _)))))) ⟨_, rfl, rfl⟩
    | true =>
      rw [if_pos (by simp [h])]
      refine Trip.gh (Gh.perm (List.Perm.swap _ _ _)) (Trip.ghE pmA_open ?_)
      rintro mb rfl
      have s2 := Keysbool.keys_ok mb
      have hak : akeys (p.parts.map fun k => (k, vb true)) = p.parts := by simp [akeys, Function.comp_def]
      have s3 : ∀ c0, Trip Tryd.prog 28 [.func (.func 43) #[] [vp c0 0].toArray] [cel c0 72 [.map (some mb)], mapA i64 mb (p.parts.map fun k => (k, vb true))]
          (fun r l => ∃ v, r = v ∧ l = [rowA 3 1 v (sortI p.parts).length ((sortI p.parts).map vi), cel c0 72 [.map (some mb)], mapA i64 mb (p.parts.map fun k => (k, vb true))]) := by
        intro c0
        have h1 := Keysbool.keysIter c0 mb 72 (p.parts.map fun k => (k, vb true))
        rw [hak] at h1
        have h2 := sorted_ok 43 [vp c0 0] [cel c0 72 [.map (some mb)], mapA i64 mb (p.parts.map fun k => (k, vb true))] (sortI p.parts) (by have := hpk.len; rw [(sortI_perm p.parts).length_eq]; omega) (sortI_sorted p.parts) (by kernel_rfl) (h1.perm (sortI_perm p.parts).symm)
        exact Trip.mono h2 (fun r l hl => ⟨r, rfl, hl⟩)
      refine Trip.of_body Tryd.func17 rfl Tryd.ntmps17 Tryd.results17 rfl ?_
      refine Wp.seq ?_
      refine Wp.region ?_
      refine WpL.step (Stp.rd (Rdo.assign rfl) rfl ?_)
      refine WpL.step (Stp.rd (Rdo.assign rfl) rfl ?_)
      refine WpL.step (Stp.rd (Rdo.assign rfl) rfl ?_)
      refine WpL.nil ?_
      refine Thn.n ?_
      refine Wp.seq ?_
      refine Wp.region ?_
      refine WpL.step (Stp.rd (Rdo.move rfl) rfl ?_)
      refine WpL.step (Stp.rd (Rdo.move rfl) rfl ?_)
      refine WpL.step (Stp.call (s1) (by kernel_rfl) rfl (by repeat (first | exact Tk.nil | apply Tk.cons (by repeat (first | exact Pk.here | apply Pk.next)))) rfl ?_)
      rintro _ _ ⟨rfl, rfl⟩
      refine WpL.lst (by simp only [List.cons_append, List.nil_append]; exact rfl) ?_
      refine WpL.step (Stp.rd (Rdo.assign rfl) rfl ?_)
      refine WpL.nil ?_
      refine Thn.n ?_
      refine Wp.seq ?_
      refine Wp.seq ?_
      refine Wp.region ?_
      refine WpL.step (Stp.rd (Rdo.move rfl) rfl ?_)
      refine WpL.step (Stp.rd (Rdo.eqnil rfl rfl) rfl ?_)
      refine WpL.step (Stp.rd (Rdo.move rfl) rfl ?_)
      refine WpL.want rfl rfl rfl (Stp.rd (Rdo.move rfl) rfl ?_)
      refine WpL.want rfl rfl rfl (Stp.rd (Rdo.nilCheck rfl) rfl ?_)
      refine WpL.want rfl rfl rfl (Stp.rd (Rdo.fieldAddr0 rfl) rfl ?_)
      refine WpL.want rfl rfl rfl (Stp.rd (Rdo.load rfl (Lds.next (Lds.next (Lds.next (Lds.next (Lds.one rfl)))))) rfl ?_)
      refine WpL.want rfl rfl rfl (Stp.rd (Rdo.not rfl) rfl ?_)
      refine WpL.step (Stp.rd (Rdo.pick_f rfl rfl) rfl ?_)
      refine WpL.nil ?_
      refine Thn.n ?_
      refine Wp.condL rfl (by first | rfl | assumption | (simp only [decide_eq_true_eq, decide_eq_false_iff_not, Bool.not_eq_true', Bool.not_eq_false', List.length_cons, List.length_nil]; first | assumption | omega) | (simp <;> done) | (simp <;> omega)) ?_
      refine Wp.skip ?_
      refine Thn.n ?_
      refine Wp.seq ?_
      refine Wp.draw (by kernel_rfl) ?_
      refine WpR.take (i := 0) rfl (by kernel_rfl) (by kernel_rfl) (by kernel_rfl) (Rdo.move rfl) rfl ?_
      refine WpR.take (i := 1) rfl (by kernel_rfl) (by kernel_rfl) (by kernel_rfl) (Rdo.nilCheck rfl) rfl ?_
      refine WpR.take (i := 2) rfl (by kernel_rfl) (by kernel_rfl) (by kernel_rfl) (Rdo.fieldAddr0 rfl) rfl ?_
      refine WpR.take (i := 4) rfl (by kernel_rfl) (by kernel_rfl) (by kernel_rfl) (Rdo.move rfl) rfl ?_
      refine WpR.take (i := 5) rfl (by kernel_rfl) (by kernel_rfl) (by kernel_rfl) (Rdo.nilCheck rfl) rfl ?_
      refine WpR.take (i := 6) rfl (by kernel_rfl) (by kernel_rfl) (by kernel_rfl) (Rdo.fieldAddr0 rfl) rfl ?_
      refine WpR.load (i := 7) [3] rfl (by kernel_rfl) (by kernel_rfl) (by kernel_rfl) (by kernel_rfl) (by kernel_rfl) rfl Tk.rfl_ (Harm.rd rfl (Rdo.load rfl (Lds.next (Lds.next (Lds.next (Lds.next (Lds.one rfl)))))) Harm.nil) (Rdo.load rfl (Lds.next (Lds.next (Lds.next (Lds.next (Lds.one rfl)))))) rfl ?_
      refine WpR.phaseL (m := 0) #[true, true, true, true, true, true, true, true, true, true, true, true, true] 6 _ rfl (by kernel_rfl) (Tk.cons (Pk.next (Pk.next (Pk.next (Pk.next Pk.here)))) Tk.nil) ?_
      refine WpA.take (i := 3) rfl rfl (by kernel_rfl) (by kernel_rfl) (by kernel_rfl) (Rdo.load rfl (Lds.one rfl)) rfl ?_
      refine WpA.one (i := 8) rfl (by kernel_rfl) (Stp.call (s2) (by kernel_rfl) rfl (by repeat (first | exact Tk.nil | apply Tk.cons (by repeat (first | exact Pk.here | apply Pk.next)))) rfl ?_)
      rintro _ _ ⟨v46_0, ⟨rfl, rfl⟩⟩
      refine WpA.lst (by simp only [List.cons_append, List.nil_append]; exact rfl) ?_
      refine WpA.one (i := 9) rfl (by kernel_rfl) (Stp.call (s3 _) (by kernel_rfl) rfl (by repeat (first | exact Tk.nil | apply Tk.cons (by repeat (first | exact Pk.here | apply Pk.next)))) rfl ?_)
      rintro _ _ ⟨v49_0, ⟨rfl, rfl⟩⟩
      refine WpA.lst (by simp only [List.cons_append, List.nil_append]; exact rfl) ?_
      refine WpA.take (i := 10) rfl rfl (by kernel_rfl) (by kernel_rfl) (by kernel_rfl) (Rdo.assign rfl) rfl ?_
      refine WpA.take (i := 11) rfl rfl (by kernel_rfl) (by kernel_rfl) (by kernel_rfl) (Rdo.assign rfl) rfl ?_
      refine WpA.take (i := 12) rfl rfl (by kernel_rfl) (by kernel_rfl) (by kernel_rfl) (Rdo.assign rfl) rfl ?_
      refine WpA.stop (by kernel_rfl) ?_
      refine WpR.lst (by simp only [List.cons_append, List.nil_append]; exact rfl) ?_
      refine WpR.done (by kernel_rfl) ?_
      refine Thn.n ?_
      refine Wp.ret ?_
      rename_i sv
      refine Ret.now (by repeat (first | exact ResV.nil | apply ResV.tmp rfl | apply ResV.cell rfl (by repeat (first | exact Lds.one rfl | (apply Lds.all; (first | rfl | assumption | (simp <;> fail))) | exact Lds.ione0 | exact Lds.ione rfl | (apply Lds.iall; (first | rfl | assumption | (simp <;> fail))) | apply Lds.next)))) (Gh.trans (b := cel q 74 (prodC p (.map (some mb))) :: mapA i64 mb (p.parts.map fun k => (k, vb true)) :: holeA m.qs c.prods n.toNat :: coH b c m ++ [rowA 3 1 sv (sortI p.parts).length ((sortI p.parts).map vi)]) (Gh.tk (by repeat (first | exact Tk.nil | apply Tk.cons (by repeat (first | exact Pk.here | apply Pk.next))))) (Gh.trans (prodA_shutM ho) (coA_put (c' := c) hm hqi (set_same hpi).symm))) ⟨_, rfl, rfl⟩
  · rw [if_neg (fun h2 => h ⟨h2.1, h2.2.1⟩)]
    refine Trip.ghE coA_open ?_
    rintro m hm
    have s1 := producer_none (b := b) (c := c) (m := m) (n := n) (by omega) m.mv (.map (some m.db)) (.map (some m.ab)) (vi c.now)
    simp only [coX, List.cons_append, List.nil_append]
    refine Trip.of_body Tryd.func17 rfl Tryd.ntmps17 Tryd.results17 rfl ?_
    refine Wp.seq ?_
    refine Wp.region ?_
    refine WpL.step (Stp.rd (Rdo.assign rfl) rfl ?_)
    refine WpL.step (Stp.rd (Rdo.assign rfl) rfl ?_)
    refine WpL.step (Stp.rd (Rdo.assign rfl) rfl ?_)
    refine WpL.nil ?_
    refine Thn.n ?_
    refine Wp.seq ?_
    refine Wp.region ?_
    refine WpL.step (Stp.rd (Rdo.move rfl) rfl ?_)
    refine WpL.step (Stp.rd (Rdo.move rfl) rfl ?_)
    refine WpL.step (Stp.call (s1) (by kernel_rfl) rfl (by repeat (first | exact Tk.nil | apply Tk.cons (by repeat (first | exact Pk.here | apply Pk.next)))) rfl ?_)
    rintro _ _ ⟨rfl, rfl⟩
    refine WpL.lst (by simp only [List.cons_append, List.nil_append]; exact rfl) ?_
    refine WpL.step (Stp.rd (Rdo.assign rfl) rfl ?_)
    refine WpL.nil ?_
    refine Thn.n ?_
    refine Wp.seq ?_
    refine Wp.seq ?_
    refine Wp.region ?_
    refine WpL.step (Stp.rd (Rdo.move rfl) rfl ?_)
    refine WpL.step (Stp.rd (Rdo.eqnil rfl rfl) rfl ?_)
    refine WpL.step (Stp.rd (Rdo.move rfl) rfl ?_)
    refine WpL.pass rfl rfl rfl rfl ?_
    refine WpL.pass rfl rfl rfl rfl ?_
    refine WpL.pass rfl rfl rfl rfl ?_
    refine WpL.pass rfl rfl rfl rfl ?_
    refine WpL.pass rfl rfl rfl rfl ?_
    refine WpL.step (Stp.rd (Rdo.pick_t rfl rfl) rfl ?_)
    refine WpL.nil ?_
    refine Thn.n ?_
    refine Wp.condT rfl ?_
    refine Wp.seq ?_
    refine Wp.region ?_
    refine WpL.step (Stp.rd (Rdo.assign rfl) rfl ?_)
    refine WpL.step (Stp.rd (Rdo.assign rfl) rfl ?_)
    refine WpL.step (Stp.rd (Rdo.assign rfl) rfl ?_)
    refine WpL.nil ?_
    refine Thn.n ?_
    refine Wp.ret ?_
    refine Thn.r ?_
    refine Ret.now (by repeat (first | exact ResV.nil | apply ResV.tmp rfl | apply ResV.cell rfl (by repeat (first | exact Lds.one rfl | (apply Lds.all; (first | rfl | assumption | (simp <;> fail))) | exact Lds.ione0 | exact Lds.ione rfl | (apply Lds.iall; (first | rfl | assumption | (simp <;> fail))) | apply Lds.next)))) (Gh.trans (Gh.tk (by repeat (first | exact Tk.nil | apply Tk.cons (by repeat (first | exact Pk.here | apply Pk.next))))) (Gh.trans (coA_shut (l := []) m hm) (Gh.trans (Gh.nil 3 1) (Gh.perm (List.Perm.swap _ _ _))))) ⟨_, rfl, rfl⟩
end Go.Proofs.YtccgdnocldmjeaaDoor
