/- A client's data stay as they should be; numbers of operations; acts that came in. -/
import Derived.Test.YtaacdekfeljpeaaDoorActA
import Derived.Test.YtaacdekfeljpeaaDoorTop
namespace Go.Proofs.YtaacdekfeljpeaaDoor
open Go
set_option maxHeartbeats 4000000
set_option linter.unusedSimpArgs false
set_option linter.unusedVariables false
set_option maxRecDepth 20000

theorem CliOk.new (number : Int) (name : List UInt8) (h : name.length ≤ 60) : CliOk (CliS.new number name) where
  n0 := Int.le_refl 0
  n1 := by show (0 : Int) ≤ _; decide
  l0 := Int.le_refl 0
  l1 := by show (0 : Int) ≤ _; decide
  len := h
  pl := rfl
  pb := fun p hp => by rw [List.eq_of_mem_replicate hp]; exact Int.le_refl 0
  pn := fun p hp => by rw [List.eq_of_mem_replicate hp]; exact ⟨Int.le_refl 0, by show (0 : Int) ≤ _; decide⟩
  pv := fun p hp r hr => by rw [List.eq_of_mem_replicate hp] at hr; cases hr
theorem CliOk.set {c c' : CliS} (h : CliOk c) {i : Nat} {p : PartS} (hc : c'.parts = c.parts.set i p) (hn : c'.name = c.name) (h1 : 0 ≤ c'.next ∧ c'.next ≤ 1048577) (h2 : c.last ≤ c'.last ∧ c'.last ≤ 100)
    (hb : p.begun ≤ c'.last) (hx : 0 ≤ p.next ∧ p.next ≤ 1048577) (hv : ∀ r, p.out = some r → r.value.length ≤ 200) : CliOk c' where
  n0 := h1.1
  n1 := h1.2
  l0 := by have := h.l0; omega
  l1 := h2.2
  len := by rw [hn]; exact h.len
  pl := by rw [hc, List.length_set]; exact h.pl
  pb := fun q hq => by
    rw [hc] at hq
    rcases List.mem_or_eq_of_mem_set hq with hq | rfl
    · have := h.pb q hq; omega
    · exact hb
  pn := fun q hq => by
    rw [hc] at hq
    rcases List.mem_or_eq_of_mem_set hq with hq | rfl
    · exact h.pn q hq
    · exact hx
  pv := fun q hq r hr => by
    rw [hc] at hq
    rcases List.mem_or_eq_of_mem_set hq with hq | rfl
    · exact h.pv q hq r hr
    · exact hv r hr
theorem CliOk.same {c c' : CliS} (h : CliOk c) (hc : c'.parts = c.parts) (hn : c'.name = c.name) (h1 : 0 ≤ c'.next ∧ c'.next ≤ 1048577) (h2 : c'.last = c.last) : CliOk c' where
  n0 := h1.1
  n1 := h1.2
  l0 := by rw [h2]; exact h.l0
  l1 := by rw [h2]; exact h.l1
  len := by rw [hn]; exact h.len
  pl := by rw [hc]; exact h.pl
  pb := by rw [hc, h2]; exact h.pb
  pn := by rw [hc]; exact h.pn
  pv := by rw [hc]; exact h.pv
theorem CliOk.part {c : CliS} (h : CliOk c) (n : Int) : (c.part n).begun ≤ c.last ∧ (0 ≤ (c.part n).next ∧ (c.part n).next ≤ 1048577) ∧ ∀ r, (c.part n).out = some r → r.value.length ≤ 200 := by
  rcases part_mem h n with hm | hm
  · exact ⟨h.pb _ hm, h.pn _ hm, h.pv _ hm⟩
  · rw [hm]; exact ⟨h.l0, ⟨Int.le_refl 0, by show (0 : Int) ≤ _; decide⟩, fun r hr => by cases hr⟩

/-- What an act leaves, and its number. -/
def StepOk (c c' : CliS) (n : Int) : Prop := CliOk c' ∧ ((n = -1 ∧ c'.next = c.next) ∨ (n = c.next ∧ c'.next = c.next + 1))
theorem init_step {c : CliS} (h : CliOk c) : StepOk c (fin_ c.init).1 (fin_ c.init).2 := by
  have h0 := h.n0
  have h1 := h.n1
  unfold fin_ CliS.init
  split
  · split
    · exact ⟨h, .inl ⟨rfl, rfl⟩⟩
    · exact ⟨h.same rfl rfl ⟨by simp only; omega, by simp only; omega⟩ rfl, .inr ⟨rfl, rfl⟩⟩
  · exact ⟨h, .inl ⟨rfl, rfl⟩⟩
theorem told_step {c : CliS} (h : CliOk c) (n : Int) (r : Rep) : StepOk c (c.told n r).1 (-1) := by
  unfold CliS.told
  split
  · exact ⟨h, .inl ⟨rfl, rfl⟩⟩
  · split
    · refine ⟨⟨h.n0, h.n1, Int.le_refl 0, by show (0 : Int) ≤ _; decide, h.len, rfl, fun p hp => ?_, fun p hp => ?_, fun p hp r hr => ?_⟩, .inl ⟨rfl, rfl⟩⟩
      · rw [List.eq_of_mem_replicate hp]; exact Int.le_refl 0
      · rw [List.eq_of_mem_replicate hp]; exact ⟨Int.le_refl 0, by show (0 : Int) ≤ _; decide⟩
      · rw [List.eq_of_mem_replicate hp] at hr; cases hr
    · exact ⟨h, .inl ⟨rfl, rfl⟩⟩
theorem begin_step {c : CliS} (h : CliOk c) (n : Int) : StepOk c (fin_ (c.begin_ n)).1 (fin_ (c.begin_ n)).2 := by
  have h0 := h.n0
  have h1 := h.n1
  have h2 := h.l0
  have h3 := h.l1
  have hp := h.part n
  unfold fin_ CliS.begin_
  split
  · exact ⟨h, .inl ⟨rfl, rfl⟩⟩
  split
  · exact ⟨h, .inl ⟨rfl, rfl⟩⟩
  split
  · exact ⟨h, .inl ⟨rfl, rfl⟩⟩
  split
  · exact ⟨h, .inl ⟨rfl, rfl⟩⟩
  · rename_i hm _
    have hcur : c.last ≤ c.cur ∧ c.cur ≤ 100 := by
      unfold CliS.cur
      cases ho : c.opn
      · rw [ho] at hm
        simp at hm
        simp
        omega
      · simp
        omega
    exact ⟨h.set rfl rfl ⟨by simp only; omega, by simp only; omega⟩ hcur (Int.le_refl _) hp.2.1 hp.2.2, .inr ⟨rfl, rfl⟩⟩
theorem record_step {c : CliS} (h : CliOk c) (n : Int) (v : List UInt8) : StepOk c (c.record n v).1 (-1) := by
  have h0 := h.n0
  have h1 := h.n1
  have h2 := h.l0
  have h3 := h.l1
  have hp := h.part n
  unfold CliS.record
  split
  · exact ⟨h, .inl ⟨rfl, rfl⟩⟩
  split
  · exact ⟨h, .inl ⟨rfl, rfl⟩⟩
  split
  · exact ⟨h, .inl ⟨rfl, rfl⟩⟩
  split
  · exact ⟨h, .inl ⟨rfl, rfl⟩⟩
  split
  · exact ⟨h, .inl ⟨rfl, rfl⟩⟩
  · exact ⟨h.set rfl rfl ⟨h0, h1⟩ ⟨Int.le_refl _, h3⟩ hp.1 ⟨by simp only; omega, by simp only; omega⟩ (fun r hr => by cases hr; simp only; omega), .inl ⟨rfl, rfl⟩⟩
theorem acked_step {c : CliS} (h : CliOk c) (n : Int) : StepOk c (c.acked n).1 (-1) := by
  have h0 := h.n0
  have h1 := h.n1
  have h3 := h.l1
  have hp := h.part n
  unfold CliS.acked
  split
  · exact ⟨h, .inl ⟨rfl, rfl⟩⟩
  split
  · exact ⟨h, .inl ⟨rfl, rfl⟩⟩
  · exact ⟨h.set rfl rfl ⟨h0, h1⟩ ⟨Int.le_refl _, h3⟩ hp.1 hp.2.1 (fun r hr => by cases hr), .inl ⟨rfl, rfl⟩⟩
theorem end_step {c : CliS} (h : CliOk c) (cm : Bool) : StepOk c (fin_ (c.end_ cm)).1 (fin_ (c.end_ cm)).2 := by
  have h0 := h.n0
  have h1 := h.n1
  unfold fin_ CliS.end_
  split
  · exact ⟨h, .inl ⟨rfl, rfl⟩⟩
  split
  · exact ⟨h, .inl ⟨rfl, rfl⟩⟩
  · exact ⟨h.same rfl rfl ⟨by simp only; omega, by simp only; omega⟩ rfl, .inr ⟨rfl, rfl⟩⟩
theorem act_step {c : CliS} (h : CliOk c) (a : Act) : StepOk c (c.act a).1 (c.act a).2 := by
  unfold CliS.act
  repeat' split
  · exact init_step h
  · exact told_step h _ _
  · exact begin_step h _
  · exact record_step h _ _
  · exact acked_step h _
  · exact end_step h _

/-! ### Acts that came in -/
abbrev RAct (g : FH) (cs : List Value) (a : Act) : Prop := ∃ v, cs = actC a v ∧ RdBytes g v a.value ∧ a.value.length ≤ maxLen
theorem opnInt : Opn Tryd.prog 3 1 (fun _ cs (n : Int) => cs = [vi n] ∧ In64 n) := Opn.map id (Opn.int (k := .i64) (by kernel_rfl)) fun g cs a h => ⟨h.1, in64_of h.2⟩
theorem opnErrno : Opn Tryd.prog 22 1 (fun _ cs (n : Int) => cs = [vi n] ∧ In64 n) := Opn.map id (Opn.int (k := .i64) (by kernel_rfl)) fun g cs a h => ⟨h.1, in64_of h.2⟩
theorem opnBool : Opn Tryd.prog 4 1 (fun _ cs (b : Bool) => cs = [vb b]) := Opn.bool (by kernel_rfl)
theorem opnBytes : Opn Tryd.prog 37 1 RBytes := Opn.bytes (e := 5) (by kernel_rfl) (by kernel_rfl) (by kernel_rfl)
theorem opnRep : Opn Tryd.prog 24 3 (fun _ cs (r : Rep) => cs = repC r) := by
  refine Opn.map (fun x => ⟨x.1, x.2.1, x.2.2.1⟩) (Opn.struct (by kernel_rfl) (OpnF.cons (k := 0) opnErrno (OpnF.cons (k := 1) opnInt (OpnF.cons (k := 2) opnInt (OpnF.nil (k := 3) (by kernel_rfl)))))) ?_
  rintro g cs ⟨a1, a2, a3, _⟩ ⟨c1, d1, rfl, _, ⟨rfl, h1⟩, c2, d2, rfl, _, ⟨rfl, h2⟩, c3, d3, rfl, _, ⟨rfl, h3⟩, rfl⟩
  rfl
theorem opnAct : Opn Tryd.prog 53 7 RAct := by
  refine Opn.map (fun x => ⟨x.1, x.2.1, x.2.2.1, x.2.2.2.1, x.2.2.2.2.1⟩) (Opn.struct (by kernel_rfl) (OpnF.cons (k := 0) opnInt (OpnF.cons (k := 1) opnInt (OpnF.cons (k := 2) opnRep (OpnF.cons (k := 3) opnBytes (OpnF.cons (k := 4) opnBool (OpnF.nil (k := 5) (by kernel_rfl)))))))) ?_
  rintro g cs ⟨a1, a2, a3, a4, a5, _⟩ ⟨c1, d1, rfl, _, ⟨rfl, h1⟩, c2, d2, rfl, _, ⟨rfl, h2⟩, c3, d3, rfl, _, rfl, c4, d4, rfl, _, ⟨v, rfl, h4, l4⟩, c5, d5, rfl, _, rfl, rfl⟩
  exact ⟨v, rfl, h4, l4⟩
abbrev RActs (g : FH) (cs : List Value) (acts : List Act) : Prop := ∃ v, cs = [v] ∧ RdSl RAct 7 g v acts ∧ acts.length ≤ maxLen
theorem opnActs : Opn Tryd.prog 46 1 RActs := Opn.slice (e := 53) (by kernel_rfl) (by kernel_rfl) (by omega) opnAct
theorem act_len {cs : List Value} {a : Act} (r : Res) (h : fz (fun g => RAct g cs a) r) : a.value.length ≤ maxLen := by unfold fz at h; exact h.choose_spec.2.2
theorem GhE.act {l : List HP} {cs : List Value} {a : Act} : GhE (fz (fun g => RAct g cs a) :: l) (fun x : Option Addr × Nat => cs = actC a (.slice x.1 a.value.length x.2)) (fun x => fz (fun g => RdBytes g (.slice x.1 a.value.length x.2) a.value) :: l) :=
  GhE.part Pk.here fun g ⟨v, h1, h2, _⟩ => by
    obtain ⟨_, p, c, rfl, h3⟩ := id h2
    exact ⟨(p, c), h1, h2⟩

abbrev actsF (v : Value) (acts : List Act) : HP := fz (fun g => RdSl RAct 7 g v acts)
theorem long_ok (v : Value) (acts : List Act) (hl : acts.length ≤ maxLen) : Trip Tryd.prog 19 [v] [fz (fun g => RdSl RAct 7 g v acts)] (fun r l => ∃ b, r = vb b ∧ l = [fz (fun g => RdSl RAct 7 g v acts)]) := by
  refine Trip.get Pk.here shape_rdsl ?_
  rintro ⟨a1, c1, rfl⟩
  refine Trip.of_body Tryd.func19 rfl Tryd.ntmps19 Tryd.results19 rfl ?_
  refine Wp.seq ?_
  refine Wp.region ?_
  refine WpL.step (Stp.rd (Rdo.assign rfl) rfl ?_)
  refine WpL.nil ?_
  refine Thn.n ?_
  refine Wp.seq ?_
  refine Wp.region ?_
  refine WpL.step (Stp.rd (Rdo.assign rfl) rfl ?_)
  refine WpL.nil ?_
  refine Thn.n ?_
  refine Wp.seq ?_
  refine Wp.seq ?_
  refine Wp.region ?_
  refine WpL.step (Stp.rd (Rdo.assign rfl) rfl ?_)
  refine WpL.nil ?_
  refine Thn.n ?_
  refine Wp.block ?_
  refine Wp.loopE (fun k e h => ∃ (i : Nat) (n : Int), i + k = acts.length ∧ e = [(0, .slice a1 acts.length c1), (2, vb false), (3, vi n), (4, vi i)] ∧ h = [fz (fun g => RdSl RAct 7 g (.slice a1 acts.length c1) acts)]) acts.length
    (e0 := [(0, .slice a1 acts.length c1), (2, vb false), (3, vi 0), (4, vi (0 : Nat))]) (l0 := [fz (fun g => RdSl RAct 7 g (.slice a1 acts.length c1) acts)]) (by repeat (first | exact trivial | refine ⟨rfl, ?_⟩)) (by repeat (first | exact trivial | refine ⟨rfl, ?_⟩)) (Gh.tk (by repeat (first | exact Tk.nil | apply Tk.cons (by repeat (first | exact Pk.here | apply Pk.next))))) ⟨0, 0, by simp, rfl, rfl⟩ ?_
  rintro k e h ⟨i, n, hik, rfl, rfl⟩
  by_cases hi : i < acts.length
  · have hi' : (i : Int) < acts.length := by omega
    by_cases h80 : (i : Int) < 80
    · refine Wp.ghE (GhE.elem (R := RAct) Pk.here i hi) ?_
      rintro ⟨bb, o, cap, cs⟩ ⟨hv, hcs⟩
      simp only [Value.slice.injEq, true_and] at hv
      obtain ⟨rfl, rfl⟩ := hv
      simp only
      refine Wp.gh (Gh.front (Pk.next Pk.here)) (Wp.ghE GhE.act ?_)
      rintro ⟨av, cv⟩ rfl
      obtain ⟨q, hq⟩ : ∃ q : Int, q = IntKind.i64.wrap (IntKind.i64.wrap (n + 1) + (acts[i].value.length : Int)) := ⟨_, rfl⟩
      generalize acts[i] = a at hq
      by_cases hbig : 6000 < IntKind.i64.wrap (IntKind.i64.wrap (n + 1) + (a.value.length : Int))
      · refine Wp.seq ?_
        refine Wp.seq ?_
        refine Wp.region ?_
        refine WpL.step (Stp.rd (Rdo.move rfl) rfl ?_)
        refine WpL.step (Stp.rd (Rdo.move rfl) rfl ?_)
        refine WpL.step (Stp.rd (Rdo.lenSlice rfl) rfl ?_)
        refine WpL.step (Stp.rd (Rdo.lti rfl rfl) rfl ?_)
        refine WpL.step (Stp.rd (Rdo.move rfl) rfl ?_)
        refine WpL.gT rfl rfl (by first | rfl | assumption | (simp only [decide_eq_true_eq, decide_eq_false_iff_not, Bool.not_eq_true', Bool.not_eq_false', List.length_cons, List.length_nil]; first | assumption | omega) | (simp <;> done) | (simp <;> omega)) ?_
        refine WpL.want rfl rfl rfl (Stp.rd (Rdo.move rfl) rfl ?_)
        refine WpL.want rfl rfl rfl (Stp.rd (Rdo.lti rfl rfl) rfl ?_)
        refine WpL.step (Stp.rd (Rdo.pick_t rfl rfl) rfl ?_)
        refine WpL.nil ?_
        refine Thn.n ?_
        refine Wp.condK rfl (by first | rfl | assumption | (simp only [decide_eq_true_eq, decide_eq_false_iff_not, Bool.not_eq_true', Bool.not_eq_false', List.length_cons, List.length_nil]; first | assumption | omega) | (simp <;> done) | (simp <;> omega)) ?_
        refine Wp.skip ?_
        refine Thn.n ?_
        refine Wp.seq ?_
        refine Wp.block ?_
        refine Wp.seq ?_
        refine Wp.region ?_
        refine WpL.step (Stp.rd (Rdo.move rfl) rfl ?_)
        refine WpL.step (Stp.rd (Rdo.add rfl rfl) rfl ?_)
        refine WpL.step (Stp.rd (Rdo.move rfl) rfl ?_)
        refine WpL.step (Stp.rd (Rdo.move rfl) rfl ?_)
        refine WpL.step (Stp.rd (Rdo.indexSlice rfl rfl (by omega)) rfl ?_)
        refine WpL.step (Stp.rd (Rdo.fieldAddr rfl) rfl ?_)
        refine WpL.step (Stp.rd (Rdo.load rfl (Lds.next (Lds.ione rfl))) rfl ?_)
        refine WpL.step (Stp.rd (Rdo.lenSlice rfl) rfl ?_)
        refine WpL.step (Stp.rd (Rdo.add rfl rfl) rfl ?_)
        refine WpL.step (Stp.rd (Rdo.assign rfl) rfl ?_)
        refine WpL.nil ?_
        refine Thn.n ?_
        refine Wp.seq ?_
        refine Wp.region ?_
        refine WpL.step (Stp.rd (Rdo.move rfl) rfl ?_)
        refine WpL.step (Stp.rd (Rdo.gti rfl rfl) rfl ?_)
        refine WpL.nil ?_
        refine Thn.n ?_
        refine Wp.condK rfl (by first | rfl | assumption | (simp only [decide_eq_true_eq, decide_eq_false_iff_not, Bool.not_eq_true', Bool.not_eq_false', List.length_cons, List.length_nil]; first | assumption | omega) | (simp <;> done) | (simp <;> omega)) ?_
        refine Wp.seq ?_
        refine Wp.region ?_
        refine WpL.step (Stp.rd (Rdo.assign rfl) rfl ?_)
        refine WpL.nil ?_
        refine Thn.n ?_
        refine Wp.ret ?_
        refine Blk.r ?_
        refine Thn.r ?_
        refine Thn.r ?_
        refine Blk.r ?_
        refine Thn.r ?_
        refine Ret.now (ResV.tmp rfl ResV.nil) (Gh.tk (by repeat (first | exact Tk.nil | apply Tk.cons (by repeat (first | exact Pk.here | apply Pk.next))))) ⟨_, ⟨rfl, rfl⟩⟩
      · refine Wp.seq ?_
        refine Wp.seq ?_
        refine Wp.region ?_
        refine WpL.step (Stp.rd (Rdo.move rfl) rfl ?_)
        refine WpL.step (Stp.rd (Rdo.move rfl) rfl ?_)
        refine WpL.step (Stp.rd (Rdo.lenSlice rfl) rfl ?_)
        refine WpL.step (Stp.rd (Rdo.lti rfl rfl) rfl ?_)
        refine WpL.step (Stp.rd (Rdo.move rfl) rfl ?_)
        refine WpL.gT rfl rfl (by first | rfl | assumption | (simp only [decide_eq_true_eq, decide_eq_false_iff_not, Bool.not_eq_true', Bool.not_eq_false', List.length_cons, List.length_nil]; first | assumption | omega) | (simp <;> done) | (simp <;> omega)) ?_
        refine WpL.want rfl rfl rfl (Stp.rd (Rdo.move rfl) rfl ?_)
        refine WpL.want rfl rfl rfl (Stp.rd (Rdo.lti rfl rfl) rfl ?_)
        refine WpL.step (Stp.rd (Rdo.pick_t rfl rfl) rfl ?_)
        refine WpL.nil ?_
        refine Thn.n ?_
        refine Wp.condK rfl (by first | rfl | assumption | (simp only [decide_eq_true_eq, decide_eq_false_iff_not, Bool.not_eq_true', Bool.not_eq_false', List.length_cons, List.length_nil]; first | assumption | omega) | (simp <;> done) | (simp <;> omega)) ?_
        refine Wp.skip ?_
        refine Thn.n ?_
        refine Wp.seq ?_
        refine Wp.block ?_
        refine Wp.seq ?_
        refine Wp.region ?_
        refine WpL.step (Stp.rd (Rdo.move rfl) rfl ?_)
        refine WpL.step (Stp.rd (Rdo.add rfl rfl) rfl ?_)
        refine WpL.step (Stp.rd (Rdo.move rfl) rfl ?_)
        refine WpL.step (Stp.rd (Rdo.move rfl) rfl ?_)
        refine WpL.step (Stp.rd (Rdo.indexSlice rfl rfl (by omega)) rfl ?_)
        refine WpL.step (Stp.rd (Rdo.fieldAddr rfl) rfl ?_)
        refine WpL.step (Stp.rd (Rdo.load rfl (Lds.next (Lds.ione rfl))) rfl ?_)
        refine WpL.step (Stp.rd (Rdo.lenSlice rfl) rfl ?_)
        refine WpL.step (Stp.rd (Rdo.add rfl rfl) rfl ?_)
        refine WpL.step (Stp.rd (Rdo.assign rfl) rfl ?_)
        refine WpL.nil ?_
        refine Thn.n ?_
        refine Wp.seq ?_
        refine Wp.region ?_
        refine WpL.step (Stp.rd (Rdo.move rfl) rfl ?_)
        refine WpL.step (Stp.rd (Rdo.gti rfl rfl) rfl ?_)
        refine WpL.nil ?_
        refine Thn.n ?_
        refine Wp.condL rfl (by first | rfl | assumption | (simp only [decide_eq_true_eq, decide_eq_false_iff_not, Bool.not_eq_true', Bool.not_eq_false', List.length_cons, List.length_nil]; first | assumption | omega) | (simp <;> done) | (simp <;> omega)) ?_
        refine Wp.skip ?_
        refine Blk.n ?_
        refine Thn.n ?_
        refine Wp.region ?_
        refine WpL.step (Stp.rd (Rdo.move rfl) rfl ?_)
        refine WpL.step (Stp.rd (Rdo.succ rfl rfl (by omega)) rfl ?_)
        refine WpL.step (Stp.rd (Rdo.assign rfl) rfl ?_)
        refine WpL.nil ?_
        refine Thn.n ?_
        exact ⟨k - 1, _, _, by omega, ⟨i + 1, _, by omega, rfl, rfl⟩, (by repeat (first | exact trivial | refine ⟨rfl, ?_⟩)), Gh.tk (by repeat (first | exact Tk.nil | apply Tk.cons (by repeat (first | exact Pk.here | apply Pk.next))))⟩
    · refine Wp.seq ?_
      refine Wp.seq ?_
      refine Wp.region ?_
      refine WpL.step (Stp.rd (Rdo.move rfl) rfl ?_)
      refine WpL.step (Stp.rd (Rdo.move rfl) rfl ?_)
      refine WpL.step (Stp.rd (Rdo.lenSlice rfl) rfl ?_)
      refine WpL.step (Stp.rd (Rdo.lti rfl rfl) rfl ?_)
      refine WpL.step (Stp.rd (Rdo.move rfl) rfl ?_)
      refine WpL.gT rfl rfl (by first | rfl | assumption | (simp only [decide_eq_true_eq, decide_eq_false_iff_not, Bool.not_eq_true', Bool.not_eq_false', List.length_cons, List.length_nil]; first | assumption | omega) | (simp <;> done) | (simp <;> omega)) ?_
      refine WpL.want rfl rfl rfl (Stp.rd (Rdo.move rfl) rfl ?_)
      refine WpL.want rfl rfl rfl (Stp.rd (Rdo.lti rfl rfl) rfl ?_)
      refine WpL.step (Stp.rd (Rdo.pick_t rfl rfl) rfl ?_)
      refine WpL.nil ?_
      refine Thn.n ?_
      refine Wp.condL rfl (by first | rfl | assumption | (simp only [decide_eq_true_eq, decide_eq_false_iff_not, Bool.not_eq_true', Bool.not_eq_false', List.length_cons, List.length_nil]; first | assumption | omega) | (simp <;> done) | (simp <;> omega)) ?_
      refine Wp.exit ?_
      refine Thn.x ?_
      refine Thn.x ?_
      refine Blk.here ?_
      refine Thn.n ?_
      refine Wp.seq ?_
      refine Wp.region ?_
      refine WpL.step (Stp.rd (Rdo.assign rfl) rfl ?_)
      refine WpL.nil ?_
      refine Thn.n ?_
      refine Wp.ret ?_
      refine Ret.now (ResV.tmp rfl ResV.nil) (Gh.tk (by repeat (first | exact Tk.nil | apply Tk.cons (by repeat (first | exact Pk.here | apply Pk.next))))) ⟨_, ⟨rfl, rfl⟩⟩
  · refine Wp.seq ?_
    refine Wp.seq ?_
    refine Wp.region ?_
    refine WpL.step (Stp.rd (Rdo.move rfl) rfl ?_)
    refine WpL.step (Stp.rd (Rdo.move rfl) rfl ?_)
    refine WpL.step (Stp.rd (Rdo.lenSlice rfl) rfl ?_)
    refine WpL.step (Stp.rd (Rdo.lti rfl rfl) rfl ?_)
    refine WpL.step (Stp.rd (Rdo.move rfl) rfl ?_)
    refine WpL.gF rfl rfl (by first | rfl | assumption | (simp only [decide_eq_true_eq, decide_eq_false_iff_not, Bool.not_eq_true', Bool.not_eq_false', List.length_cons, List.length_nil]; first | assumption | omega) | (simp <;> done) | (simp <;> omega)) ?_
    refine WpL.pass rfl rfl rfl rfl ?_
    refine WpL.pass rfl rfl rfl rfl ?_
    refine WpL.step (Stp.rd (Rdo.pick_f rfl rfl) rfl ?_)
    refine WpL.nil ?_
    refine Thn.n ?_
    refine Wp.condF rfl ?_
    refine Wp.exit ?_
    refine Thn.x ?_
    refine Thn.x ?_
    refine Blk.here ?_
    refine Thn.n ?_
    refine Wp.seq ?_
    refine Wp.region ?_
    refine WpL.step (Stp.rd (Rdo.assign rfl) rfl ?_)
    refine WpL.nil ?_
    refine Thn.n ?_
    refine Wp.ret ?_
    refine Ret.now (ResV.tmp rfl ResV.nil) (Gh.tk (by repeat (first | exact Tk.nil | apply Tk.cons (by repeat (first | exact Pk.here | apply Pk.next))))) ⟨_, ⟨rfl, rfl⟩⟩
end Go.Proofs.YtaacdekfeljpeaaDoor
