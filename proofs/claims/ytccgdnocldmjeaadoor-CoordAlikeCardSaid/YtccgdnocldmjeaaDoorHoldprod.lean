/- A table: its operations, and how it is gone over. -/
import Derived.Test.YtccgdnocldmjeaaDoorSrt2
namespace Go.Proofs.YtccgdnocldmjeaaDoor
open Go
set_option maxHeartbeats 4000000
set_option linter.unusedSimpArgs false
set_option linter.unusedVariables false
set_option maxRecDepth 20000
namespace Tabprod

abbrev tabA (b mb : Nat) (es : List (Int × Value)) : List HP := [cel b 83 [.map (some mb)], mapA i64 mb es]

theorem new_ok : Trip Tryd.prog 23 [] [] (fun r l => ∃ b mb, r = vp b 0 ∧ l = tabA b mb []) := by
  refine Trip.of_body Tryd.func23 rfl Tryd.ntmps23 Tryd.results23 rfl ?_
  refine Wp.seq ?_
  refine Wp.region ?_
  refine WpL.step (Stp.rd (Rdo.assign rfl) rfl ?_)
  refine WpL.nil ?_
  refine Thn.n ?_
  refine Wp.seq ?_
  refine Wp.region ?_
  (refine WpL.step (Stp.makeMap0 i64 rfl ?_); intro nb7)
  refine WpL.step (Stp.rd (Rdo.bld rfl (BldL.cons rfl (VC.m _) (by first | rfl | assumption | (simp <;> done)) (by repeat (first | exact LPut.nil _ | apply LPut.here | apply LPut.next)) (BldL.nil _))) rfl ?_)
  (refine WpL.step (Stp.boxV rfl (VC.ag _) rfl ?_); intro nb9)
  refine WpL.step (Stp.rd (Rdo.assign rfl) rfl ?_)
  refine WpL.nil ?_
  refine Thn.n ?_
  refine Wp.ret ?_
  refine Ret.now (ResV.tmp rfl ResV.nil) (Gh.tk (by repeat (first | exact Tk.nil | apply Tk.cons (by repeat (first | exact Pk.here | apply Pk.next))))) ⟨_, ⟨_, ⟨rfl, rfl⟩⟩⟩
theorem set_ok (b mb : Nat) (es : List (Int × Value)) (k : Int) (v : Value) : Trip Tryd.prog 54 [vp b 0, vi k, v] (tabA b mb es) (fun r l => r = .tuple #[] ∧ l = tabA b mb (aset es k v)) := by
  refine Trip.of_body Tryd.func54 rfl Tryd.ntmps54 Tryd.results54 rfl ?_
  refine Wp.seq ?_
  refine Wp.region ?_
  refine WpL.step (Stp.rd (Rdo.move rfl) rfl ?_)
  refine WpL.step (Stp.rd (Rdo.nenil rfl rfl) rfl ?_)
  refine WpL.nil ?_
  refine Thn.n ?_
  refine Wp.condT rfl ?_
  refine Wp.region ?_
  refine WpL.step (Stp.rd (Rdo.move rfl) rfl ?_)
  refine WpL.step (Stp.rd (Rdo.nilCheck rfl) rfl ?_)
  refine WpL.step (Stp.rd (Rdo.fieldAddr0 rfl) rfl ?_)
  refine WpL.step (Stp.rd (Rdo.load rfl (Lds.one rfl)) rfl ?_)
  refine WpL.step (Stp.rd (Rdo.move rfl) rfl ?_)
  refine WpL.step (Stp.rd (Rdo.move rfl) rfl ?_)
  refine WpL.step (Stp.mapUpdate rfl rfl rfl (by repeat (first | exact Pk.here | apply Pk.next)) ?_)
  refine WpL.nil ?_
  refine Ret.end_ ResV.nil (Gh.tk (by repeat (first | exact Tk.nil | apply Tk.cons (by repeat (first | exact Pk.here | apply Pk.next))))) ⟨rfl, rfl⟩
theorem get_ok (b mb : Nat) (es : List (Int × Value)) (k : Int) : Trip Tryd.prog 38 [vp b 0, vi k] (tabA b mb es)
    (fun r l => r = .tuple #[mapVal es k (.pointer none), vb (alook es k).isSome] ∧ l = tabA b mb es) := by
  refine Trip.of_body Tryd.func38 rfl Tryd.ntmps38 Tryd.results38 rfl ?_
  refine Wp.seq ?_
  refine Wp.region ?_
  refine WpL.step (Stp.rd (Rdo.assign rfl) rfl ?_)
  refine WpL.step (Stp.rd (Rdo.assign rfl) rfl ?_)
  refine WpL.nil ?_
  refine Thn.n ?_
  refine Wp.seq ?_
  refine Wp.seq ?_
  refine Wp.region ?_
  refine WpL.step (Stp.rd (Rdo.move rfl) rfl ?_)
  refine WpL.step (Stp.rd (Rdo.eqnil rfl rfl) rfl ?_)
  refine WpL.nil ?_
  refine Thn.n ?_
  refine Wp.condF rfl ?_
  refine Wp.skip ?_
  refine Thn.n ?_
  refine Wp.seq ?_
  refine Wp.region ?_
  refine WpL.step (Stp.rd (Rdo.move rfl) rfl ?_)
  refine WpL.step (Stp.rd (Rdo.nilCheck rfl) rfl ?_)
  refine WpL.step (Stp.rd (Rdo.fieldAddr0 rfl) rfl ?_)
  refine WpL.step (Stp.rd (Rdo.load rfl (Lds.one rfl)) rfl ?_)
  refine WpL.step (Stp.rd (Rdo.move rfl) rfl ?_)
  refine WpL.step (Stp.rd (Rdo.lookup2 rfl rfl (Mps.next Mps.here)) rfl ?_)
  refine WpL.step (Stp.rd (Rdo.move rfl) rfl ?_)
  refine WpL.step (Stp.rd (Rdo.extract rfl rfl) rfl ?_)
  refine WpL.step (Stp.rd (Rdo.extract rfl rfl) rfl ?_)
  refine WpL.step (Stp.rd (Rdo.assign rfl) rfl ?_)
  refine WpL.step (Stp.rd (Rdo.assign rfl) rfl ?_)
  refine WpL.nil ?_
  refine Thn.n ?_
  refine Wp.seq ?_
  refine Wp.region ?_
  refine WpL.step (Stp.rd (Rdo.move rfl) rfl ?_)
  refine WpL.step (Stp.rd (Rdo.move rfl) rfl ?_)
  refine WpL.step (Stp.rd (Rdo.assign rfl) rfl ?_)
  refine WpL.step (Stp.rd (Rdo.assign rfl) rfl ?_)
  refine WpL.nil ?_
  refine Thn.n ?_
  refine Wp.ret ?_
  refine Ret.now (ResV.tmp rfl (ResV.tmp rfl ResV.nil)) (Gh.tk (by repeat (first | exact Tk.nil | apply Tk.cons (by repeat (first | exact Pk.here | apply Pk.next))))) ⟨rfl, rfl⟩

theorem cloneF : ExtF Tryd.prog 105 Extern.MapsClone.clone := ExtF.mk Tryd.func105 (by kernel_rfl) (by kernel_rfl) (by kernel_rfl) (by kernel_rfl)

theorem clone_ok (mb : Nat) (es : List (Int × Value)) : Trip Tryd.prog 94 [.map (some mb)] [mapA i64 mb es] (fun r l => ∃ m', r = .map (some m') ∧ l = [mapA i64 mb es, mapA i64 m' es]) := by
  refine Trip.of_body Tryd.func94 rfl Tryd.ntmps94 Tryd.results94 rfl ?_
  refine Wp.seq ?_
  refine Wp.region ?_
  refine WpL.step (Stp.rd (Rdo.assign rfl) rfl ?_)
  refine WpL.nil ?_
  refine Thn.n ?_
  refine Wp.seq ?_
  refine Wp.seq ?_
  refine Wp.region ?_
  refine WpL.step (Stp.rd (Rdo.move rfl) rfl ?_)
  refine WpL.step (Stp.rd (Rdo.eqmapnil rfl rfl) rfl ?_)
  refine WpL.nil ?_
  refine Thn.n ?_
  refine Wp.condF rfl ?_
  refine Wp.skip ?_
  refine Thn.n ?_
  refine Wp.seq ?_
  refine Wp.region ?_
  refine WpL.step (Stp.rd (Rdo.move rfl) rfl ?_)
  refine WpL.step (Stp.rd (Rdo.mkIface rfl) rfl ?_)
  refine WpL.step (Stp.mapsClone cloneF rfl Pk.here rfl ?_)
  intro m'
  refine WpL.step (Stp.rd (Rdo.assertMap rfl) rfl ?_)
  refine WpL.step (Stp.rd (Rdo.assign rfl) rfl ?_)
  refine WpL.nil ?_
  refine Thn.n ?_
  refine Wp.ret ?_
  refine Ret.now (ResV.tmp rfl ResV.nil) (Gh.tk (by repeat (first | exact Tk.nil | apply Tk.cons (by repeat (first | exact Pk.here | apply Pk.next))))) ⟨_, ⟨rfl, rfl⟩⟩

theorem keys_ok (mb : Nat) : Trip Tryd.prog 95 [.map (some mb)] [] (fun r l => ∃ c, r = .func (.func 106) #[] [vp c 0].toArray ∧ l = [cel c 81 [.map (some mb)]]) := by
  refine Trip.of_body Tryd.func95 rfl Tryd.ntmps95 Tryd.results95 rfl ?_
  refine Wp.seq ?_
  refine Wp.region ?_
  (refine WpL.step (Stp.boxV rfl (VC.m _) rfl ?_); intro nb2)
  refine WpL.step (Stp.rd (Rdo.assign rfl) rfl ?_)
  refine WpL.nil ?_
  refine Thn.n ?_
  refine Wp.seq ?_
  refine Wp.region ?_
  refine WpL.step (Stp.rd (Rdo.makeFunc rfl) rfl ?_)
  refine WpL.step (Stp.rd (Rdo.assign rfl) rfl ?_)
  refine WpL.nil ?_
  refine Thn.n ?_
  refine Wp.ret ?_
  refine Ret.now (ResV.tmp rfl ResV.nil) (Gh.tk (by repeat (first | exact Tk.nil | apply Tk.cons (by repeat (first | exact Pk.here | apply Pk.next))))) ⟨_, ⟨rfl, rfl⟩⟩

/-- The iterator over a map's keys: in whatever order. -/
theorem keysIter (c mb : Nat) (tc : TypeId) (es : List (Int × Value)) : IterOK Tryd.prog 106 [vp c 0] (fun k : Int => [vi k]) [] [cel c tc [.map (some mb)], mapA i64 mb es] (fun xs => xs.Perm (akeys es)) := by
  intro Y J Jx hY l0 h0 _
  refine Trip.gh (l' := [cel c tc [.map (some mb)], mapA i64 mb es] ++ l0) (Gh.perm List.perm_append_comm) ?_
  refine Trip.get (Pk.next Pk.here) mapA_nodup ?_
  intro hnd
  refine Trip.of_body Tryd.func106 rfl Tryd.ntmps106 Tryd.results106 rfl ?_
  refine Wp.seq ?_
  refine Wp.region ?_
  refine WpL.step (Stp.rd (Rdo.load rfl (Lds.one rfl)) rfl ?_)
  refine WpL.step (Stp.rangeMap rfl (Pk.next Pk.here) rfl ?_)
  intro it
  refine WpL.nil ?_
  refine Thn.n ?_
  refine Wp.block ?_
  refine Wp.loopE (fun k e h => ∃ (done : List Int) (l1 : List HP), done.length + k = es.length ∧ done.Nodup ∧ (∀ x ∈ done, x ∈ akeys es) ∧ J done l1 ∧ e = [(0, Y), (5, vp it 0)] ∧ h = mapItA i64 mb it es done :: cel c tc [.map (some mb)] :: l1) es.length
    (e0 := [(0, Y), (5, vp it 0)]) (l0 := mapItA i64 mb it es [] :: cel c tc [.map (some mb)] :: l0) (by repeat (first | exact trivial | refine ⟨rfl, ?_⟩)) (by repeat (first | exact trivial | refine ⟨rfl, ?_⟩)) Gh.rfl_ ⟨[], l0, by simp, List.nodup_nil, by simp, h0, rfl, rfl⟩ ?_
  rintro k e h ⟨done, l1, hk, hdn, hsub, hJ, rfl, rfl⟩
  refine Wp.seq ?_
  refine Wp.region ?_
  refine WpL.step (Stp.nextMap rfl Pk.here rfl ?_ ?_)
  · intro hall
    have hp : done.Perm (akeys es) := (List.perm_ext_iff_of_nodup hdn hnd).2 fun a => ⟨hsub a, hall a⟩
    refine WpL.step (Stp.rd (Rdo.extract rfl rfl) rfl ?_)
    refine WpL.nil ?_
    refine Thn.n ?_
    refine Wp.seq ?_
    refine Wp.condF rfl ?_
    refine Wp.exit ?_
    refine Thn.x ?_
    refine Thn.x ?_
    refine Blk.here ?_
    refine Ret.end_ ResV.nil (l' := l1 ++ [cel c tc [.map (some mb)], mapA i64 mb es]) ?_ (.inl ⟨done, l1, hp, hJ, rfl⟩)
    refine Gh.trans (Gh.it_done Pk.here) (Gh.perm ?_)
    exact (List.perm_append_comm (l₁ := [mapA i64 mb es, cel c tc [.map (some mb)]]) (l₂ := l1)).trans (List.Perm.append_left l1 (List.Perm.swap _ _ _))
  · intro x u hx hn
    refine WpL.step (Stp.rd (Rdo.extract rfl rfl) rfl ?_)
    refine WpL.nil ?_
    refine Thn.n ?_
    refine Wp.seq ?_
    refine Wp.condT rfl ?_
    refine Wp.skip ?_
    refine Thn.n ?_
    refine Wp.block ?_
    refine Wp.seq ?_
    refine Wp.region ?_
    refine WpL.step (Stp.rd (Rdo.entryMap rfl (by assumption)) rfl ?_)
    refine WpL.step (Stp.rd (Rdo.extract rfl rfl) rfl ?_)
    refine WpL.step (Stp.rd (Rdo.assign rfl) rfl ?_)
    refine WpL.nil ?_
    refine Thn.n ?_
    refine Wp.seq ?_
    refine Wp.region ?_
    refine WpL.step (Stp.rd (Rdo.move rfl) rfl ?_)
    refine WpL.step (Stp.rd (Rdo.move rfl) rfl ?_)
    have hxk : x ∈ akeys es := List.mem_map.2 ⟨_, hx, rfl⟩
    have hnd2 : (done ++ [x]).Nodup := by
      rw [List.nodup_append]
      exact ⟨hdn, by simp, fun a ha b hb e => hn (by simp only [List.mem_singleton] at hb; rw [← hb, ← e]; exact ha)⟩
    have hsub2 : ∀ y ∈ done ++ [x], y ∈ akeys es := by
      intro y hy
      rcases List.mem_append.1 hy with hy | hy
      · exact hsub y hy
      · simp only [List.mem_singleton] at hy; rw [hy]; exact hxk
    obtain ⟨rest, hrest⟩ : ∃ rest, (done ++ x :: rest).Perm (akeys es) := by
      obtain ⟨rest, hr⟩ := complete_ hnd2 hnd hsub2
      exact ⟨rest, by rw [show done ++ x :: rest = (done ++ [x]) ++ rest by simp]; exact hr⟩
    refine WpL.step (Stp.callV rfl rfl (hY done x rest l1 hrest hJ) (Tk.tail (A := [_, _])) rfl ?_)
    rintro r l2 (⟨rfl, hJ2⟩ | ⟨rfl, hJ2⟩)
    · refine WpL.gh (Gh.perm List.perm_append_comm) ?_
      refine WpL.lst (by simp only [List.cons_append, List.nil_append]; exact rfl) ?_
      refine WpL.step (Stp.rd (Rdo.not rfl) rfl ?_)
      refine WpL.nil ?_
      refine Thn.n ?_
      refine Wp.condF rfl ?_
      refine Wp.skip ?_
      refine Blk.n ?_
      refine Thn.n ?_
      have hlt : done.length < es.length := by
        have := hrest.length_eq
        simp [akeys] at this
        omega
      refine ⟨k - 1, _, _, by omega, ⟨done ++ [x], l2, by simp; omega, hnd2, hsub2, hJ2, rfl, rfl⟩, (by repeat (first | exact trivial | refine ⟨rfl, ?_⟩)), Gh.rfl_⟩
    · refine WpL.gh (Gh.perm List.perm_append_comm) ?_
      refine WpL.lst (by simp only [List.cons_append, List.nil_append]; exact rfl) ?_
      refine WpL.step (Stp.rd (Rdo.not rfl) rfl ?_)
      refine WpL.nil ?_
      refine Thn.n ?_
      refine Wp.condT rfl ?_
      refine Wp.ret ?_
      refine Blk.r ?_
      refine Thn.r ?_
      refine Blk.r ?_
      refine Ret.now ResV.nil (l' := l2 ++ [cel c tc [.map (some mb)], mapA i64 mb es]) ?_ (.inr ⟨_, l2, hJ2, rfl⟩)
      refine Gh.trans (Gh.it_done Pk.here) (Gh.perm ?_)
      exact (List.perm_append_comm (l₁ := [mapA i64 mb es, cel c tc [.map (some mb)]]) (l₂ := l2)).trans (List.Perm.append_left l2 (List.Perm.swap _ _ _))

theorem ranged_ok (b : Nat) (m : Value) (hm : m.oneCell' = true) : Trip Tryd.prog 75 [vp b 0, m] [] (fun r l => ∃ c1 c2, r = .func (.func 93) #[] [vp c1 0, vp c2 0].toArray ∧ l = [cel c2 95 [m], cel c1 58 [vp b 0]]) := by
  refine Trip.of_body Tryd.func75 rfl Tryd.ntmps75 Tryd.results75 rfl ?_
  refine Wp.seq ?_
  refine Wp.region ?_
  (refine WpL.step (Stp.boxV rfl (VC.p _) rfl ?_); intro nb2)
  (refine WpL.step (Stp.boxV rfl (VC.one (by first | assumption | rfl)) rfl ?_); intro nb3)
  refine WpL.step (Stp.rd (Rdo.assign rfl) rfl ?_)
  refine WpL.nil ?_
  refine Thn.n ?_
  refine Wp.seq ?_
  refine Wp.region ?_
  refine WpL.step (Stp.rd (Rdo.makeFunc rfl) rfl ?_)
  refine WpL.step (Stp.rd (Rdo.assign rfl) rfl ?_)
  refine WpL.nil ?_
  refine Thn.n ?_
  refine Wp.ret ?_
  refine Ret.now (ResV.tmp rfl ResV.nil) (Gh.tk (by repeat (first | exact Tk.nil | apply Tk.cons (by repeat (first | exact Pk.here | apply Pk.next))))) ⟨_, ⟨_, ⟨rfl, rfl⟩⟩⟩

theorem all_ok (b : Nat) : Trip Tryd.prog 57 [vp b 0] [] (fun r l => ∃ c1 c2, r = .func (.func 93) #[] [vp c1 0, vp c2 0].toArray ∧ l = [cel c2 95 [.func (.func 76) #[] #[]], cel c1 58 [vp b 0]]) := by
  refine Trip.of_body Tryd.func57 rfl Tryd.ntmps57 Tryd.results57 rfl ?_
  refine Wp.seq ?_
  refine Wp.region ?_
  refine WpL.step (Stp.rd (Rdo.assign rfl) rfl ?_)
  refine WpL.nil ?_
  refine Thn.n ?_
  refine Wp.seq ?_
  refine Wp.region ?_
  refine WpL.step (Stp.rd (Rdo.move rfl) rfl ?_)
  refine WpL.step (Stp.call (Tabprod.ranged_ok _ _ (by first | rfl | assumption | omega | (simp <;> done) | (simp <;> omega) | (simp [IntKind.bits]; omega) | simp_all)) (by kernel_rfl) rfl (by repeat (first | exact Tk.nil | apply Tk.cons (by repeat (first | exact Pk.here | apply Pk.next)))) rfl ?_)
  rintro _ _ ⟨v9_0, ⟨v9_1, ⟨rfl, rfl⟩⟩⟩
  refine WpL.lst (by simp only [List.cons_append, List.nil_append]; exact rfl) ?_
  refine WpL.step (Stp.rd (Rdo.assign rfl) rfl ?_)
  refine WpL.nil ?_
  refine Thn.n ?_
  refine Wp.ret ?_
  refine Ret.now (ResV.tmp rfl ResV.nil) (Gh.tk (by repeat (first | exact Tk.nil | apply Tk.cons (by repeat (first | exact Pk.here | apply Pk.next))))) ⟨_, ⟨_, ⟨rfl, rfl⟩⟩⟩

theorem all1_ok (k : Int) : Trip Tryd.prog 76 [vi k] [] (fun r l => r = vb true ∧ l = []) := by
  refine Trip.of_body Tryd.func76 rfl Tryd.ntmps76 Tryd.results76 rfl ?_
  refine Wp.seq ?_
  refine Wp.region ?_
  refine WpL.step (Stp.rd (Rdo.assign rfl) rfl ?_)
  refine WpL.nil ?_
  refine Thn.n ?_
  refine Wp.seq ?_
  refine Wp.region ?_
  refine WpL.step (Stp.rd (Rdo.assign rfl) rfl ?_)
  refine WpL.nil ?_
  refine Thn.n ?_
  refine Wp.ret ?_
  refine Ret.now (ResV.tmp rfl ResV.nil) (Gh.tk (by repeat (first | exact Tk.nil | apply Tk.cons (by repeat (first | exact Pk.here | apply Pk.next))))) ⟨rfl, rfl⟩

theorem look_mem {es ss : List (Int × Value)} (hp : ss.Perm es) (hn : (akeys es).Nodup) {k : Int} {v : Value} (h : (k, v) ∈ ss) : alook es k = some v := alook_of_mem hn (hp.mem_iff.1 h)

/-- A table is gone over by rising keys, as it was when one began. -/
theorem allIter (c1 c2 b mb : Nat) (t1 t2 : TypeId) (es ss : List (Int × Value)) (hp : ss.Perm es) (hs : (akeys ss).Pairwise (· ≤ ·)) (hl : es.length ≤ 12) :
    IterOK Tryd.prog 93 [vp c1 0, vp c2 0] (fun x : Int × Value => [vi x.1, x.2]) (tabA b mb es)
      [cel c2 t2 [.func (.func 76) #[] #[]], cel c1 t1 [vp b 0]] (fun xs => xs = ss) := by
  intro Y J Jx hY l0 h0 hsee
  have hsl : ss.length = es.length := hp.length_eq
  obtain ⟨K, hb1, hb2⟩ := hsee
  refine Trip.gh (l' := [cel c2 t2 [.func (.func 76) #[] #[]], cel c1 t1 [vp b 0]] ++ l0) (Gh.perm List.perm_append_comm) ?_
  refine Trip.gh (l' := cel c2 t2 [.func (.func 76) #[] #[]] :: cel c1 t1 [vp b 0] :: cel b 83 [.map (some mb)] :: mapA i64 mb es :: K) (Gh.frame [_, _] hb1) ?_
  refine Trip.get (Pk.next (Pk.next (Pk.next Pk.here))) mapA_nodup ?_
  intro hnd
  refine Trip.of_body Tryd.func93 rfl Tryd.ntmps93 Tryd.results93 rfl ?_
  refine Wp.seq ?_
  refine Wp.seq ?_
  refine Wp.region ?_
  refine WpL.step (Stp.rd (Rdo.load rfl (Lds.next (Lds.one rfl))) rfl ?_)
  refine WpL.step (Stp.rd (Rdo.eqnil rfl rfl) rfl ?_)
  refine WpL.nil ?_
  refine Thn.n ?_
  refine Wp.condF rfl ?_
  refine Wp.skip ?_
  refine Thn.n ?_
  refine Wp.seq ?_
  refine Wp.region ?_
  refine WpL.step (Stp.rd (Rdo.load rfl (Lds.next (Lds.one rfl))) rfl ?_)
  refine WpL.step (Stp.rd (Rdo.nilCheck rfl) rfl ?_)
  refine WpL.step (Stp.rd (Rdo.fieldAddr0 rfl) rfl ?_)
  refine WpL.step (Stp.rd (Rdo.load rfl (Lds.next (Lds.next (Lds.one rfl)))) rfl ?_)
  refine WpL.step (Stp.call (Tabprod.clone_ok _ _) (by kernel_rfl) rfl (by repeat (first | exact Tk.nil | apply Tk.cons (by repeat (first | exact Pk.here | apply Pk.next)))) rfl ?_)
  rintro _ _ ⟨v17_0, ⟨rfl, rfl⟩⟩
  refine WpL.lst (by simp only [List.cons_append, List.nil_append]; exact rfl) ?_
  refine WpL.step (Stp.rd (Rdo.assign rfl) rfl ?_)
  refine WpL.nil ?_
  refine Thn.n ?_
  refine Wp.seq ?_
  refine Wp.region ?_
  refine WpL.step (Stp.rd (Rdo.move rfl) rfl ?_)
  refine WpL.step (Stp.call (Tabprod.keys_ok _) (by kernel_rfl) rfl (by repeat (first | exact Tk.nil | apply Tk.cons (by repeat (first | exact Pk.here | apply Pk.next)))) rfl ?_)
  rintro _ _ ⟨v26_0, ⟨rfl, rfl⟩⟩
  refine WpL.lst (by simp only [List.cons_append, List.nil_append]; exact rfl) ?_
  have hkl : (akeys ss).length = es.length := by simp [akeys, hsl]
  refine WpL.step (Stp.call (sorted_ok 106 [vp _ 0] [cel _ _ [.map (some _)], mapA i64 _ es] (akeys ss) (by omega) hs (by kernel_rfl) ((keysIter _ _ _ es).perm (hp.symm.map _))) (by kernel_rfl) rfl (Tk.cons Pk.here (Tk.cons (Pk.next Pk.here) Tk.nil)) rfl ?_)
  rintro r _ rfl
  refine WpL.lst (by simp only [List.cons_append, List.nil_append]; exact rfl) ?_
  refine WpL.get Pk.here (fun r => rowA_shape) ?_
  rintro ⟨a0, c0, rfl⟩
  refine WpL.step (Stp.rd (Rdo.lenSlice rfl) rfl ?_)
  refine WpL.step (Stp.rd (Rdo.move rfl) rfl ?_)
  refine WpL.nil ?_
  refine Thn.n ?_
  refine Wp.block ?_
  generalize hN : (akeys ss).length = N
  refine Wp.loopE (fun k e h => ∃ (i : Nat) (l1 : List HP), i + k = N ∧ J (ss.take i) l1 ∧ e = [(0, Y), (2, vp c2 0), (4, .map (some v17_0)), (16, .slice a0 N c0), (17, vi N), (18, vi i)] ∧
      h = rowA 3 1 (.slice a0 N c0) N ((akeys ss).map vi) :: mapA i64 v17_0 es :: cel c2 t2 [.func (.func 76) #[] #[]] :: cel c1 t1 [vp b 0] :: l1) N
    (e0 := [(0, Y), (2, vp c2 0), (4, .map (some v17_0)), (16, .slice a0 N c0), (17, vi N), (18, vi (0 : Nat))])
    (l0 := rowA 3 1 (.slice a0 N c0) N ((akeys ss).map vi) :: mapA i64 v17_0 es :: cel c2 t2 [.func (.func 76) #[] #[]] :: cel c1 t1 [vp b 0] :: l0) (by rw [← hN]; exact (by repeat (first | exact trivial | refine ⟨rfl, ?_⟩))) (by repeat (first | exact trivial | refine ⟨rfl, ?_⟩)) ?_ ⟨0, l0, by omega, h0, rfl, rfl⟩ ?_
  · rw [← hN]
    refine Gh.trans (Gh.drop (Pk.next Pk.here)) ?_
    refine Gh.trans (Gh.perm (?_ : List.Perm _ ([rowA 3 1 (.slice a0 (akeys ss).length c0) (akeys ss).length ((akeys ss).map vi), mapA i64 v17_0 es, cel c2 t2 [.func (.func 76) #[] #[]], cel c1 t1 [vp b 0]] ++ (tabA b mb es ++ K)))) (Gh.frame _ hb2)
    · (
        refine List.Perm.cons _ (List.Perm.cons _ ?_)
        refine (List.Perm.swap _ _ _).trans (List.Perm.cons _ ?_)
        refine (List.Perm.swap _ _ _).trans (List.Perm.cons _ ?_)
        exact List.Perm.swap _ _ _)
  rintro k e h ⟨i, l1, hik, hJ, rfl, rfl⟩
  by_cases hi : i < N
  · refine Wp.get Pk.here (fun r => rowA_at i hi) ?_
    rintro ⟨bb, oo, cap, he⟩
    simp only [Value.slice.injEq, true_and] at he
    obtain ⟨rfl, rfl⟩ := he
    have his : i < ss.length := by simpa [akeys, ← hN] using hi
    obtain ⟨⟨x, u⟩, hxu⟩ : ∃ p, ss[i]? = some p := ⟨ss[i], List.getElem?_eq_getElem his⟩
    have hx : ((akeys ss).map vi)[i]? = some (vi x) := by simp [akeys, hxu]
    have hmv : mapVal es x (.pointer none) = u := by
      unfold mapVal
      rw [look_mem hp hnd (List.mem_of_getElem? hxu)]
      rfl
    have hsplit : ss.take i ++ (x, u) :: ss.drop (i + 1) = ss := by
      obtain ⟨h1, h2⟩ := List.getElem?_eq_some_iff.1 hxu
      rw [← h2, ← List.drop_eq_getElem_cons h1, List.take_append_drop]
    have htk : ss.take i ++ [(x, u)] = ss.take (i + 1) := by
      obtain ⟨h1, h2⟩ := List.getElem?_eq_some_iff.1 hxu
      rw [← h2, List.take_succ_eq_append_getElem h1]
    refine Wp.seq ?_
    refine Wp.region ?_
    refine WpL.step (Stp.rd (Rdo.lti rfl rfl) rfl ?_)
    refine WpL.nil ?_
    refine Thn.n ?_
    refine Wp.seq ?_
    refine Wp.condK rfl (by first | rfl | assumption | (simp only [decide_eq_true_eq, decide_eq_false_iff_not, Bool.not_eq_true', Bool.not_eq_false', List.length_cons, List.length_nil]; first | assumption | omega) | (simp <;> done) | (simp <;> omega)) ?_
    refine Wp.skip ?_
    refine Thn.n ?_
    refine Wp.seq ?_
    refine Wp.block ?_
    refine Wp.seq ?_
    refine Wp.region ?_
    refine WpL.step (Stp.rd (Rdo.indexSlice rfl rfl (by omega)) rfl ?_)
    refine WpL.step (Stp.rd (Rdo.load rfl (Lds.row1 (by assumption))) rfl ?_)
    refine WpL.step (Stp.rd (Rdo.assign rfl) rfl ?_)
    refine WpL.nil ?_
    refine Thn.n ?_
    refine Wp.seq ?_
    refine Wp.region ?_
    refine WpL.step (Stp.rd (Rdo.load rfl (Lds.next (Lds.next (Lds.one rfl)))) rfl ?_)
    refine WpL.step (Stp.rd (Rdo.move rfl) rfl ?_)
    refine WpL.step (Stp.callv rfl (by kernel_rfl) rfl (Tabprod.all1_ok _) (by repeat (first | exact Tk.nil | apply Tk.cons (by repeat (first | exact Pk.here | apply Pk.next)))) rfl ?_)
    rintro _ _ ⟨rfl, rfl⟩
    refine WpL.lst (by simp only [List.cons_append, List.nil_append]; exact rfl) ?_
    refine WpL.step (Stp.rd (Rdo.move rfl) rfl ?_)
    refine WpL.want rfl rfl rfl (Stp.rd (Rdo.move rfl) rfl ?_)
    refine WpL.want rfl rfl rfl (Stp.rd (Rdo.move rfl) rfl ?_)
    refine WpL.want rfl rfl rfl (Stp.rd (Rdo.move rfl) rfl ?_)
    refine WpL.want rfl rfl rfl (Stp.rd (Rdo.move rfl) rfl ?_)
    refine WpL.want rfl rfl rfl (Stp.rd (Rdo.lookup1 rfl rfl (Mps.next Mps.here)) rfl ?_)
    rw [hmv]
    refine WpL.want rfl rfl rfl (Stp.callV rfl rfl (hY (ss.take i) (x, u) _ l1 hsplit hJ) (Tk.tail (A := [_, _, _, _])) rfl ?_)
    rw [htk]
    rintro r l2 (⟨rfl, hJ2⟩ | ⟨rfl, hJ2⟩)
    · refine WpL.gh (Gh.perm List.perm_append_comm) ?_
      refine WpL.lst (by simp only [List.cons_append, List.nil_append]; exact rfl) ?_
      refine WpL.want rfl rfl rfl (Stp.rd (Rdo.not rfl) rfl ?_)
      refine WpL.step (Stp.rd (Rdo.pick_t rfl rfl) rfl ?_)
      refine WpL.nil ?_
      refine Thn.n ?_
      refine Wp.condF rfl ?_
      refine Wp.skip ?_
      refine Blk.n ?_
      refine Thn.n ?_
      refine Wp.region ?_
      refine WpL.step (Stp.rd (Rdo.succ rfl rfl (by omega)) rfl ?_)
      refine WpL.step (Stp.rd (Rdo.move rfl) rfl ?_)
      refine WpL.nil ?_
      refine Thn.n ?_
      refine ⟨k - 1, _, _, by omega, ⟨i + 1, l2, by omega, hJ2, rfl, rfl⟩, (by repeat (first | exact trivial | refine ⟨rfl, ?_⟩)), Gh.rfl_⟩
    · refine WpL.gh (Gh.perm List.perm_append_comm) ?_
      refine WpL.lst (by simp only [List.cons_append, List.nil_append]; exact rfl) ?_
      refine WpL.want rfl rfl rfl (Stp.rd (Rdo.not rfl) rfl ?_)
      refine WpL.step (Stp.rd (Rdo.pick_t rfl rfl) rfl ?_)
      refine WpL.nil ?_
      refine Thn.n ?_
      refine Wp.condT rfl ?_
      refine Wp.ret ?_
      refine Blk.r ?_
      refine Thn.r ?_
      refine Thn.r ?_
      refine Blk.r ?_
      exact Ret.now ResV.nil (Gh.trans (Gh.drop Pk.here) (Gh.trans (Gh.drop Pk.here) (Gh.perm (List.perm_append_comm (l₁ := [_, _]) (l₂ := l2))))) (.inr ⟨_, l2, hJ2, rfl⟩)
  · refine Wp.seq ?_
    refine Wp.region ?_
    refine WpL.step (Stp.rd (Rdo.lti rfl rfl) rfl ?_)
    refine WpL.nil ?_
    refine Thn.n ?_
    refine Wp.seq ?_
    refine Wp.condL rfl (by first | rfl | assumption | (simp only [decide_eq_true_eq, decide_eq_false_iff_not, Bool.not_eq_true', Bool.not_eq_false', List.length_cons, List.length_nil]; first | assumption | omega) | (simp <;> done) | (simp <;> omega)) ?_
    refine Wp.exit ?_
    refine Thn.x ?_
    refine Thn.x ?_
    refine Blk.here ?_
    have hfull : ss.take i = ss := List.take_of_length_le (by simp [akeys] at hN; omega)
    rw [hfull] at hJ
    exact Ret.end_ ResV.nil (Gh.trans (Gh.drop Pk.here) (Gh.trans (Gh.drop Pk.here) (Gh.perm (List.perm_append_comm (l₁ := [_, _]) (l₂ := l1))))) (.inl ⟨ss, l1, rfl, hJ, rfl⟩)
end Tabprod
end Go.Proofs.YtccgdnocldmjeaaDoor
