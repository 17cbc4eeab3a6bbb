/- The keys of a map of truth values, in whatever order. -/
import Derived.Test.YtccgdnocldmjeaaDoorSrt2
namespace Go.Proofs.YtccgdnocldmjeaaDoor
open Go
set_option maxHeartbeats 4000000
set_option linter.unusedSimpArgs false
set_option linter.unusedVariables false
set_option maxRecDepth 20000
namespace Keysbool

theorem keys_ok (mb : Nat) : Trip Tryd.prog 29 [.map (some mb)] [] (fun r l => ∃ c, r = .func (.func 43) #[] [vp c 0].toArray ∧ l = [cel c 72 [.map (some mb)]]) := by
  refine Trip.of_body Tryd.func29 rfl Tryd.ntmps29 Tryd.results29 rfl ?_
  refine Wp.seq ?_
  refine Wp.region ?_
  (refine WpL.step (Stp.boxV rfl (VC.m _) rfl ?_); intro nb2)
  refine WpL.step (Stp.rd (Rdo.assign rfl) rfl ?_)
  refine WpL.nil ?_
  refine Thn.n ?_
  refine Wp.seq ?_
  refine Wp.region ?_
  refine WpL.step (Stp.rd (Rdo.makeFunc rfl) rfl ?_)
  refine WpL.step (Stp.rd (Rdo.assign rfl) rfl ?_)
  refine WpL.nil ?_
  refine Thn.n ?_
  refine Wp.ret ?_
  refine Ret.now (ResV.tmp rfl ResV.nil) (Gh.tk (by repeat (first | exact Tk.nil | apply Tk.cons (by repeat (first | exact Pk.here | apply Pk.next))))) ⟨_, ⟨rfl, rfl⟩⟩

/-- The iterator over a map's keys: in whatever order. -/
theorem keysIter (c mb : Nat) (tc : TypeId) (es : List (Int × Value)) : IterOK Tryd.prog 43 [vp c 0] (fun k : Int => [vi k]) [] [cel c tc [.map (some mb)], mapA i64 mb es] (fun xs => xs.Perm (akeys es)) := by
  intro Y J Jx hY l0 h0 _
  refine Trip.gh (l' := [cel c tc [.map (some mb)], mapA i64 mb es] ++ l0) (Gh.perm List.perm_append_comm) ?_
  refine Trip.get (Pk.next Pk.here) mapA_nodup ?_
  intro hnd
  refine Trip.of_body Tryd.func43 rfl Tryd.ntmps43 Tryd.results43 rfl ?_
  refine Wp.seq ?_
  refine Wp.region ?_
  refine WpL.step (Stp.rd (Rdo.load rfl (Lds.one rfl)) rfl ?_)
  refine WpL.step (Stp.rangeMap rfl (Pk.next Pk.here) rfl ?_)
  intro it
  refine WpL.nil ?_
  refine Thn.n ?_
  refine Wp.block ?_
  refine Wp.loopE (fun k e h => ∃ (done : List Int) (l1 : List HP), done.length + k = es.length ∧ done.Nodup ∧ (∀ x ∈ done, x ∈ akeys es) ∧ J done l1 ∧ e = [(0, Y), (5, vp it 0)] ∧ h = mapItA i64 mb it es done :: cel c tc [.map (some mb)] :: l1) es.length
    (e0 := [(0, Y), (5, vp it 0)]) (l0 := mapItA i64 mb it es [] :: cel c tc [.map (some mb)] :: l0) (by repeat (first | exact trivial | refine ⟨rfl, ?_⟩)) (by repeat (first | exact trivial | refine ⟨rfl, ?_⟩)) Gh.rfl_ ⟨[], l0, by simp, List.nodup_nil, by simp, h0, rfl, rfl⟩ ?_
  rintro k e h ⟨done, l1, hk, hdn, hsub, hJ, rfl, rfl⟩
  refine Wp.seq ?_
  refine Wp.region ?_
  refine WpL.step (Stp.nextMap rfl Pk.here rfl ?_ ?_)
  · intro hall
    have hp : done.Perm (akeys es) := (List.perm_ext_iff_of_nodup hdn hnd).2 fun a => ⟨hsub a, hall a⟩
    refine WpL.step (Stp.rd (Rdo.extract rfl rfl) rfl ?_)
    refine WpL.nil ?_
    refine Thn.n ?_
    refine Wp.seq ?_
    refine Wp.condF rfl ?_
    refine Wp.exit ?_
    refine Thn.x ?_
    refine Thn.x ?_
    refine Blk.here ?_
    refine Ret.end_ ResV.nil (l' := l1 ++ [cel c tc [.map (some mb)], mapA i64 mb es]) ?_ (.inl ⟨done, l1, hp, hJ, rfl⟩)
    refine Gh.trans (Gh.it_done Pk.here) (Gh.perm ?_)
    exact (List.perm_append_comm (l₁ := [mapA i64 mb es, cel c tc [.map (some mb)]]) (l₂ := l1)).trans (List.Perm.append_left l1 (List.Perm.swap _ _ _))
  · intro x u hx hn
    refine WpL.step (Stp.rd (Rdo.extract rfl rfl) rfl ?_)
    refine WpL.nil ?_
    refine Thn.n ?_
    refine Wp.seq ?_
    refine Wp.condT rfl ?_
    refine Wp.skip ?_
    refine Thn.n ?_
    refine Wp.block ?_
    refine Wp.seq ?_
    refine Wp.region ?_
    refine WpL.step (Stp.rd (Rdo.entryMap rfl (by assumption)) rfl ?_)
    refine WpL.step (Stp.rd (Rdo.extract rfl rfl) rfl ?_)
    refine WpL.step (Stp.rd (Rdo.assign rfl) rfl ?_)
    refine WpL.nil ?_
    refine Thn.n ?_
    refine Wp.seq ?_
    refine Wp.region ?_
    refine WpL.step (Stp.rd (Rdo.move rfl) rfl ?_)
    refine WpL.step (Stp.rd (Rdo.move rfl) rfl ?_)
    have hxk : x ∈ akeys es := List.mem_map.2 ⟨_, hx, rfl⟩
    have hnd2 : (done ++ [x]).Nodup := by
      rw [List.nodup_append]
      exact ⟨hdn, by simp, fun a ha b hb e => hn (by simp only [List.mem_singleton] at hb; rw [← hb, ← e]; exact ha)⟩
    have hsub2 : ∀ y ∈ done ++ [x], y ∈ akeys es := by
      intro y hy
      rcases List.mem_append.1 hy with hy | hy
      · exact hsub y hy
      · simp only [List.mem_singleton] at hy; rw [hy]; exact hxk
    obtain ⟨rest, hrest⟩ : ∃ rest, (done ++ x :: rest).Perm (akeys es) := by
      obtain ⟨rest, hr⟩ := complete_ hnd2 hnd hsub2
      exact ⟨rest, by rw [show done ++ x :: rest = (done ++ [x]) ++ rest by simp]; exact hr⟩
    refine WpL.step (Stp.callV rfl rfl (hY done x rest l1 hrest hJ) (Tk.tail (A := [_, _])) rfl ?_)
    rintro r l2 (⟨rfl, hJ2⟩ | ⟨rfl, hJ2⟩)
    · refine WpL.gh (Gh.perm List.perm_append_comm) ?_
      refine WpL.lst (by simp only [List.cons_append, List.nil_append]; exact rfl) ?_
      refine WpL.step (Stp.rd (Rdo.not rfl) rfl ?_)
      refine WpL.nil ?_
      refine Thn.n ?_
      refine Wp.condF rfl ?_
      refine Wp.skip ?_
      refine Blk.n ?_
      refine Thn.n ?_
      have hlt : done.length < es.length := by
        have := hrest.length_eq
        simp [akeys] at this
        omega
      refine ⟨k - 1, _, _, by omega, ⟨done ++ [x], l2, by simp; omega, hnd2, hsub2, hJ2, rfl, rfl⟩, (by repeat (first | exact trivial | refine ⟨rfl, ?_⟩)), Gh.rfl_⟩
    · refine WpL.gh (Gh.perm List.perm_append_comm) ?_
      refine WpL.lst (by simp only [List.cons_append, List.nil_append]; exact rfl) ?_
      refine WpL.step (Stp.rd (Rdo.not rfl) rfl ?_)
      refine WpL.nil ?_
      refine Thn.n ?_
      refine Wp.condT rfl ?_
      refine Wp.ret ?_
      refine Blk.r ?_
      refine Thn.r ?_
      refine Blk.r ?_
      refine Ret.now ResV.nil (l' := l2 ++ [cel c tc [.map (some mb)], mapA i64 mb es]) ?_ (.inr ⟨_, l2, hJ2, rfl⟩)
      refine Gh.trans (Gh.it_done Pk.here) (Gh.perm ?_)
      exact (List.perm_append_comm (l₁ := [mapA i64 mb es, cel c tc [.map (some mb)]]) (l₂ := l2)).trans (List.Perm.append_left l2 (List.Perm.swap _ _ _))
end Keysbool
end Go.Proofs.YtccgdnocldmjeaaDoor
