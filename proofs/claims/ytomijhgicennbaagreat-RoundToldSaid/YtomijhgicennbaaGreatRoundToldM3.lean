/- Walks, rules and plain laws on which the claim stands, joined: the program's functions as they compute, one after the other. -/
import Derived.Orders
import Derived.Below
import Derived.Tactics
import Derived.Laws.AppendOwn
import Derived.Laws.CopyRow
import Derived.Laws.ResultCell
import Derived.Laws.Slices
import Derived.Laws.Small
import Derived.Laws.StructEq
import Derived.Laws.Pointers
import Derived.Laws.Unary
import Derived.Laws.Cells
import Derived.OrdersIn
import Derived.RangeFuncRecord
import Derived.RangeFuncIn
import Derived.RangeFuncCalls
import Derived.RangeFuncNested
import Derived.Laws.Cover3
import Derived.Laws.BytesString
import Derived.Laws.Strings
import Derived.Test.YtomijhgicennbaaGreatProg
import Derived.KernelRfl
import Derived.Laws.IdiomStrings
import Derived.OpenShut
import Derived.ChangeSlices
import Derived.DataElems
import Derived.Handed
import Derived.DeepKeys
import Derived.Laws.Shifts
import Derived.Laws.MakeOwn
import Derived.Laws.BitsAllLaws
import Derived.Test.YtomijhgicennbaaGreatRows
import Derived.WalkKit
import Derived.ProofKit
import Derived.ShutString
import Derived.ChangeOld
import Derived.Lay
import Derived.MakeChecks
import Derived.Test.YtomijhgicennbaaGreatRoundToldM2
namespace Go.Proofs.YtomijhgicennbaaGreat
open Go
set_option maxHeartbeats 4000000
set_option linter.unusedSimpArgs false
set_option linter.unusedVariables false
set_option maxRecDepth 20000
namespace Tabbal
abbrev tabA (b mb : Nat) (es : List (Int × Value)) : List HP := [cel b 132 [.map (some mb)], mapA i64 mb es]
theorem new_ok : Trip Tryz.prog 44 [] [] (fun r l => ∃ b mb, r = vp b 0 ∧ l = tabA b mb []) := by
  refine Trip.of_body Tryz.func44 rfl Tryz.ntmps44 Tryz.results44 rfl ?_
  refine Wsr (Ls (Rdo.assign rfl) (Lnt (Wsr ?_)))
  (refine WpL.step (Stp.makeMap0 i64 rfl ?_); intro nb7)
  refine Ls (Rdo.bld rfl (BldL.cons rfl (VC.m _) (by first | rfl | assumption | (simp <;> done)) (by repeat (first | exact LPut.nil _ | (refine LPut.seg ?_; first | assumption | (simp <;> done)) | (refine LPut.segEnd ?_; first | assumption | (simp <;> done)) | (with_reducible apply LPut.here) | apply LPut.hereL | apply LPut.here | (apply LPut.over32; focus (first | assumption | (simp <;> done))) | (with_reducible apply LPut.next) | apply LPut.nextL | apply LPut.next)) (BldL.nil _))) ?_
  (refine WpL.step (Stp.boxV rfl (VC.ag _) rfl ?_); intro nb9)
  refine Ls (Rdo.assign rfl) (Lnt (Wp.ret ?_))
  refine Rt (ResV.tmp rfl ResV.nil) ⟨_, ⟨_, ⟨rfl, rfl⟩⟩⟩
theorem set_ok (b mb : Nat) (es : List (Int × Value)) (k : Int) (v : Value) : Trip Tryz.prog 134 [vp b 0, vi k, v] (tabA b mb es) (fun r l => r = .tuple #[] ∧ l = tabA b mb (aset es k v)) := by
  refine Trip.of_body Tryz.func134 rfl Tryz.ntmps134 Tryz.results134 rfl ?_
  refine Wsr (Ls (Rdo.move rfl) (Ls (Rdo.nenil rfl rfl) (Lnt ?_)))
  refine Wp.condT rfl ?_
  refine Wp.region (Ls (Rdo.move rfl) (Ls (Rdo.nilCheck rfl) (Ls (Rdo.fieldAddr0 rfl) (Ls (Rdo.load rfl (Lds.one rfl)) (Ls (Rdo.move rfl) (Ls (Rdo.move rfl) ?_))))))
  refine WpL.step (Stp.mapUpdate rfl rfl rfl (by repeat (first | exact Pk.here | apply Pk.next)) ?_)
  refine WpL.nil ?_
  refine Ret.end_ ResV.nil Gk ⟨rfl, rfl⟩
theorem get_ok (b mb : Nat) (es : List (Int × Value)) (k : Int) : Trip Tryz.prog 156 [vp b 0, vi k] (tabA b mb es)
    (fun r l => r = .tuple #[mapVal es k (.pointer none), vb (alook es k).isSome] ∧ l = tabA b mb es) := by
  refine Trip.of_body Tryz.func156 rfl Tryz.ntmps156 Tryz.results156 rfl ?_
  refine Wsr (Ls (Rdo.assign rfl) (Ls (Rdo.assign rfl) (Lnt (Wp.seq (Wsr (Ls (Rdo.move rfl) (Ls (Rdo.eqnil rfl rfl) (Lnt ?_))))))))
  refine Wp.condF rfl ?_
  refine Wp.skip (Thn.n (Wsr (Ls (Rdo.move rfl) (Ls (Rdo.nilCheck rfl) (Ls (Rdo.fieldAddr0 rfl) (Ls (Rdo.load rfl (Lds.one rfl)) (Ls (Rdo.move rfl) (Ls (Rdo.lookup2 rfl rfl (Mps.next Mps.here)) (Ls (Rdo.move rfl) (Ls (Rdo.extract rfl rfl) (Ls (Rdo.extract rfl rfl) (Ls (Rdo.assign rfl) (Ls (Rdo.assign rfl) ?_)))))))))))))
  refine Lnt (Wsr (Ls (Rdo.move rfl) (Ls (Rdo.move rfl) (Ls (Rdo.assign rfl) (Ls (Rdo.assign rfl) (Lnt (Wp.ret ?_)))))))
  refine Rt (ResV.tmp rfl (ResV.tmp rfl ResV.nil)) ⟨rfl, rfl⟩
theorem cloneF : ExtF Tryz.prog 192 Extern.MapsClone.clone := ExtF.mk Tryz.func192 (by kernel_rfl) (by kernel_rfl) (by kernel_rfl) (by kernel_rfl)
theorem clone_ok (mb : Nat) (es : List (Int × Value)) : Trip Tryz.prog 176 [.map (some mb)] [mapA i64 mb es] (fun r l => ∃ m', r = .map (some m') ∧ l = [mapA i64 mb es, mapA i64 m' es]) := by
  refine Trip.of_body Tryz.func176 rfl Tryz.ntmps176 Tryz.results176 rfl ?_
  refine Wsr (Ls (Rdo.assign rfl) (Lnt (Wp.seq (Wsr (Ls (Rdo.move rfl) (Ls (Rdo.eqmapnil rfl rfl) (Lnt ?_)))))))
  refine Wp.condF rfl ?_
  refine Wp.skip (Thn.n (Wsr (Ls (Rdo.move rfl) (Ls (Rdo.mkIface rfl) ?_))))
  refine WpL.step (Stp.mapsClone cloneF rfl Pk.here rfl ?_)
  intro m'
  refine Ls (Rdo.assertMap rfl) (Ls (Rdo.assign rfl) (Lnt (Wp.ret ?_)))
  refine Rt (ResV.tmp rfl ResV.nil) ⟨_, ⟨rfl, rfl⟩⟩
theorem keys_ok (mb : Nat) : Trip Tryz.prog 178 [.map (some mb)] [] (fun r l => ∃ c, r = .func (.func 194) #[] [vp c 0].toArray ∧ l = [cel c 130 [.map (some mb)]]) := by
  refine Trip.of_body Tryz.func178 rfl Tryz.ntmps178 Tryz.results178 rfl ?_
  refine Wsr ?_
  (refine WpL.step (Stp.boxV rfl (VC.m _) rfl ?_); intro nb2)
  refine Ls (Rdo.assign rfl) (Lnt (Wsr (Ls (Rdo.makeFunc rfl) (Ls (Rdo.assign rfl) (Lnt (Wp.ret ?_))))))
  refine Rt (ResV.tmp rfl ResV.nil) ⟨_, ⟨rfl, rfl⟩⟩
/-- The iterator over a map's keys: in whatever order. -/
theorem keysIter (c mb : Nat) (tc : TypeId) (es : List (Int × Value)) : IterOK Tryz.prog 194 [vp c 0] (fun k : Int => [vi k]) [] [cel c tc [.map (some mb)], mapA i64 mb es] (fun xs => xs.Perm (akeys es)) := by
  intro Y J Jx hY l0 h0 _
  refine Trip.gh (l' := [cel c tc [.map (some mb)], mapA i64 mb es] ++ l0) (Gh.perm List.perm_append_comm) ?_
  refine Trip.get (Pk.next Pk.here) mapA_nodup ?_
  intro hnd
  refine Trip.of_body Tryz.func194 rfl Tryz.ntmps194 Tryz.results194 rfl ?_
  refine Wsr (Ls (Rdo.load rfl (Lds.one rfl)) ?_)
  refine WpL.step (Stp.rangeMap rfl (Pk.next Pk.here) rfl ?_)
  intro it
  refine Lnt (Wp.block ?_)
  refine Wp.loopE (fun k e h => ∃ (done : List Int) (l1 : List HP), done.length + k = es.length ∧ done.Nodup ∧ (∀ x ∈ done, x ∈ akeys es) ∧ J done l1 ∧ e = [(0, Y), (5, vp it 0)] ∧ h = mapItA i64 mb it es done :: cel c tc [.map (some mb)] :: l1) es.length
    (e0 := [(0, Y), (5, vp it 0)]) (l0 := mapItA i64 mb it es [] :: cel c tc [.map (some mb)] :: l0) (by repeat (first | exact trivial | refine ⟨rfl, ?_⟩)) (by repeat (first | exact trivial | refine ⟨rfl, ?_⟩)) Gh.rfl_ ⟨[], l0, by simp, List.nodup_nil, by simp, h0, rfl, rfl⟩ ?_
  rintro k e h ⟨done, l1, hk, hdn, hsub, hJ, rfl, rfl⟩
  refine Wsr ?_
  refine WpL.step (Stp.nextMap rfl Pk.here rfl ?_ ?_)
  · intro hall
    have hp : done.Perm (akeys es) := (List.perm_ext_iff_of_nodup hdn hnd).2 fun a => ⟨hsub a, hall a⟩
    refine Ls (Rdo.extract rfl rfl) (Lnt (Wp.seq ?_))
    refine Wp.condF rfl ?_
    refine Wp.exit ?_
    refine Thn.x ?_
    refine Thn.x ?_
    refine Blk.here ?_
    refine Ret.end_ ResV.nil (l' := l1 ++ [cel c tc [.map (some mb)], mapA i64 mb es]) ?_ (.inl ⟨done, l1, hp, hJ, rfl⟩)
    refine Gh.trans (Gh.it_done Pk.here) (Gh.perm ?_)
    exact (List.perm_append_comm (l₁ := [mapA i64 mb es, cel c tc [.map (some mb)]]) (l₂ := l1)).trans (List.Perm.append_left l1 (List.Perm.swap _ _ _))
  · intro x u hx hn
    refine Ls (Rdo.extract rfl rfl) (Lnt (Wp.seq ?_))
    refine Wp.condT rfl ?_
    refine Wp.skip (Thn.n (Wp.block (Wsr ?_)))
    refine Ls (Rdo.entryMap rfl (by assumption)) ?_
    refine Ls (Rdo.extract rfl rfl) (Ls (Rdo.assign rfl) (Lnt (Wsr (Ls (Rdo.move rfl) (Ls (Rdo.move rfl) ?_)))))
    have hxk : x ∈ akeys es := List.mem_map.2 ⟨_, hx, rfl⟩
    have hnd2 : (done ++ [x]).Nodup := by
      rw [List.nodup_append]
      exact ⟨hdn, by simp, fun a ha b hb e => hn (by simp only [List.mem_singleton] at hb; rw [← hb, ← e]; exact ha)⟩
    have hsub2 : ∀ y ∈ done ++ [x], y ∈ akeys es := by
      intro y hy
      rcases List.mem_append.1 hy with hy | hy
      · exact hsub y hy
      · simp only [List.mem_singleton] at hy; rw [hy]; exact hxk
    obtain ⟨rest, hrest⟩ : ∃ rest, (done ++ x :: rest).Perm (akeys es) := by
      obtain ⟨rest, hr⟩ := complete_ hnd2 hnd hsub2
      exact ⟨rest, by rw [show done ++ x :: rest = (done ++ [x]) ++ rest by simp]; exact hr⟩
    refine WpL.step (Stp.callV rfl rfl (hY done x rest l1 hrest hJ) (Tk.tail (A := [_, _])) rfl ?_)
    rintro r l2 (⟨rfl, hJ2⟩ | ⟨rfl, hJ2⟩)
    · refine WpL.gh (Gh.perm List.perm_append_comm) ?_
      refine Ll ?_
      refine Ls (Rdo.not rfl) (Lnt ?_)
      refine Wp.condF rfl ?_
      refine Wp.skip (Blk.n (Thn.n ?_))
      have hlt : done.length < es.length := by
        have := hrest.length_eq
        simp [akeys] at this
        omega
      refine ⟨k - 1, _, _, by omega, ⟨done ++ [x], l2, by simp; omega, hnd2, hsub2, hJ2, rfl, rfl⟩, (by repeat (first | exact trivial | refine ⟨rfl, ?_⟩)), Gh.rfl_⟩
    · refine WpL.gh (Gh.perm List.perm_append_comm) ?_
      refine Ll ?_
      refine Ls (Rdo.not rfl) (Lnt ?_)
      refine Wp.condT rfl ?_
      refine Wp.ret ?_
      refine Blk.r ?_
      refine Thn.r ?_
      refine Blk.r ?_
      refine Ret.now ResV.nil (l' := l2 ++ [cel c tc [.map (some mb)], mapA i64 mb es]) ?_ (.inr ⟨_, l2, hJ2, rfl⟩)
      refine Gh.trans (Gh.it_done Pk.here) (Gh.perm ?_)
      exact (List.perm_append_comm (l₁ := [mapA i64 mb es, cel c tc [.map (some mb)]]) (l₂ := l2)).trans (List.Perm.append_left l2 (List.Perm.swap _ _ _))
theorem ranged_ok (b : Nat) (m : Value) (hm : m.oneCell' = true) : Trip Tryz.prog 148 [vp b 0, m] [] (fun r l => ∃ c1 c2, r = .func (.func 175) #[] [vp c1 0, vp c2 0].toArray ∧ l = [cel c2 68 [m], cel c1 95 [vp b 0]]) := by
  refine Trip.of_body Tryz.func148 rfl Tryz.ntmps148 Tryz.results148 rfl ?_
  refine Wsr ?_
  (refine WpL.step (Stp.boxV rfl (VC.p _) rfl ?_); intro nb2)
  (refine WpL.step (Stp.boxV rfl (VC.one (by first | assumption | rfl)) rfl ?_); intro nb3)
  refine Ls (Rdo.assign rfl) (Lnt (Wsr (Ls (Rdo.makeFunc rfl) (Ls (Rdo.assign rfl) (Lnt (Wp.ret ?_))))))
  refine Rt (ResV.tmp rfl ResV.nil) ⟨_, ⟨_, ⟨rfl, rfl⟩⟩⟩
theorem all_ok (b : Nat) : Trip Tryz.prog 115 [vp b 0] [] (fun r l => ∃ c1 c2, r = .func (.func 175) #[] [vp c1 0, vp c2 0].toArray ∧ l = [cel c2 68 [.func (.func 149) #[] #[]], cel c1 95 [vp b 0]]) := by
  refine Trip.of_body Tryz.func115 rfl Tryz.ntmps115 Tryz.results115 rfl ?_
  refine Wsr (Ls (Rdo.assign rfl) (Lnt (Wsr (Ls (Rdo.move rfl) ?_))))
  refine WpL.step (Sc (Tabbal.ranged_ok _ _ (by first | rfl | assumption | omega | (simp <;> done) | (simp <;> omega) | (simp [IntKind.bits]; omega) | simp_all)) rfl ?_)
  rintro _ _ ⟨v9_0, ⟨v9_1, ⟨rfl, rfl⟩⟩⟩
  refine Ll ?_
  refine Ls (Rdo.assign rfl) (Lnt (Wp.ret ?_))
  refine Rt (ResV.tmp rfl ResV.nil) ⟨_, ⟨_, ⟨rfl, rfl⟩⟩⟩
theorem all1_ok (k : Int) : Trip Tryz.prog 149 [vi k] [] (fun r l => r = vb true ∧ l = []) := by
  refine Trip.of_body Tryz.func149 rfl Tryz.ntmps149 Tryz.results149 rfl ?_
  refine Wsr (Ls (Rdo.assign rfl) (Lnt (Wsr (Ls (Rdo.assign rfl) (Lnt (Wp.ret ?_))))))
  refine Rt (ResV.tmp rfl ResV.nil) ⟨rfl, rfl⟩
theorem look_mem {es ss : List (Int × Value)} (hp : ss.Perm es) (hn : (akeys es).Nodup) {k : Int} {v : Value} (h : (k, v) ∈ ss) : alook es k = some v := alook_of_mem hn (hp.mem_iff.1 h)
/-- A table is gone over by rising keys, as it was when one began. -/
theorem allIter (c1 c2 b mb : Nat) (t1 t2 : TypeId) (es ss : List (Int × Value)) (hp : ss.Perm es) (hs : (akeys ss).Pairwise (· ≤ ·)) (hl : es.length ≤ 12) :
    IterOK Tryz.prog 175 [vp c1 0, vp c2 0] (fun x : Int × Value => [vi x.1, x.2]) (tabA b mb es)
      [cel c2 t2 [.func (.func 149) #[] #[]], cel c1 t1 [vp b 0]] (fun xs => xs = ss) := by
  intro Y J Jx hY l0 h0 hsee
  have hsl : ss.length = es.length := hp.length_eq
  obtain ⟨K, hb1, hb2⟩ := hsee
  refine Trip.gh (l' := [cel c2 t2 [.func (.func 149) #[] #[]], cel c1 t1 [vp b 0]] ++ l0) (Gh.perm List.perm_append_comm) ?_
  refine Trip.gh (l' := cel c2 t2 [.func (.func 149) #[] #[]] :: cel c1 t1 [vp b 0] :: cel b 132 [.map (some mb)] :: mapA i64 mb es :: K) (Gh.frame [_, _] hb1) ?_
  refine Trip.get (Pk.next (Pk.next (Pk.next Pk.here))) mapA_nodup ?_
  intro hnd
  refine Trip.of_body Tryz.func175 rfl Tryz.ntmps175 Tryz.results175 rfl ?_
  refine Wp.seq (Wsr (Ls (Rdo.load rfl (Lds.next (Lds.one rfl))) (Ls (Rdo.eqnil rfl rfl) (Lnt ?_))))
  refine Wp.condF rfl ?_
  refine Wp.skip (Thn.n (Wsr (Ls (Rdo.load rfl (Lds.next (Lds.one rfl))) (Ls (Rdo.nilCheck rfl) (Ls (Rdo.fieldAddr0 rfl) (Ls (Rdo.load rfl (Lds.next (Lds.next (Lds.one rfl)))) ?_))))))
  refine WpL.step (Sc (Tabbal.clone_ok _ _) rfl ?_)
  rintro _ _ ⟨v17_0, ⟨rfl, rfl⟩⟩
  refine Ll ?_
  refine Ls (Rdo.assign rfl) (Lnt (Wsr (Ls (Rdo.move rfl) ?_)))
  refine WpL.step (Sc (Tabbal.keys_ok _) rfl ?_)
  rintro _ _ ⟨v26_0, ⟨rfl, rfl⟩⟩
  refine Ll ?_
  have hkl : (akeys ss).length = es.length := by simp [akeys, hsl]
  refine WpL.step (Stp.call (sorted_ok 194 [vp _ 0] [cel _ _ [.map (some _)], mapA i64 _ es] (akeys ss) (by omega) hs (by kernel_rfl) ((keysIter _ _ _ es).perm (hp.symm.map _))) (by kernel_rfl) rfl (Tk.cons Pk.here (Tk.cons (Pk.next Pk.here) Tk.nil)) rfl ?_)
  rintro r _ rfl
  refine Ll ?_
  refine WpL.get Pk.here (fun r => rowA_shape) ?_
  rintro ⟨a0, c0, rfl⟩
  refine Ls (Rdo.lenSlice rfl) (Ls (Rdo.move rfl) (Lnt (Wp.block ?_)))
  generalize hN : (akeys ss).length = N
  refine Wp.loopE (fun k e h => ∃ (i : Nat) (l1 : List HP), i + k = N ∧ J (ss.take i) l1 ∧ e = [(0, Y), (2, vp c2 0), (4, .map (some v17_0)), (16, .slice a0 N c0), (17, vi N), (18, vi i)] ∧
      h = rowA 3 1 (.slice a0 N c0) N ((akeys ss).map vi) :: mapA i64 v17_0 es :: cel c2 t2 [.func (.func 149) #[] #[]] :: cel c1 t1 [vp b 0] :: l1) N
    (e0 := [(0, Y), (2, vp c2 0), (4, .map (some v17_0)), (16, .slice a0 N c0), (17, vi N), (18, vi (0 : Nat))])
    (l0 := rowA 3 1 (.slice a0 N c0) N ((akeys ss).map vi) :: mapA i64 v17_0 es :: cel c2 t2 [.func (.func 149) #[] #[]] :: cel c1 t1 [vp b 0] :: l0) (by rw [← hN]; exact (by repeat (first | exact trivial | refine ⟨rfl, ?_⟩))) (by repeat (first | exact trivial | refine ⟨rfl, ?_⟩)) ?_ ⟨0, l0, by omega, h0, rfl, rfl⟩ ?_
  · rw [← hN]
    refine Gh.trans (Gh.drop (Pk.next Pk.here)) ?_
    refine Gh.trans (Gh.perm (?_ : List.Perm _ ([rowA 3 1 (.slice a0 (akeys ss).length c0) (akeys ss).length ((akeys ss).map vi), mapA i64 v17_0 es, cel c2 t2 [.func (.func 149) #[] #[]], cel c1 t1 [vp b 0]] ++ (tabA b mb es ++ K)))) (Gh.frame _ hb2)
    · (
        refine List.Perm.cons _ (List.Perm.cons _ ?_)
        refine (List.Perm.swap _ _ _).trans (List.Perm.cons _ ?_)
        refine (List.Perm.swap _ _ _).trans (List.Perm.cons _ ?_)
        exact List.Perm.swap _ _ _)
  rintro k e h ⟨i, l1, hik, hJ, rfl, rfl⟩
  by_cases hi : i < N
  · refine Wp.get Pk.here (fun r => rowA_at i hi) ?_
    rintro ⟨bb, oo, cap, he⟩
    simp only [Value.slice.injEq, true_and] at he
    obtain ⟨rfl, rfl⟩ := he
    have his : i < ss.length := by simpa [akeys, ← hN] using hi
    obtain ⟨⟨x, u⟩, hxu⟩ : ∃ p, ss[i]? = some p := ⟨ss[i], List.getElem?_eq_getElem his⟩
    have hx : ((akeys ss).map vi)[i]? = some (vi x) := by simp [akeys, hxu]
    have hmv : mapVal es x (.pointer none) = u := by
      unfold mapVal
      rw [look_mem hp hnd (List.mem_of_getElem? hxu)]
      rfl
    have hsplit : ss.take i ++ (x, u) :: ss.drop (i + 1) = ss := by
      obtain ⟨h1, h2⟩ := List.getElem?_eq_some_iff.1 hxu
      rw [← h2, ← List.drop_eq_getElem_cons h1, List.take_append_drop]
    have htk : ss.take i ++ [(x, u)] = ss.take (i + 1) := by
      obtain ⟨h1, h2⟩ := List.getElem?_eq_some_iff.1 hxu
      rw [← h2, List.take_succ_eq_append_getElem h1]
    refine Wsr (Ls (Rdo.lti rfl rfl) (Lnt (Wp.seq (cK rfl (Wp.skip (Thn.n (Wp.seq (Wp.block (Wsr ?_)))))))))
    refine Ls (Rdo.indexSlice rfl rfl (by omega)) ?_
    refine Ls (Rdo.load rfl (Lds.row1 (by assumption))) ?_
    refine Ls (Rdo.assign rfl) (Lnt (Wsr (Ls (Rdo.load rfl (Lds.next (Lds.next (Lds.one rfl)))) (Ls (Rdo.move rfl) ?_))))
    refine WpL.step (Stp.callv rfl (by kernel_rfl) rfl (Tabbal.all1_ok _) (by repeat (first | exact Tk.nil | apply Tk.cons (by repeat (first | exact Pk.here | apply Pk.next)))) rfl ?_)
    rintro _ _ ⟨rfl, rfl⟩
    refine Ll ?_
    refine Ls (Rdo.move rfl) (Lw rfl rfl (Rdo.move rfl) (Lw rfl rfl (Rdo.move rfl) (Lw rfl rfl (Rdo.move rfl) (Lw rfl rfl (Rdo.move rfl) (Lw rfl rfl (Rdo.lookup1 rfl rfl (Mps.next Mps.here)) ?_)))))
    rw [hmv]
    refine WpL.want rfl rfl rfl (Stp.callV rfl rfl (hY (ss.take i) (x, u) _ l1 hsplit hJ) (Tk.tail (A := [_, _, _, _])) rfl ?_)
    rw [htk]
    rintro r l2 (⟨rfl, hJ2⟩ | ⟨rfl, hJ2⟩)
    · refine WpL.gh (Gh.perm List.perm_append_comm) ?_
      refine Ll ?_
      refine Lw rfl rfl (Rdo.not rfl) (Ls (Rdo.pick_t rfl rfl) (Lnt ?_))
      refine Wp.condF rfl ?_
      refine Wp.skip (Blk.n (Thn.n (Wp.region ?_)))
      refine Ls (Rdo.succ rfl rfl (by omega)) ?_
      refine Ls (Rdo.move rfl) (Lnt ?_)
      refine ⟨k - 1, _, _, by omega, ⟨i + 1, l2, by omega, hJ2, rfl, rfl⟩, (by repeat (first | exact trivial | refine ⟨rfl, ?_⟩)), Gh.rfl_⟩
    · refine WpL.gh (Gh.perm List.perm_append_comm) ?_
      refine Ll ?_
      refine Lw rfl rfl (Rdo.not rfl) (Ls (Rdo.pick_t rfl rfl) (Lnt ?_))
      refine Wp.condT rfl ?_
      refine Wp.ret ?_
      refine Blk.r ?_
      refine Thn.r ?_
      refine Thn.r ?_
      refine Blk.r ?_
      exact Ret.now ResV.nil (Gh.trans (Gh.drop Pk.here) (Gh.trans (Gh.drop Pk.here) (Gh.perm (List.perm_append_comm (l₁ := [_, _]) (l₂ := l2))))) (.inr ⟨_, l2, hJ2, rfl⟩)
  · refine Wsr (Ls (Rdo.lti rfl rfl) (Lnt (Wp.seq (cL rfl ?_))))
    refine Wp.exit ?_
    refine Thn.x ?_
    refine Thn.x ?_
    refine Blk.here ?_
    have hfull : ss.take i = ss := List.take_of_length_le (by simp [akeys] at hN; omega)
    rw [hfull] at hJ
    exact Ret.end_ ResV.nil (Gh.trans (Gh.drop Pk.here) (Gh.trans (Gh.drop Pk.here) (Gh.perm (List.perm_append_comm (l₁ := [_, _]) (l₂ := l1))))) (.inl ⟨ss, l1, rfl, hJ, rfl⟩)
end Tabbal
end Go.Proofs.YtomijhgicennbaaGreat
namespace Go.Proofs.YtomijhgicennbaaGreat
open Go
set_option maxHeartbeats 4000000
set_option linter.unusedSimpArgs false
set_option linter.unusedVariables false
set_option maxRecDepth 20000
namespace Tabsta
abbrev tabA (b mb : Nat) (es : List (Int × Value)) : List HP := [cel b 129 [.map (some mb)], mapA i64 mb es]
theorem new_ok : Trip Tryz.prog 43 [] [] (fun r l => ∃ b mb, r = vp b 0 ∧ l = tabA b mb []) := by
  refine Trip.of_body Tryz.func43 rfl Tryz.ntmps43 Tryz.results43 rfl ?_
  refine Wsr (Ls (Rdo.assign rfl) (Lnt (Wsr ?_)))
  (refine WpL.step (Stp.makeMap0 i64 rfl ?_); intro nb7)
  refine Ls (Rdo.bld rfl (BldL.cons rfl (VC.m _) (by first | rfl | assumption | (simp <;> done)) (by repeat (first | exact LPut.nil _ | (refine LPut.seg ?_; first | assumption | (simp <;> done)) | (refine LPut.segEnd ?_; first | assumption | (simp <;> done)) | (with_reducible apply LPut.here) | apply LPut.hereL | apply LPut.here | (apply LPut.over32; focus (first | assumption | (simp <;> done))) | (with_reducible apply LPut.next) | apply LPut.nextL | apply LPut.next)) (BldL.nil _))) ?_
  (refine WpL.step (Stp.boxV rfl (VC.ag _) rfl ?_); intro nb9)
  refine Ls (Rdo.assign rfl) (Lnt (Wp.ret ?_))
  refine Rt (ResV.tmp rfl ResV.nil) ⟨_, ⟨_, ⟨rfl, rfl⟩⟩⟩
theorem set_ok (b mb : Nat) (es : List (Int × Value)) (k : Int) (v : Value) : Trip Tryz.prog 83 [vp b 0, vi k, v] (tabA b mb es) (fun r l => r = .tuple #[] ∧ l = tabA b mb (aset es k v)) := by
  refine Trip.of_body Tryz.func83 rfl Tryz.ntmps83 Tryz.results83 rfl ?_
  refine Wsr (Ls (Rdo.move rfl) (Ls (Rdo.nenil rfl rfl) (Lnt ?_)))
  refine Wp.condT rfl ?_
  refine Wp.region (Ls (Rdo.move rfl) (Ls (Rdo.nilCheck rfl) (Ls (Rdo.fieldAddr0 rfl) (Ls (Rdo.load rfl (Lds.one rfl)) (Ls (Rdo.move rfl) (Ls (Rdo.move rfl) ?_))))))
  refine WpL.step (Stp.mapUpdate rfl rfl rfl (by repeat (first | exact Pk.here | apply Pk.next)) ?_)
  refine WpL.nil ?_
  refine Ret.end_ ResV.nil Gk ⟨rfl, rfl⟩
theorem get_ok (b mb : Nat) (es : List (Int × Value)) (k : Int) : Trip Tryz.prog 82 [vp b 0, vi k] (tabA b mb es)
    (fun r l => r = .tuple #[mapVal es k (.pointer none), vb (alook es k).isSome] ∧ l = tabA b mb es) := by
  refine Trip.of_body Tryz.func82 rfl Tryz.ntmps82 Tryz.results82 rfl ?_
  refine Wsr (Ls (Rdo.assign rfl) (Ls (Rdo.assign rfl) (Lnt (Wp.seq (Wsr (Ls (Rdo.move rfl) (Ls (Rdo.eqnil rfl rfl) (Lnt ?_))))))))
  refine Wp.condF rfl ?_
  refine Wp.skip (Thn.n (Wsr (Ls (Rdo.move rfl) (Ls (Rdo.nilCheck rfl) (Ls (Rdo.fieldAddr0 rfl) (Ls (Rdo.load rfl (Lds.one rfl)) (Ls (Rdo.move rfl) (Ls (Rdo.lookup2 rfl rfl (Mps.next Mps.here)) (Ls (Rdo.move rfl) (Ls (Rdo.extract rfl rfl) (Ls (Rdo.extract rfl rfl) (Ls (Rdo.assign rfl) (Ls (Rdo.assign rfl) ?_)))))))))))))
  refine Lnt (Wsr (Ls (Rdo.move rfl) (Ls (Rdo.move rfl) (Ls (Rdo.assign rfl) (Ls (Rdo.assign rfl) (Lnt (Wp.ret ?_)))))))
  refine Rt (ResV.tmp rfl (ResV.tmp rfl ResV.nil)) ⟨rfl, rfl⟩
end Tabsta
end Go.Proofs.YtomijhgicennbaaGreat
namespace Go.Proofs.YtomijhgicennbaaGreat
open Go
set_option maxHeartbeats 4000000
set_option linter.unusedSimpArgs false
set_option linter.unusedVariables false
set_option maxRecDepth 20000
theorem xorB_snoc (m : UInt8) (k : List UInt8) (i : Nat) (c : UInt8) (h : k[i]? = some c) : xorB m (k.take (i + 1)) = xorB m (k.take i) ++ [c ^^^ m] := by
  unfold xorB
  rw [List.take_add_one, h]
  simp
theorem rowA_cap8 {t : TypeId} {sz n c : Nat} {a : Option Addr} {xs : List Value} {r : Res} (h : rowA t sz (.slice a n c) n xs r) : n ≤ c := by
  unfold rowA at h
  rcases h.2 with ⟨h1, h2⟩ | ⟨b, o, cap, cur, h1, _, h3, _⟩
  · omega
  · simp only [Value.slice.injEq, true_and] at h1
    omega
abbrev mwE (mark : UInt8) (v : Value) (nh : Nat) (w : Value) (K : List UInt8) (i : Nat) : Env := [(0, .int .u8 mark.toNat), (1, v), (5, vp nh 0), (6, w), (13, .agg (bytesC K).toArray), (14, vi i)]
theorem macWith_ok (kb : Nat) (mark : UInt8) (v : Value) (p K : List UInt8) (hK : K.length = 64) (hl : p.length ≤ 1000000000) :
    Trip Tryz.prog 160 [.int .u8 mark.toNat, v, vp kb 0] [cel kb 209 (bytesC K), fz (fun g => RdBytes g v p)]
      (fun r l => r = .agg (hc (dHash (xorB mark K ++ p))).toArray ∧ l = [cel kb 209 (bytesC K), fz (fun g => RdBytes g v p)]) := by
  refine Trip.get (Pk.next Pk.here) shape_bytes ?_
  rintro ⟨a, c, rfl⟩
  have hKl : (bytesC K).length = 64 := by rw [bytesC_length, hK]
  refine Trip.of_body Tryz.func160 rfl Tryz.ntmps160 Tryz.results160 rfl ?_
  refine Wsr ?_
  (refine WpL.step (Stp.alloc rfl ?_); intro nb2)
  refine Lnt (Wsr (Ls (Rdo.move rfl) (Ls (Rdo.lenSlice rfl) ?_)))
  refine Ls (Rdo.add64 rfl rfl (by first | omega | (dsimp only; omega))) ?_
  (refine WpL.step (Stp.make0 rfl rfl (by first | omega | (simp <;> omega)) (by first | omega | (simp <;> omega)) rfl ?_); intro nb10)
  refine Ls (Rdo.assign rfl) (Lnt (Wp.seq (Wsr ?_)))
  refine Ls (Rdo.load rfl (Lds.next (Lds.next Ld))) ?_
  refine Ls (Rdo.move rfl) (Lnt (Wp.block ?_))
  refine Wp.loopE (fun k e h => ∃ (i : Nat) (ab : Option Addr) (cb : Nat), i + k = 64 ∧ e = mwE mark (.slice a p.length c) nb2 (.slice ab i cb) K i ∧ h = [rowA 5 1 (.slice ab i cb) i (bytesC (xorB mark (K.take i))), cel nb2 28 (List.replicate 32 (.int .u8 0)), cel kb 209 (bytesC K), fz (fun g => RdBytes g (.slice a p.length c) p)]) 64
    (e0 := mwE mark (.slice a p.length c) nb2 (.slice (some ⟨nb10, 0, none⟩) 0 (64 + p.length)) K 0) (l0 := [rowA 5 1 (.slice (some ⟨nb10, 0, none⟩) 0 (64 + p.length)) 0 (bytesC (xorB mark (K.take 0))), cel nb2 28 (List.replicate 32 (.int .u8 0)), cel kb 209 (bytesC K), fz (fun g => RdBytes g (.slice a p.length c) p)]) (by repeat (first | exact trivial | refine ⟨rfl, ?_⟩)) (by repeat (first | exact trivial | refine ⟨rfl, ?_⟩)) Gk ⟨0, _, _, by omega, rfl, rfl⟩ ?_
  rintro k e h ⟨i, ab, cb, hik, rfl, rfl⟩
  by_cases hi : i < 64
  · have hi' : (i : Int) < 64 := by omega
    have hM : K[i]? = some (K[i]'(by omega)) := List.getElem?_eq_getElem (by omega)
    have hsn := xorB_snoc mark K i _ hM
    have hB : (bytesC K)[i]? = some (.int .u8 (K[i]'(by omega)).toNat) := by rw [bytesC, List.getElem?_map, hM]; rfl
    generalize (K[i]'(by omega)) = x at *
    have hx := xor8 x mark
    have e1 : bytesC (xorB mark (K.take (i + 1))) = bytesC (xorB mark (K.take i)) ++ [Value.int .u8 (bits .xor .u8 (x.toNat : Int) (mark.toNat : Int))] := by rw [hsn, bytesC_snoc, hx]
    refine Wsr (Ls (Rdo.lti rfl rfl) (Lnt (Wp.seq (cK rfl (Wp.skip (Thn.n (Wp.seq (Wp.block (Wsr ?_)))))))))
    refine Ls (Rdo.indexAgg1 rfl rfl (by omega) (by assumption)) ?_
    refine Ls (Rdo.assign rfl) (Lnt (Wp.region (Ls (Rdo.move rfl) (Ls (Rdo.move rfl) (Ls (Rdo.move rfl) (Ls (Rdo.xor rfl rfl) ?_))))))
    (refine WpL.step (Stp.sliceV rfl rfl (VCs.cons (VC.i _ _) (by first | rfl | assumption | (simp <;> done)) VCs.nil) (by simp only [List.cons_append, List.nil_append, List.append_nil]; exact rfl) rfl rfl ?_); intro nb22)
    (refine WpL.step (Stp.appendP rfl rfl (Pk.next Pk.here) (Src.cel (by first | rfl | (simp <;> done) | (simp <;> omega))) (by first | rfl | assumption | (simp <;> done) | (simp <;> omega)) (by first | assumption | exact oneCells1 rfl | exact oneCells1 (by assumption) | exact oneCells_bytesC _ | exact oneCells_votesC _ | (simp [oneCells, Value.oneCell'] <;> done)) (by first | omega | (simp <;> omega)) (by first | omega | (simp <;> omega)) rfl (by first | rfl | (simp <;> done)) ?_); intro na23 nc23)
    refine Ls (Rdo.assign rfl) (WpL.nil (Blk.n (Thn.n (Wp.region ?_))))
    refine Ls (Rdo.succ rfl rfl (by omega)) ?_
    refine Ls (Rdo.move rfl) (Lnt ?_)
    refine ⟨k - 1, _, _, by omega, ⟨i + 1, _, _, by omega, rfl, rfl⟩, (by repeat (first | exact trivial | refine ⟨rfl, ?_⟩)), ?_⟩
    rw [e1]
    exact Gk
  · obtain rfl : i = 64 := by omega
    have hall : K.take 64 = K := List.take_of_length_le (by omega)
    rw [hall]
    have hxl := xorB_len mark K
    generalize xorB mark K = X at *
    refine Wsr (Ls (Rdo.lti rfl rfl) (Lnt (Wp.seq ?_)))
    refine Wp.condF rfl ?_
    refine Wp.exit ?_
    refine Thn.x ?_
    refine Thn.x ?_
    refine Blk.here ?_
    refine Thn.n (Wsr (Ls (Rdo.move rfl) (Ls (Rdo.move rfl) ?_)))
    (refine WpL.step (Stp.appendP rfl rfl Pk.here (Src.next (Src.next Src.frozen)) (by first | rfl | assumption | (simp <;> done) | (simp <;> omega)) (by first | assumption | exact oneCells1 rfl | exact oneCells1 (by assumption) | exact oneCells_bytesC _ | exact oneCells_votesC _ | (simp [oneCells, Value.oneCell'] <;> done)) (by first | omega | (simp <;> omega)) (by first | omega | (simp <;> omega)) rfl (by first | rfl | (simp <;> done)) ?_); intro na16 nc16)
    have e2 : bytesC X ++ bytesC p = bytesC (X ++ p) := by simp [bytesC]
    have e3 : 64 + p.length = (X ++ p).length := by simp [hxl, hK]
    rw [e2, e3]
    refine WpL.get Pk.here (fun r => rowA_cap8) ?_
    intro hcap
    refine WpL.gh (Gh.ice Pk.here) ?_
    have s2 := sumH_ok na16 nc16 (X ++ p) (by rw [← e3]; omega) hcap
    have hz1 := hc_length (dHash (X ++ p))
    generalize dHash (X ++ p) = H at *
    refine WpL.step (Sc (s2) rfl ?_)
    rintro _ _ ⟨rfl, rfl⟩
    refine Ll ?_
    refine WpL.step (St rfl rfl (VC.ag _) ?_)
    refine Lnt (Wp.ret ?_)
    refine Rt (ResV.cell rfl (by repeat (first | exact Lds.one rfl | (apply Lds.all; (first | rfl | assumption | (simp <;> fail))) | exact Lds.ione0 | exact Lds.ione rfl | (apply Lds.iall; (first | rfl | assumption | (simp <;> fail))) | apply Lds.next)) ResV.nil) ⟨rfl, rfl⟩
theorem lput_pad (R : List UInt8) (h : R.length ≤ 64) : lput (List.replicate 64 (.int .u8 0)) 0 (bytesC R) = bytesC (padK R) := by
  have h1 : (bytesC R).length = R.length := bytesC_length R
  rw [lput_eq _ _ _ (by rw [h1, List.length_replicate]; omega), h1]
  simp only [List.take_zero, List.nil_append, Nat.zero_add, List.drop_replicate, bytesC, padK, List.map_append, List.map_replicate]
  rfl
theorem mac_ok (kv pv : Value) (key p : List UInt8) (hk : key.length ≤ 64) (hl : p.length ≤ 1000000000) :
    Trip Tryz.prog 122 [kv, pv] [fz (fun g => RdBytes g kv key), fz (fun g => RdBytes g pv p)] (fun r l => r = .agg (hc (dMac key p)).toArray ∧ l = []) := by
  refine Trip.get Pk.here shape_bytes ?_
  rintro ⟨a, c, rfl⟩
  refine Trip.get (Pk.next Pk.here) shape_bytes ?_
  rintro ⟨a2, c2, rfl⟩
  refine Trip.of_body Tryz.func122 rfl Tryz.ntmps122 Tryz.results122 rfl ?_
  refine Wsr ?_
  (refine WpL.step (Stp.alloc rfl ?_); intro nb2)
  refine Lnt (Wsr ?_)
  (refine WpL.step (Stp.alloc rfl ?_); intro nb7)
  refine Lnt (Wp.seq (Wsr (Ls (Rdo.move rfl) (Ls (Rdo.lenSlice rfl) (Ls (Rdo.gti rfl rfl) (Lnt (cL rfl (Wp.skip (Thn.n (Wsr (Ls (Rdo.slArr rfl) (Ls (Rdo.move rfl) ?_))))))))))))
  refine WpL.step (Stp.copyAll rfl rfl (Src.next (Src.next Src.frozen)) (by omega) (Sts.here (oneCells_bytesC key) (by rw [bytesC_length, List.length_replicate]; omega)) rfl ?_)
  rw [lput_pad key hk]
  have hpk := padK_len hk
  have s1 : Trip Tryz.prog 160 [.int .u8 54, .slice a2 p.length c2, vp nb7 0] [cel nb7 209 (bytesC (padK key)), fz (fun g => RdBytes g (.slice a2 p.length c2) p)]
      (fun r l => r = .agg (hc (dHash (xorB 0x36 (padK key) ++ p))).toArray ∧ l = [cel nb7 209 (bytesC (padK key)), fz (fun g => RdBytes g (.slice a2 p.length c2) p)]) := macWith_ok nb7 0x36 (.slice a2 p.length c2) p (padK key) hpk hl
  have s2 : ∀ v q, q.length ≤ 1000000000 → Trip Tryz.prog 160 [.int .u8 92, v, vp nb7 0] [cel nb7 209 (bytesC (padK key)), fz (fun g => RdBytes g v q)]
      (fun r l => r = .agg (hc (dHash (xorB 0x5c (padK key) ++ q))).toArray ∧ l = [cel nb7 209 (bytesC (padK key)), fz (fun g => RdBytes g v q)]) := fun v q hq => macWith_ok nb7 0x5c v q (padK key) hpk hq
  unfold dMac
  have hz1 := hc_length (dHash (xorB 0x36 (padK key) ++ p))
  generalize dHash (xorB 0x36 (padK key) ++ p) = H1 at *
  have s3 := fun cb => s2 (.slice (some ⟨cb, 0, none⟩) 32 32) H1.l (by rw [H1.h]; omega)
  clear s2
  have hz2 := hc_length (dHash (xorB 0x5c (padK key) ++ H1.l))
  generalize dHash (xorB 0x5c (padK key) ++ H1.l) = H2 at *
  generalize padK key = K at *
  refine Lnt (Wsr (Ls (Rdo.makeFunc rfl) (Ls (Rdo.assign rfl) (Lnt (Wsr (Ls (Rdo.move rfl) (Ls (Rdo.move rfl) ?_)))))))
  refine WpL.step (Stp.callv rfl (by kernel_rfl) rfl (s1) (by repeat (first | exact Tk.nil | apply Tk.cons (by repeat (first | exact Pk.here | apply Pk.next)))) rfl ?_)
  rintro _ _ ⟨rfl, rfl⟩
  refine Ll ?_
  (refine WpL.step (Stp.alloc rfl ?_); intro nb15)
  refine WpL.step (St rfl rfl (VC.ag _) ?_)
  refine Lnt (Wsr (Ls (Rdo.move rfl) (Ls (Rdo.slArr rfl) ?_)))
  refine WpL.gh (Gh.trans (Gh.iceCel Pk.here) (Gh.icelImp (Ψ := fun g => RdBytes g (.slice (some ⟨nb15, 0, none⟩) 32 32) H1.l) Pk.here (fun g h => cells_bytes h))) ?_
  refine WpL.step (Stp.callv rfl (by kernel_rfl) rfl (s3 _) (by repeat (first | exact Tk.nil | apply Tk.cons (by repeat (first | exact Pk.here | apply Pk.next)))) rfl ?_)
  rintro _ _ ⟨rfl, rfl⟩
  refine Ll ?_
  refine WpL.step (St rfl rfl (VC.ag _) ?_)
  refine Lnt (Wp.ret ?_)
  refine Rt (ResV.cell rfl (by repeat (first | exact Lds.one rfl | (apply Lds.all; (first | rfl | assumption | (simp <;> fail))) | exact Lds.ione0 | exact Lds.ione rfl | (apply Lds.iall; (first | rfl | assumption | (simp <;> fail))) | apply Lds.next)) ResV.nil) ⟨rfl, rfl⟩
end Go.Proofs.YtomijhgicennbaaGreat
namespace Go.Proofs.YtomijhgicennbaaGreat
open Go
set_option maxHeartbeats 4000000
set_option linter.unusedSimpArgs false
set_option linter.unusedVariables false
set_option maxRecDepth 20000
def RdRing (g : FH) (rb : Nat) (keys : List Hash) : Prop := ∃ v, CellsAt g rb 0 [v] ∧ RdRow g 32 v keys.length (keys.map hc).flatten
abbrev ringF (rb : Nat) (keys : List Hash) : HP := fz (fun g => RdRing g rb keys)
theorem ring_open {l : List HP} {rb : Nat} {keys : List Hash} : GhE (ringF rb keys :: l) (fun _ : Option Addr × Nat => True) (fun x => icel rb 0 [.slice x.1 keys.length x.2] :: fz (fun g => RdRow g 32 (.slice x.1 keys.length x.2) keys.length (keys.map hc).flatten) :: ringF rb keys :: l) := by
  refine GhE.mk fun F w hl => ?_
  have h1 := (Gh.fzAlso (Ψ := fun g => RdRing g rb keys) Pk.here (fun g h => h)).use hl
  obtain ⟨⟨a, c⟩, -, h2⟩ := (GhE.part (φ := fun _ : Option Addr × Nat => True) (Ψ := fun x g => CellsAt g rb 0 [.slice x.1 keys.length x.2] ∧ RdRow g 32 (.slice x.1 keys.length x.2) keys.length (keys.map hc).flatten) Pk.here (fun g h => by
    obtain ⟨v, h1, h2⟩ := h
    obtain ⟨h3, a, c, h4, h5⟩ := h2
    subst h4
    exact ⟨(a, c), trivial, h1, h3, a, c, rfl, h5⟩)).use h1
  exact ⟨(a, c), trivial, (Gh.trans (Gh.fz2 Pk.here) (Gh.toIcel Pk.here)).use h2⟩
theorem nodes_ok (rb : Nat) (keys : List Hash) : Trip Tryz.prog 49 [vp rb 0] [ringF rb keys] (fun r l => r = vi keys.length ∧ l = [ringF rb keys]) := by
  refine Trip.ghE ring_open ?_
  rintro ⟨a, c⟩ _
  refine Trip.of_body Tryz.func49 rfl Tryz.ntmps49 Tryz.results49 rfl ?_
  refine Wsr (Ls (Rdo.assign rfl) (Lnt (Wp.seq (Wsr (Ls (Rdo.move rfl) (Ls (Rdo.eqnil rfl rfl) (Lnt ?_)))))))
  refine Wp.condF rfl ?_
  refine Wp.skip (Thn.n (Wsr (Ls (Rdo.move rfl) (Ls (Rdo.nilCheck rfl) (Ls (Rdo.fieldAddr0 rfl) ?_)))))
  refine Ls (Rdo.load rfl Lds.ione0) ?_
  refine Ls (Rdo.lenSlice rfl) (Ls (Rdo.assign rfl) (Lnt (Wp.ret ?_)))
  refine Rt (ResV.tmp rfl ResV.nil) ⟨rfl, rfl⟩
theorem keys_cut {keys : List Hash} {i : Nat} {k : Hash} (h : keys[i]? = some k) : (keys.map hc).flatten = ((keys.take i).map hc).flatten ++ (hc k ++ ((keys.drop (i + 1)).map hc).flatten) := by
  obtain ⟨hi, he⟩ := List.getElem?_eq_some_iff.1 h
  conv => lhs; rw [← List.take_append_drop i keys, List.drop_eq_getElem_cons hi, he]
  simp
theorem keysC_len (keys : List Hash) : ((keys.map hc).flatten).length = keys.length * 32 := by
  induction keys with
  | nil => rfl
  | cons k keys ih => simp [ih]; omega
theorem key_bytes {g : FH} {b o n c i : Nat} {keys : List Hash} {k : Hash} (h : RdRow g 32 (.slice (some ⟨b, o, none⟩) n c) keys.length (keys.map hc).flatten) (hk : keys[i]? = some k) : RdBytes g (.slice (some ⟨b, o + i * 32, none⟩) 32 32) k.l := by
  obtain ⟨hi, he⟩ := List.getElem?_eq_some_iff.1 hk
  obtain ⟨_, a, c', h2, h3⟩ := h
  simp only [Value.slice.injEq] at h2
  obtain ⟨rfl, _, _⟩ := h2
  rcases h3 with h3 | ⟨b', o', h4, h5, -⟩
  · omega
  · simp only [Option.some.injEq, Addr.mk.injEq, and_true] at h4
    obtain ⟨rfl, rfl⟩ := h4
    rw [keys_cut hk] at h5
    have h6 := CellsAt.sub h5
    rw [keysC_len, List.length_take, Nat.min_eq_left (by omega)] at h6
    exact cells_bytes h6
theorem seal_ok (rb : Nat) (keys : List Hash) (i : Int) (v : Value) (p : List UInt8) (hl : p.length ≤ 1000000000) (hk : keys.length ≤ 10) :
    Trip Tryz.prog 86 [vp rb 0, vi i, v] [ringF rb keys, fz (fun g => RdBytes g v p)] (fun r l => r = .agg (hc (sealH keys i p)).toArray ∧ l = [ringF rb keys]) := by
  have s1 := nodes_ok rb keys
  by_cases h0 : i < 0
  · have hs : sealH keys i p = hash0 := by unfold sealH; rw [if_neg (by omega)]
    rw [hs]
    refine Trip.of_body Tryz.func86 rfl Tryz.ntmps86 Tryz.results86 rfl ?_
    refine Wsr ?_
    (refine WpL.step (Stp.alloc rfl ?_); intro nb2)
    refine Lnt (Wp.seq (Wsr (Ls (Rdo.move rfl) (Ls (Rdo.lti rfl rfl) (Ls (Rdo.move rfl) (Lg rfl rfl (Lp rfl rfl (Lp rfl rfl (Lp rfl rfl (Lp rfl rfl (Ls (Rdo.pick_t rfl rfl) (Lnt ?_))))))))))))
    refine Wp.condT rfl ?_
    refine Wsr (Ls (Rdo.bldArr0) ?_)
    refine WpL.step (St rfl rfl (VC.ag _) ?_)
    refine Lnt (Wp.ret ?_)
    refine Thn.r ?_
    refine Rt (ResV.cell rfl (by repeat (first | exact Lds.one rfl | (apply Lds.all; (first | rfl | assumption | (simp <;> fail))) | exact Lds.ione0 | exact Lds.ione rfl | (apply Lds.iall; (first | rfl | assumption | (simp <;> fail))) | apply Lds.next)) ResV.nil) ⟨rfl, rfl⟩
  · obtain ⟨j, rfl⟩ : ∃ j : Nat, i = j := ⟨i.toNat, by omega⟩
    by_cases h1 : (j : Int) ≥ keys.length
    · have hs : sealH keys j p = hash0 := by
        unfold sealH
        rw [if_pos (by omega), Int.toNat_natCast, List.getElem?_eq_none (by omega)]
      rw [hs]
      refine Trip.of_body Tryz.func86 rfl Tryz.ntmps86 Tryz.results86 rfl ?_
      refine Wsr ?_
      (refine WpL.step (Stp.alloc rfl ?_); intro nb2)
      refine Lnt (Wp.seq (Wsr (Ls (Rdo.move rfl) (Ls (Rdo.lti rfl rfl) (Ls (Rdo.move rfl) (Lw rfl rfl (Rdo.move rfl) (Lw rfl rfl (Rdo.move rfl) ?_)))))))
      refine WpL.want rfl rfl rfl (Sc (s1) rfl ?_)
      rintro _ _ ⟨rfl, rfl⟩
      refine Ll ?_
      refine Lw rfl rfl (Rdo.gei rfl rfl) (Ls (Rdo.pick_f rfl rfl) (Lnt (cK rfl (Wsr (Ls (Rdo.bldArr0) ?_)))))
      refine WpL.step (St rfl rfl (VC.ag _) ?_)
      refine Lnt (Wp.ret ?_)
      refine Thn.r ?_
      refine Rt (ResV.cell rfl (by repeat (first | exact Lds.one rfl | (apply Lds.all; (first | rfl | assumption | (simp <;> fail))) | exact Lds.ione0 | exact Lds.ione rfl | (apply Lds.iall; (first | rfl | assumption | (simp <;> fail))) | apply Lds.next)) ResV.nil) ⟨rfl, rfl⟩
    · obtain ⟨k, hkk⟩ : ∃ k, keys[j]? = some k := ⟨keys[j]'(by omega), List.getElem?_eq_getElem (by omega)⟩
      have hs : sealH keys j p = dMac k.l p := by
        unfold sealH
        rw [if_pos (by omega), Int.toNat_natCast, hkk]
      rw [hs]
      have hj : (j : Int) < keys.length := by omega
      refine Trip.ghE ring_open ?_
      rintro ⟨a, c⟩ _
      simp only
      refine Trip.get (Pk.next Pk.here) (row_some (by omega)) ?_
      rintro ⟨kb, ko, rfl⟩
      refine Trip.gh (Gh.fzAlso (Ψ := fun g => RdBytes g (.slice (some ⟨kb, ko + j * 32, none⟩) 32 32) k.l) (Pk.next Pk.here) (fun g h => key_bytes h hkk)) ?_
      have s2 := fun kv => mac_ok kv v k.l p (by rw [k.h]; omega) hl
      have hz := hc_length (dMac k.l p)
      generalize dMac k.l p = H at *
      refine Trip.of_body Tryz.func86 rfl Tryz.ntmps86 Tryz.results86 rfl ?_
      refine Wsr ?_
      (refine WpL.step (Stp.alloc rfl ?_); intro nb2)
      refine Lnt (Wp.seq (Wsr (Ls (Rdo.move rfl) (Ls (Rdo.lti rfl rfl) (Ls (Rdo.move rfl) (Lw rfl rfl (Rdo.move rfl) (Lw rfl rfl (Rdo.move rfl) ?_)))))))
      refine WpL.want rfl rfl rfl (Sc (s1) rfl ?_)
      rintro _ _ ⟨rfl, rfl⟩
      refine Ll ?_
      refine Lw rfl rfl (Rdo.gei rfl rfl) (Ls (Rdo.pick_f rfl rfl) (Lnt (cL rfl (Wp.skip (Thn.n (Wsr (Ls (Rdo.move rfl) (Ls (Rdo.nilCheck rfl) (Ls (Rdo.fieldAddr0 rfl) ?_)))))))))
      refine Ls (Rdo.load rfl (Lds.next (Lds.next (Lds.next (Lds.next Lds.ione0))))) ?_
      refine Ls (Rdo.move rfl) ?_
      refine Ls (Rdo.indexSlice rfl rfl (by omega)) ?_
      refine Ls (Rdo.slArr rfl) (Ls (Rdo.move rfl) ?_)
      refine WpL.step (Sc (s2 _) rfl ?_)
      rintro _ _ ⟨rfl, rfl⟩
      refine Ll ?_
      refine WpL.step (St rfl rfl (VC.ag _) ?_)
      refine Lnt (Wp.ret ?_)
      refine Rt (ResV.cell rfl (by repeat (first | exact Lds.one rfl | (apply Lds.all; (first | rfl | assumption | (simp <;> fail))) | exact Lds.ione0 | exact Lds.ione rfl | (apply Lds.iall; (first | rfl | assumption | (simp <;> fail))) | apply Lds.next)) ResV.nil) ⟨rfl, rfl⟩
end Go.Proofs.YtomijhgicennbaaGreat
namespace Go.Proofs.YtomijhgicennbaaGreat
open Go
set_option maxHeartbeats 4000000
set_option linter.unusedSimpArgs false
set_option linter.unusedVariables false
set_option maxRecDepth 20000
theorem check_ok (rb : Nat) (keys : List Hash) (i : Int) (v : Value) (p : List UInt8) (tag : Hash) (hl : p.length ≤ 1000000000) (hk : keys.length ≤ 10) :
    Trip Tryz.prog 89 [vp rb 0, vi i, v, .agg (hc tag).toArray] [ringF rb keys, fz (fun g => RdBytes g v p)] (fun r l => r = vb (sealOk keys i p tag) ∧ l = [ringF rb keys]) := by
  have s1 := nodes_ok rb keys
  have s2 := seal_ok rb keys i v p hl hk
  have hz := hc_length (sealH keys i p)
  by_cases h0 : 0 ≤ i
  · by_cases h1 : i < keys.length
    · have e : sealOk keys i p tag = decide (sealH keys i p = tag) := by unfold sealOk; simp [h0, h1]
      rw [e]
      generalize sealH keys i p = H at *
      have hd : (hc H = hc tag) ↔ H = tag := hc_iff
      refine Trip.of_body Tryz.func89 rfl Tryz.ntmps89 Tryz.results89 rfl ?_
      refine Wsr ?_
      (refine WpL.step (Stp.boxV rfl (VC.ag _) rfl ?_); intro nb2)
      refine Ls (Rdo.assign rfl) (Lnt (Wp.seq ?_))
      refine Wp.draw (by kernel_rfl) ?_
      refine Qt (i := 0) rfl (Rdo.move rfl) (Qt (i := 1) rfl (Rdo.gei rfl rfl) (Qt (i := 2) rfl (Rdo.move rfl) ?_))
      refine WpR.tT 11 rfl (by first | rfl | assumption | (simp only [decide_eq_true_eq, decide_eq_false_iff_not, Bool.not_eq_true', Bool.not_eq_false', List.length_cons, List.length_nil]; first | assumption | omega) | (simp <;> done) | (simp <;> omega)) ?_
      refine Qw (i := 3) rfl rfl rfl (Rdo.move rfl) (Qw (i := 4) rfl rfl rfl (Rdo.move rfl) ?_)
      refine WpR.oneG (i := 5) rfl rfl rfl rfl (by kernel_rfl) (Sc (s1) rfl ?_)
      rintro _ _ ⟨rfl, rfl⟩
      refine Ql ?_
      refine Qw (i := 6) rfl rfl rfl (Rdo.lti rfl rfl) (Qt (i := 7) rfl (Rdo.pick_t rfl rfl) (Qt (i := 8) rfl (Rdo.move rfl) ?_))
      refine WpR.tT 17 rfl (by first | rfl | assumption | (simp only [decide_eq_true_eq, decide_eq_false_iff_not, Bool.not_eq_true', Bool.not_eq_false', List.length_cons, List.length_nil]; first | assumption | omega) | (simp <;> done) | (simp <;> omega)) ?_
      refine Qw (i := 9) rfl rfl rfl (Rdo.move rfl) (Qw (i := 10) rfl rfl rfl (Rdo.move rfl) (Qw (i := 11) rfl rfl rfl (Rdo.move rfl) ?_))
      refine WpR.phaseL (m := 0) #[true, true, true, true, true, true, true, true, true, true, true, true, true, true, true, true, true] 5 _ rfl (by kernel_rfl) (Tk.cons (Pk.next Pk.here) Tk.nil) ?_
      refine Aw (i := 13) rfl rfl rfl (Rdo.load rfl Ld) ?_
      refine WpA.oneG (i := 12) rfl rfl rfl rfl (by kernel_rfl) (Sc (s2) rfl ?_)
      rintro _ _ ⟨rfl, rfl⟩
      refine WpA.lst (by simp only [List.cons_append, List.nil_append]; exact rfl) ?_
      refine Aw (i := 14) rfl rfl rfl (Rdo.eqagg rfl rfl (by first | rfl | exact oks_hc _ | exact oks_voteC _ | assumption) (by first | rfl | exact oks_hc _ | exact oks_voteC _ | assumption)) ?_
      refine At (i := 15) rfl (Rdo.pick_t rfl rfl) (At (i := 16) rfl (Rdo.assign rfl) ?_)
      refine WpA.stop (by kernel_rfl) ?_
      refine Ql ?_
      refine WpR.done (by kernel_rfl) ?_
      refine Thn.n (Wp.ret ?_)
      refine Rt (ResV.tmp rfl ResV.nil) ⟨(by first | rfl | (simp [packed] <;> done) | (simp_all [packed] <;> done)), rfl⟩
    · have e : sealOk keys i p tag = false := by unfold sealOk; simp [h1]
      rw [e]
      refine Trip.of_body Tryz.func89 rfl Tryz.ntmps89 Tryz.results89 rfl ?_
      refine Wsr ?_
      (refine WpL.step (Stp.boxV rfl (VC.ag _) rfl ?_); intro nb2)
      refine Ls (Rdo.assign rfl) (Lnt (Wp.seq ?_))
      refine Wp.draw (by kernel_rfl) ?_
      refine Qt (i := 0) rfl (Rdo.move rfl) (Qt (i := 1) rfl (Rdo.gei rfl rfl) (Qt (i := 2) rfl (Rdo.move rfl) ?_))
      refine WpR.tT 11 rfl (by first | rfl | assumption | (simp only [decide_eq_true_eq, decide_eq_false_iff_not, Bool.not_eq_true', Bool.not_eq_false', List.length_cons, List.length_nil]; first | assumption | omega) | (simp <;> done) | (simp <;> omega)) ?_
      refine Qw (i := 3) rfl rfl rfl (Rdo.move rfl) (Qw (i := 4) rfl rfl rfl (Rdo.move rfl) ?_)
      refine WpR.oneG (i := 5) rfl rfl rfl rfl (by kernel_rfl) (Sc (s1) rfl ?_)
      rintro _ _ ⟨rfl, rfl⟩
      refine Ql ?_
      refine Qw (i := 6) rfl rfl rfl (Rdo.lti rfl rfl) (Qt (i := 7) rfl (Rdo.pick_t rfl rfl) (Qt (i := 8) rfl (Rdo.move rfl) ?_))
      refine WpR.tF 17 rfl (by first | rfl | assumption | (simp only [decide_eq_true_eq, decide_eq_false_iff_not, Bool.not_eq_true', Bool.not_eq_false', List.length_cons, List.length_nil]; first | assumption | omega) | (simp <;> done) | (simp <;> omega)) ?_
      refine Qp (i := 9) rfl rfl rfl (Qp (i := 10) rfl rfl rfl (Qp (i := 11) rfl rfl rfl (Qp (i := 12) rfl rfl rfl (Qp (i := 13) rfl rfl rfl (Qp (i := 14) rfl rfl rfl (Qt (i := 15) rfl (Rdo.pick_f rfl rfl) (Qt (i := 16) rfl (Rdo.assign rfl) ?_)))))))
      refine WpR.done (by kernel_rfl) ?_
      refine Thn.n (Wp.ret ?_)
      refine Rt (ResV.tmp rfl ResV.nil) ⟨rfl, rfl⟩
  · have e : sealOk keys i p tag = false := by unfold sealOk; simp [h0]
    rw [e]
    refine Trip.of_body Tryz.func89 rfl Tryz.ntmps89 Tryz.results89 rfl ?_
    refine Wsr ?_
    (refine WpL.step (Stp.boxV rfl (VC.ag _) rfl ?_); intro nb2)
    refine Ls (Rdo.assign rfl) (Lnt (Wp.seq ?_))
    refine Wp.draw (by kernel_rfl) ?_
    refine Qt (i := 0) rfl (Rdo.move rfl) (Qt (i := 1) rfl (Rdo.gei rfl rfl) (Qt (i := 2) rfl (Rdo.move rfl) ?_))
    refine WpR.tF 11 rfl (by first | rfl | assumption | (simp only [decide_eq_true_eq, decide_eq_false_iff_not, Bool.not_eq_true', Bool.not_eq_false', List.length_cons, List.length_nil]; first | assumption | omega) | (simp <;> done) | (simp <;> omega)) ?_
    refine Qp (i := 3) rfl rfl rfl (Qp (i := 4) rfl rfl rfl (Qp (i := 5) rfl rfl rfl (Qp (i := 6) rfl rfl rfl (Qt (i := 7) rfl (Rdo.pick_f rfl rfl) (Qt (i := 8) rfl (Rdo.move rfl) (Qp (i := 9) rfl rfl rfl (Qp (i := 10) rfl rfl rfl (Qp (i := 11) rfl rfl rfl (Qp (i := 12) rfl rfl rfl (Qp (i := 13) rfl rfl rfl (Qp (i := 14) rfl rfl rfl (Qt (i := 15) rfl (Rdo.pick_f rfl rfl) (Qt (i := 16) rfl (Rdo.assign rfl) ?_)))))))))))))
    refine WpR.done (by kernel_rfl) ?_
    refine Thn.n (Wp.ret ?_)
    refine Rt (ResV.tmp rfl ResV.nil) ⟨rfl, rfl⟩
theorem faults_ok (n : Int) (hn : 0 ≤ n ∧ n ≤ 1000000) : Trip Tryz.prog 169 [vi n] [] (fun r l => r = vi ((max n 1 - 1) / 3) ∧ l = []) := by
  refine Trip.of_body Tryz.func169 rfl Tryz.ntmps169 Tryz.results169 rfl ?_
  refine Wsr (Ls (Rdo.assign rfl) (Lnt (Wsr (Ls (Rdo.move rfl) (Ls (Rdo.max rfl rfl) ?_)))))
  refine Ls (Rdo.sub64 rfl rfl (by omega)) ?_
  refine Ls (Rdo.quo rfl rfl (by omega)) ?_
  refine Ls (Rdo.assign rfl) (Lnt (Wp.ret ?_))
  have e : IntKind.i64.wrap (((if 1 > n then 1 else n) - 1).tdiv 3) = (max n 1 - 1) / 3 := by
    have h1 : (if 1 > n then 1 else n) = max n 1 := by split <;> omega
    rw [h1, Int.tdiv_eq_ediv_of_nonneg (by omega), wrap_in (by simp [IntKind.min, IntKind.signed, IntKind.bits]; omega) (by simp [IntKind.max, IntKind.signed, IntKind.bits]; omega)]
  rw [e]
  refine Rt (ResV.tmp rfl ResV.nil) ⟨rfl, rfl⟩
theorem quorum_ok (n : Nat) (hn : n ≤ 1000000) : Trip Tryz.prog 137 [vi n] [] (fun r l => r = vi (quorum n) ∧ l = []) := by
  have s1 := faults_ok n (by omega)
  have e : (n : Int) - (max (n : Int) 1 - 1) / 3 = quorum n := by unfold quorum; omega
  refine Trip.of_body Tryz.func137 rfl Tryz.ntmps137 Tryz.results137 rfl ?_
  refine Wsr (Ls (Rdo.assign rfl) (Lnt (Wsr (Ls (Rdo.move rfl) (Ls (Rdo.move rfl) ?_)))))
  refine WpL.step (Sc (s1) rfl ?_)
  rintro _ _ ⟨rfl, rfl⟩
  refine Ll ?_
  refine Ls (Rdo.subE rfl rfl (by assumption) (by omega)) ?_
  refine Ls (Rdo.assign rfl) (Lnt (Wp.ret ?_))
  refine Rt (ResV.tmp rfl ResV.nil) ⟨rfl, rfl⟩
theorem keysOf_len (n : Nat) (seed : Hash) : (keysOf n seed).length = n := by simp [keysOf]
theorem keysOf_succ (n : Nat) (seed : Hash) : keysOf (n + 1) seed = keysOf n seed ++ [dHash (seed.l ++ [UInt8.ofNat n])] := by simp [keysOf, List.range_succ]
abbrev newE (rb sb i : Nat) (N : Int) : Env := [(3, vp sb 0), (5, vp rb 0), (11, .int .i64 N), (12, vi i)]
theorem newRing_ok (n : Int) (seed : Hash) : Trip Tryz.prog 16 [vi n, .agg (hc seed).toArray] [] (fun r l => ∃ rb, r = vp rb 0 ∧ l = [ringF rb (keysOf (min (max n 1) 10).toNat seed)]) := by
  have hz := hc_length seed
  refine Trip.of_body Tryz.func16 rfl Tryz.ntmps16 Tryz.results16 rfl ?_
  refine Wsr ?_
  (refine WpL.step (Stp.boxV rfl (VC.ag _) rfl ?_); intro nb2)
  refine Ls (Rdo.assign rfl) (Lnt (Wsr (Ls (Rdo.bld rfl (BldL.nil _)) ?_)))
  (refine WpL.step (Stp.boxV rfl (VC.ag _) rfl ?_); intro nb9)
  refine Ls (Rdo.assign rfl) (Lnt (Wp.seq (Wsr (Ls (Rdo.move rfl) (Ls (Rdo.max rfl rfl) (Ls (Rdo.min rfl rfl) (Ls (Rdo.move rfl) (Lnt (Wp.block ?_)))))))))
  have e : (if 10 < if 1 > n then 1 else n then 10 else if 1 > n then 1 else n) = ((min (max n 1) 10).toNat : Int) := by split <;> split <;> omega
  rw [e]
  have hN : (min (max n 1) 10).toNat ≤ 10 := by omega
  generalize (min (max n 1) 10).toNat = N at *
  refine Wp.loopE (fun k e h => ∃ (i : Nat) (v : Value), i + k = N ∧ e = newE nb9 nb2 i N ∧ h = [rowA 28 32 v i ((keysOf i seed).map hc).flatten, cel nb9 103 [v], cel nb2 28 (hc seed)]) N
    (e0 := newE nb9 nb2 0 N) (l0 := [rowA 28 32 (.slice none 0 0) 0 ((keysOf 0 seed).map hc).flatten, cel nb9 103 [.slice none 0 0], cel nb2 28 (hc seed)]) (by repeat (first | exact trivial | refine ⟨rfl, ?_⟩)) (by repeat (first | exact trivial | refine ⟨rfl, ?_⟩)) ?_ ⟨0, _, by omega, rfl, rfl⟩ ?_
  · exact Gh.trans (Gh.nil 28 32) Gk
  rintro k e h ⟨i, v, hik, rfl, rfl⟩
  refine Wp.get Pk.here (fun r => rowA_shape) ?_
  rintro ⟨a, c, rfl⟩
  by_cases hi : i < N
  · have hi' : (i : Int) < N := by omega
    have hw : hc seed ++ [Value.int .u8 (IntKind.u8.wrap i)] = bytesC (seed.l ++ [UInt8.ofNat i]) := by
      rw [wrap8]
      simp only [hc, bytesC, List.map_append, List.map_cons, List.map_nil, u8c, UInt8.toNat_ofNat']
    have s1 : ∀ a c, Trip Tryz.prog 45 [.slice a (32 + 1) c] [rowA 5 1 (.slice a (32 + 1) c) (32 + 1) (hc seed ++ [.int .u8 (IntKind.u8.wrap i)])] (fun r l => r = .agg (hc (dHash (seed.l ++ [UInt8.ofNat i]))).toArray ∧ l = []) := by
      intro a c
      have hl : (seed.l ++ [UInt8.ofNat i]).length = 32 + 1 := by rw [List.length_append, seed.h]; rfl
      refine Trip.get Pk.here (fun r => rowA_cap8) ?_
      intro hcap
      rw [hw]
      rw [← hl] at hcap ⊢
      exact Trip.gh (Gh.ice Pk.here) (sumH_ok a c _ (by omega) hcap)
    have e2 : ((keysOf (i + 1) seed).map hc).flatten = ((keysOf i seed).map hc).flatten ++ hc (dHash (seed.l ++ [UInt8.ofNat i])) := by rw [keysOf_succ]; simp
    have hz2 := hc_length (dHash (seed.l ++ [UInt8.ofNat i]))
    have hz3 : (((keysOf i seed).map hc).flatten).length = i * 32 := by rw [keysC_len, keysOf_len]
    have ho := oneCells_hc (dHash (seed.l ++ [UInt8.ofNat i]))
    generalize dHash (seed.l ++ [UInt8.ofNat i]) = H at *
    refine Wsr (Ls (Rdo.lti rfl rfl) (Lnt (Wp.seq (cK rfl (Wp.skip (Thn.n (Wp.seq (Wp.block (Wsr (Ls (Rdo.move rfl) (Ls (Rdo.assign rfl) (Lnt ?_))))))))))))
    refine Wp.draw (by kernel_rfl) ?_
    refine Qt (i := 0) rfl (Rdo.move rfl) (Qt (i := 1) rfl (Rdo.move rfl) (Qt (i := 2) rfl (Rdo.nilCheck rfl) (Qt (i := 3) rfl (Rdo.fieldAddr0 rfl) (Qt (i := 5) rfl (Rdo.slArr rfl) (Qt (i := 6) rfl (Rdo.move rfl) (Qt (i := 7) rfl (Rdo.convInt rfl) ?_))))))
    refine WpR.phaseT (m := 1) #[true, true, true, true, true, true, true, true, true, true, true, true, true, true, true, false] 8 _ (by kernel_rfl) (Tk.cons (Pk.next Pk.here) Tk.nil) ?_
    refine At (i := 4) rfl (Rdo.load rfl (Lds.one rfl)) ?_
    (refine WpA.one (i := 8) rfl (by kernel_rfl) (Stp.sliceV rfl rfl (VCs.cons (VC.i _ _) (by first | rfl | assumption | (simp <;> done)) VCs.nil) (by simp only [List.cons_append, List.nil_append, List.append_nil]; exact rfl) rfl rfl ?_); intro nb27)
    (refine WpA.one (i := 9) rfl (by kernel_rfl) (Stp.appendNew rfl rfl (Src.next (Src.next (Src.cel (by first | rfl | (simp <;> done) | (simp <;> omega))))) (Src.cel (by first | rfl | (simp <;> done) | (simp <;> omega))) (by first | rfl | assumption | (simp <;> done) | (simp <;> omega)) (by first | rfl | assumption | (simp <;> done) | (simp <;> omega)) (by first | omega | (simp <;> omega)) (by first | omega | (simp <;> omega)) (by first | omega | (simp <;> omega)) rfl (by first | rfl | (simp <;> done)) ?_); intro na28 nc28)
    refine WpA.one (i := 10) rfl (by kernel_rfl) (Sc (s1 _ _) rfl ?_)
    rintro _ _ ⟨rfl, rfl⟩
    refine WpA.lst (by simp only [List.cons_append, List.nil_append]; exact rfl) ?_
    (refine WpA.one (i := 11) rfl (by kernel_rfl) (Stp.sliceV rfl rfl (VCs.cons (VC.ag _) (by first | rfl | assumption | (simp <;> done)) VCs.nil) (by simp only [List.cons_append, List.nil_append, List.append_nil]; exact rfl) rfl rfl ?_); intro nb32)
    (refine WpA.one (i := 12) rfl (by kernel_rfl) (Stp.appendP rfl rfl (Pk.next (Pk.next Pk.here)) (Src.cel (by first | rfl | (simp <;> done) | (simp <;> omega))) (by first | rfl | assumption | (simp <;> done) | (simp <;> omega)) (by first | assumption | exact oneCells1 rfl | exact oneCells1 (by assumption) | exact oneCells_bytesC _ | exact oneCells_votesC _ | (simp [oneCells, Value.oneCell'] <;> done)) (by first | omega | (simp <;> omega)) (by first | omega | (simp <;> omega)) rfl (by first | rfl | (simp <;> done)) ?_); intro na33 nc33)
    refine At (i := 13) rfl (Rdo.nilCheck rfl) (At (i := 14) rfl (Rdo.fieldAddr0 rfl) ?_)
    refine WpA.stop (by kernel_rfl) ?_
    refine Ql ?_
    refine Qo (i := 15) rfl (Stp.storeV rfl rfl (VC.sl _ _ _) rfl (Sp (oneCells1 rfl)) ?_)
    refine WpR.done (by kernel_rfl) ?_
    refine Blk.n (Thn.n (Wp.region ?_))
    refine Ls (Rdo.succ rfl rfl (by omega)) ?_
    refine Ls (Rdo.move rfl) (Lnt ?_)
    refine ⟨k - 1, _, _, by omega, ⟨i + 1, .slice na33 (i + 1) nc33, by omega, rfl, rfl⟩, (by repeat (first | exact trivial | refine ⟨rfl, ?_⟩)), ?_⟩
    rw [e2]
    exact Gk
  · obtain rfl : i = N := by omega
    refine Wsr (Ls (Rdo.lti rfl rfl) (Lnt (Wp.seq (cL rfl ?_))))
    refine Wp.exit ?_
    refine Thn.x ?_
    refine Thn.x ?_
    refine Blk.here ?_
    refine Thn.n (Wsr (Ls (Rdo.move rfl) (Ls (Rdo.assign rfl) (Lnt (Wp.ret ?_)))))
    refine Ret.now (ResV.tmp rfl ResV.nil) ?_ ⟨_, ⟨rfl, rfl⟩⟩
    have hk : (keysOf i seed).length = i := keysOf_len _ _
    refine Gh.trans (Gh.ice Pk.here) (Gh.trans (Gh.front (Pk.next Pk.here)) (Gh.trans (Gh.iceCel Pk.here) (Gh.trans (Gh.icelImp (Ψ := fun g => CellsAt g nb9 0 [.slice a i c]) Pk.here (fun g h => h)) (Gh.trans (Gh.fzAnd (CellsAt.mono _ _ _) (RdRow.mono _ _ _ _) Pk.here Pk.here) (Gh.trans (Gh.fzImp (Ψ := fun g => RdRing g nb9 (keysOf i seed)) Pk.here fun g h => ⟨_, h.1, by rw [hk]; exact h.2⟩) Gk)))))
end Go.Proofs.YtomijhgicennbaaGreat
namespace Go.Proofs.YtomijhgicennbaaGreat
open Go
set_option maxHeartbeats 4000000
set_option linter.unusedSimpArgs false
set_option linter.unusedVariables false
set_option maxRecDepth 20000
theorem wr00 {w : Nat} {l rest : List HP} (hp : Pk l (cel w 177 [.slice none 0 0]) rest) : Gh l (wrA w [] :: rest) :=
  Gh.trans (Gh.front hp) (Gh.trans (Gh.nil 5 1) (Gh.trans (Gh.perm (List.Perm.swap _ _ _)) (wrA_shut (a := none) (c := 0) (bs := []))))
theorem voteAll_len (v : Vote) : (voteAll v).length ≤ 100 := by
  have k1 := numsB_len [v.kind, v.slot, v.view]
  have k2 := numsB_len [v.from_]
  simp only [List.length_cons, List.length_nil] at k1 k2
  simp only [voteAll, voteB, List.length_append, v.sum.h, v.tag.h]
  omega
theorem votesAll_len (vs : List Vote) : ((vs.map voteAll).flatten).length ≤ 100 * vs.length := by
  induction vs with
  | nil => simp
  | cons v vs ih =>
    have := voteAll_len v
    simp only [List.map_cons, List.flatten_cons, List.length_append, List.length_cons]
    omega
theorem voteBody_ok (v : Vote) : Trip Tryz.prog 133 [.agg (voteC v).toArray] [] (fun r l => ∃ a c, r = .slice a (voteBody v).length c ∧ l = [fz (fun g => RdBytes g (.slice a (voteBody v).length c) (voteBody v))]) := by
  have h35 := voteC_from v
  have k1 := numsB_len [5, v.kind, v.slot, v.view]
  have k2 := numsB_len [v.from_]
  simp only [List.length_cons, List.length_nil] at k1 k2
  have hbl : (voteBody v).length ≤ 100 := by simp only [voteBody, List.length_append, v.sum.h]; omega
  have n1 : ∀ wb nb, Trip Tryz.prog 123 [vp wb 0, .slice (some ⟨nb, 0, none⟩) 4 4] [wrA wb [], cel nb 3 [vi 5, vi v.kind, vi v.slot, vi v.view]] (fun r l => r = .tuple #[] ∧ l = [wrA wb (numsB [5, v.kind, v.slot, v.view])]) := fun wb nb => nums_ok wb nb [] [5, v.kind, v.slot, v.view] (by simp)
  have n2 : ∀ wb cb, Trip Tryz.prog 129 [vp wb 0, .slice (some ⟨cb, 3, none⟩) 32 32] [cel cb 44 (voteC v), wrA wb (numsB [5, v.kind, v.slot, v.view])] (fun r l => r = .tuple #[] ∧ l = [cel cb 44 (voteC v), wrA wb (numsB [5, v.kind, v.slot, v.view] ++ v.sum.l)]) := fun wb cb => by
    rw [voteC_sum_]
    exact raw_cel wb _ cb 3 44 [vi v.kind, vi v.slot, vi v.view] ([vi v.from_] ++ hc v.tag) v.sum rfl (by omega)
  have n3 : ∀ wb nb, Trip Tryz.prog 123 [vp wb 0, .slice (some ⟨nb, 0, none⟩) 1 1] [wrA wb (numsB [5, v.kind, v.slot, v.view] ++ v.sum.l), cel nb 3 [vi v.from_]] (fun r l => r = .tuple #[] ∧ l = [wrA wb (voteBody v)]) := fun wb nb => nums_ok wb nb _ [v.from_] (by simp only [List.length_append, v.sum.h, List.length_cons, List.length_nil]; omega)
  have n4 := fun wb => out_ok wb (voteBody v) (by omega)
  generalize voteBody v = B at *
  refine Trip.of_body Tryz.func133 rfl Tryz.ntmps133 Tryz.results133 rfl ?_
  refine Wsr ?_
  (refine WpL.step (Stp.boxV rfl (VC.ag _) rfl ?_); intro nb2)
  refine Ls (Rdo.assign rfl) (Lnt (Wsr ?_))
  (refine WpL.step (Stp.alloc rfl ?_); intro nb8)
  refine Lnt (Wsr (Ls (Rdo.fieldAddr0 rfl) (Ls (Rdo.load rfl (Lds.next (Lds.one rfl))) (Ls (Rdo.fieldAddr0 rfl) (Ls (Rdo.load rfl (Lds.next (Lds.one rfl))) (Ls (Rdo.fieldAddr0 rfl) (Ls (Rdo.load rfl (Lds.next (Lds.one rfl))) ?_)))))))
  (refine WpL.step (Stp.sliceV rfl rfl (VCs.cons (VC.i _ _) (by first | rfl | assumption | (simp <;> done)) (VCs.cons (VC.i _ _) (by first | rfl | assumption | (simp <;> done)) (VCs.cons (VC.i _ _) (by first | rfl | assumption | (simp <;> done)) (VCs.cons (VC.i _ _) (by first | rfl | assumption | (simp <;> done)) VCs.nil)))) (by simp only [List.cons_append, List.nil_append, List.append_nil]; exact rfl) rfl rfl ?_); intro nb19)
  refine WpL.gh (wr00 (by repeat (first | exact Pk.here | apply Pk.next))) ?_
  refine WpL.step (Sc (n1 _ _) rfl ?_)
  rintro _ _ ⟨rfl, rfl⟩
  refine Ll ?_
  refine Lnt (Wsr (Ls (Rdo.fieldAddr0 rfl) (Ls (Rdo.slArr rfl) ?_)))
  refine WpL.step (Sc (n2 _ _) rfl ?_)
  rintro _ _ ⟨rfl, rfl⟩
  refine Ll ?_
  refine Lnt (Wsr (Ls (Rdo.fieldAddr0 rfl) ?_))
  refine Ls (Rdo.load rfl (Lds.one (by assumption))) ?_
  (refine WpL.step (Stp.sliceV rfl rfl (VCs.cons (VC.i _ _) (by first | rfl | assumption | (simp <;> done)) VCs.nil) (by simp only [List.cons_append, List.nil_append, List.append_nil]; exact rfl) rfl rfl ?_); intro nb18)
  refine WpL.step (Sc (n3 _ _) rfl ?_)
  rintro _ _ ⟨rfl, rfl⟩
  refine Ll ?_
  refine Lnt (Wsr ?_)
  refine WpL.step (Sc (n4 _) rfl ?_)
  rintro _ _ ⟨v27_0, ⟨v27_1, ⟨rfl, rfl⟩⟩⟩
  refine Ll ?_
  refine Ls (Rdo.assign rfl) (Lnt (Wp.ret ?_))
  refine Rt (ResV.tmp rfl ResV.nil) ⟨_, ⟨_, ⟨rfl, rfl⟩⟩⟩
abbrev rvE (wb : Nat) (lv : Value) (n i : Nat) : Env := [(0, vp wb 0), (1, .func (.func 126) #[] #[]), (13, lv), (14, vi n), (15, vi i)]
theorem rowVotes_ok (wb : Nat) (bs : List UInt8) (lv : Value) (vs : List Vote) (hl : bs.length ≤ 1000000) (hv : vs.length ≤ 10000) :
    Trip Tryz.prog 125 [vp wb 0, .func (.func 126) #[] #[], lv] [wrA wb bs, fz (fun g => RdVotes g lv vs)]
      (fun r l => r = .tuple #[] ∧ l = [wrA wb (bs ++ votesB vs), fz (fun g => RdVotes g lv vs)]) := by
  refine Trip.get (Pk.next Pk.here) shape_votes ?_
  rintro ⟨a, c, rfl⟩
  have hx9 : (numB vs.length).length ≤ 9 := numB_len 8 _ (by omega)
  have s1 : ∀ nb', Trip Tryz.prog 123 [vp wb 0, .slice (some ⟨nb', 0, none⟩) 1 1] [wrA wb bs, cel nb' 3 [vi vs.length]] (fun r l => r = .tuple #[] ∧ l = [wrA wb (bs ++ numB vs.length)]) := by
    intro nb'
    have h := nums_ok wb nb' bs [(vs.length : Int)] (by simp; omega)
    rw [numsB_one _ (by omega)] at h
    exact h
  refine Trip.of_body Tryz.func125 rfl Tryz.ntmps125 Tryz.results125 rfl ?_
  refine Wsr (Ls (Rdo.move rfl) (Ls (Rdo.move rfl) (Ls (Rdo.lenSlice rfl) ?_)))
  (refine WpL.step (Stp.sliceV rfl rfl (VCs.cons (VC.i _ _) (by first | rfl | assumption | (simp <;> done)) VCs.nil) (by simp only [List.cons_append, List.nil_append, List.append_nil]; exact rfl) rfl rfl ?_); intro nb5)
  refine WpL.step (Sc (s1 _) rfl ?_)
  rintro _ _ ⟨rfl, rfl⟩
  refine Ll ?_
  refine Lnt (Wsr (Ls (Rdo.move rfl) (Ls (Rdo.lenSlice rfl) (Ls (Rdo.move rfl) (Lnt (Wp.block ?_))))))
  refine Wp.loopE (fun k e h => ∃ i : Nat, i + k = vs.length ∧ e = rvE wb (.slice a vs.length c) vs.length i ∧ h = [wrA wb (bs ++ numB vs.length ++ ((vs.take i).map voteAll).flatten), fz (fun g => RdVotes g (.slice a vs.length c) vs)]) vs.length
    (e0 := rvE wb (.slice a vs.length c) vs.length 0) (l0 := [wrA wb (bs ++ numB vs.length ++ ((vs.take 0).map voteAll).flatten), fz (fun g => RdVotes g (.slice a vs.length c) vs)]) (by repeat (first | exact trivial | refine ⟨rfl, ?_⟩)) (by repeat (first | exact trivial | refine ⟨rfl, ?_⟩)) (by simp only [List.take_zero, List.map_nil, List.flatten_nil, List.append_nil]; exact Gk) ⟨0, by omega, rfl, rfl⟩ ?_
  rintro k e h ⟨i, hik, rfl, rfl⟩
  have hal := votesAll_len (vs.take i)
  rw [List.length_take] at hal
  by_cases hi : i < vs.length
  · have hi' : (i : Int) < vs.length := by omega
    have hM : vs[i]? = some vs[i] := List.getElem?_eq_getElem hi
    have cx := votes_cut hM
    have lx : (votesC (vs.take i)).length = i * 68 := by simp; omega
    have lx2 := voteC_length vs[i]
    have htk : ((vs.take (i + 1)).map voteAll).flatten = ((vs.take i).map voteAll).flatten ++ voteAll vs[i] := by
      rw [List.take_add_one, hM, Option.toList_some, List.map_append, List.flatten_append]; simp
    generalize vs[i] = x at *
    refine Wp.get (Pk.next Pk.here) (row_some (by omega)) ?_
    rintro ⟨b1, o1, rfl⟩
    have s2 := layVote_ok wb (bs ++ numB vs.length ++ ((vs.take i).map voteAll).flatten) x (by simp only [List.length_append]; omega)
    have e2 : bs ++ numB vs.length ++ ((vs.take i).map voteAll).flatten ++ voteAll x = bs ++ numB vs.length ++ ((vs.take (i + 1)).map voteAll).flatten := by rw [htk, ← List.append_assoc]
    rw [e2] at s2
    refine Wsr (Ls (Rdo.lti rfl rfl) (Lnt (Wp.seq (cK rfl (Wp.skip (Thn.n (Wp.seq (Wp.block (Wsr ?_)))))))))
    refine Ls (Rdo.indexSlice rfl rfl (by omega)) ?_
    refine Ls (Rdo.load rfl (Lds.next (Lds.fzN (by assumption) (by first | assumption | omega | (simp <;> omega)) (by first | assumption | rfl)))) ?_
    (refine WpL.step (Stp.alloc rfl ?_); intro nb15)
    refine WpL.step (St rfl rfl (VC.ag _) ?_)
    refine Lnt (Wp.region (Ls (Rdo.move rfl) (Ls (Rdo.move rfl) ?_)))
    refine Ls (Rdo.load rfl Ld) ?_
    refine WpL.step (Stp.callv rfl (by kernel_rfl) rfl (s2) (by repeat (first | exact Tk.nil | apply Tk.cons (by repeat (first | exact Pk.here | apply Pk.next)))) rfl ?_)
    rintro _ _ ⟨rfl, rfl⟩
    refine Ll ?_
    refine WpL.nil (Blk.n (Thn.n (Wp.region ?_)))
    refine Ls (Rdo.succ rfl rfl (by omega)) ?_
    refine Ls (Rdo.move rfl) (Lnt ?_)
    exact ⟨k - 1, _, _, by omega, ⟨i + 1, by omega, rfl, rfl⟩, (by repeat (first | exact trivial | refine ⟨rfl, ?_⟩)), Gk⟩
  · have hall : vs.take i = vs := List.take_of_length_le (by omega)
    have hB : bs ++ numB vs.length ++ ((vs.take i).map voteAll).flatten = bs ++ votesB vs := by rw [hall, votesB, List.append_assoc]
    rw [hB]
    refine Wsr (Ls (Rdo.lti rfl rfl) (Lnt (Wp.seq (cL rfl ?_))))
    refine Wp.exit ?_
    refine Thn.x ?_
    refine Thn.x ?_
    refine Blk.here ?_
    refine Ret.end_ ResV.nil Gk ⟨rfl, rfl⟩
end Go.Proofs.YtomijhgicennbaaGreat
namespace Go.Proofs.YtomijhgicennbaaGreat
open Go
set_option maxHeartbeats 4000000
set_option linter.unusedSimpArgs false
set_option linter.unusedVariables false
set_option maxRecDepth 20000
theorem voteBody_len (v : Vote) : (voteBody v).length ≤ 1000 := by
  have h1 := numsB_len [5, v.kind, v.slot, v.view]
  have h2 := numsB_len [v.from_]
  simp only [List.length_cons, List.length_nil] at h1 h2
  simp only [voteBody, List.length_append, v.sum.h]
  omega
theorem valueSum_ok (a : Option Addr) (c : Nat) (bs : List UInt8) (hl : bs.length ≤ 1000000000000) (hc_ : bs.length ≤ c) :
    Trip Tryz.prog 94 [.slice a bs.length c] [fz (fun g => RdBytes g (.slice a bs.length c) bs)] (fun r l => r = .agg (hc (dHash bs)).toArray ∧ l = []) := by
  have s1 := sumH_ok a c bs hl hc_
  have hz := hc_length (dHash bs)
  generalize dHash bs = H at *
  refine Trip.of_body Tryz.func94 rfl Tryz.ntmps94 Tryz.results94 rfl ?_
  refine Wsr ?_
  (refine WpL.step (Stp.alloc rfl ?_); intro nb2)
  refine Lnt (Wsr (Ls (Rdo.move rfl) ?_))
  refine WpL.step (Sc (s1) rfl ?_)
  rintro _ _ ⟨rfl, rfl⟩
  refine Ll ?_
  refine WpL.step (St rfl rfl (VC.ag _) ?_)
  refine Lnt (Wp.ret ?_)
  refine Rt (ResV.cell rfl (by repeat (first | exact Lds.one rfl | (apply Lds.all; (first | rfl | assumption | (simp <;> fail))) | exact Lds.ione0 | exact Lds.ione rfl | (apply Lds.iall; (first | rfl | assumption | (simp <;> fail))) | apply Lds.next)) ResV.nil) ⟨rfl, rfl⟩
theorem cast_ok (rb : Nat) (keys : List Hash) (kind slot view : Int) (sum : Hash) (from_ : Int) (hk : keys.length ≤ 10) :
    Trip Tryz.prog 155 [vp rb 0, vi kind, vi slot, vi view, .agg (hc sum).toArray, vi from_] [ringF rb keys] (fun r l => r = .agg (voteC (castV keys kind slot view sum from_)).toArray ∧ l = [ringF rb keys]) := by
  have s1 : Trip Tryz.prog 133 [.agg ([vi kind, vi slot, vi view] ++ (hc sum ++ (vi from_ :: List.replicate 32 (.int .u8 0)))).toArray] [] _ := voteBody_ok ⟨kind, slot, view, sum, from_, hash0⟩
  have s2 := fun v => seal_ok rb keys from_ v (voteBody ⟨kind, slot, view, sum, from_, hash0⟩) (by have := voteBody_len ⟨kind, slot, view, sum, from_, hash0⟩; omega) hk
  have hz := hc_length sum
  have hz2 := hc_length (sealH keys from_ (voteBody ⟨kind, slot, view, sum, from_, hash0⟩))
  unfold castV
  simp only [voteC]
  generalize sealH keys from_ (voteBody ⟨kind, slot, view, sum, from_, hash0⟩) = H at *
  refine Trip.of_body Tryz.func155 rfl Tryz.ntmps155 Tryz.results155 rfl ?_
  refine Wsr ?_
  (refine WpL.step (Stp.boxV rfl (VC.ag _) rfl ?_); intro nb2)
  (refine WpL.step (Stp.alloc rfl ?_); intro nb3)
  refine Lnt (Wsr (Ls (Rdo.move rfl) (Ls (Rdo.move rfl) (Ls (Rdo.move rfl) ?_))))
  refine Ls (Rdo.load rfl (Lds.next Ld)) ?_
  refine Ls (Rdo.move rfl) ?_
  refine Ls (Rdo.bld rfl (BldL.cons rfl (VC.i _ _) (by first | rfl | assumption | (simp <;> done)) (by repeat (first | exact LPut.nil _ | (refine LPut.seg ?_; first | assumption | (simp <;> done)) | (refine LPut.segEnd ?_; first | assumption | (simp <;> done)) | (with_reducible apply LPut.here) | apply LPut.hereL | apply LPut.here | (apply LPut.over32; focus (first | assumption | (simp <;> done))) | (with_reducible apply LPut.next) | apply LPut.nextL | apply LPut.next)) (BldL.cons rfl (VC.i _ _) (by first | rfl | assumption | (simp <;> done)) (by repeat (first | exact LPut.nil _ | (refine LPut.seg ?_; first | assumption | (simp <;> done)) | (refine LPut.segEnd ?_; first | assumption | (simp <;> done)) | (with_reducible apply LPut.here) | apply LPut.hereL | apply LPut.here | (apply LPut.over32; focus (first | assumption | (simp <;> done))) | (with_reducible apply LPut.next) | apply LPut.nextL | apply LPut.next)) (BldL.cons rfl (VC.i _ _) (by first | rfl | assumption | (simp <;> done)) (by repeat (first | exact LPut.nil _ | (refine LPut.seg ?_; first | assumption | (simp <;> done)) | (refine LPut.segEnd ?_; first | assumption | (simp <;> done)) | (with_reducible apply LPut.here) | apply LPut.hereL | apply LPut.here | (apply LPut.over32; focus (first | assumption | (simp <;> done))) | (with_reducible apply LPut.next) | apply LPut.nextL | apply LPut.next)) (BldL.cons rfl (VC.ag _) (by first | rfl | assumption | (simp <;> done)) (by repeat (first | exact LPut.nil _ | (refine LPut.seg ?_; first | assumption | (simp <;> done)) | (refine LPut.segEnd ?_; first | assumption | (simp <;> done)) | (with_reducible apply LPut.here) | apply LPut.hereL | apply LPut.here | (apply LPut.over32; focus (first | assumption | (simp <;> done))) | (with_reducible apply LPut.next) | apply LPut.nextL | apply LPut.next)) (BldL.cons rfl (VC.i _ _) (by first | rfl | assumption | (simp <;> done)) (by repeat (first | exact LPut.nil _ | (refine LPut.seg ?_; first | assumption | (simp <;> done)) | (refine LPut.segEnd ?_; first | assumption | (simp <;> done)) | (with_reducible apply LPut.here) | apply LPut.hereL | apply LPut.here | (apply LPut.over32; focus (first | assumption | (simp <;> done))) | (with_reducible apply LPut.next) | apply LPut.nextL | apply LPut.next)) (BldL.nil _))))))) ?_
  (refine WpL.step (Stp.alloc rfl ?_); intro nb14)
  refine WpL.step (St rfl rfl (VC.ag _) ?_)
  refine Lnt (Wsr (Ls (Rdo.move rfl) (Ls (Rdo.move rfl) ?_)))
  refine Ls (Rdo.load rfl Ld) ?_
  refine WpL.step (Sc (s1) rfl ?_)
  rintro _ _ ⟨v24_0, ⟨v24_1, ⟨rfl, rfl⟩⟩⟩
  refine Ll ?_
  refine WpL.step (Sc (s2 _) rfl ?_)
  rintro _ _ ⟨rfl, rfl⟩
  refine Ll ?_
  refine Ls (Rdo.fieldAddr0 rfl) ?_
  refine WpL.step (St rfl rfl (VC.ag _) ?_)
  refine Lnt (Wsr ?_)
  refine Ls (Rdo.load rfl (Lds.next Ld)) ?_
  refine WpL.step (St rfl rfl (VC.ag _) ?_)
  refine Lnt (Wp.ret ?_)
  refine Rt (ResV.cell rfl (by repeat (first | exact Lds.one rfl | (apply Lds.all; (first | rfl | assumption | (simp <;> fail))) | exact Lds.ione0 | exact Lds.ione rfl | (apply Lds.iall; (first | rfl | assumption | (simp <;> fail))) | apply Lds.next)) ResV.nil) ⟨rfl, rfl⟩
theorem good_ok (rb : Nat) (keys : List Hash) (v : Vote) (hk : keys.length ≤ 10) :
    Trip Tryz.prog 91 [vp rb 0, .agg (voteC v).toArray] [ringF rb keys] (fun r l => r = vb (goodV keys v) ∧ l = [ringF rb keys]) := by
  have s1 := voteBody_ok v
  have s2 := fun x => check_ok rb keys v.from_ x (voteBody v) v.tag (by have := voteBody_len v; omega) hk
  unfold goodV
  have h35 := voteC_from v
  have hz := hc_length v.tag
  refine Trip.of_body Tryz.func91 rfl Tryz.ntmps91 Tryz.results91 rfl ?_
  refine Wsr ?_
  (refine WpL.step (Stp.boxV rfl (VC.ag _) rfl ?_); intro nb2)
  refine Ls (Rdo.assign rfl) (Lnt (Wp.seq ?_))
  refine Wp.draw (by kernel_rfl) ?_
  refine Qt (i := 0) rfl (Rdo.move rfl) (Qt (i := 1) rfl (Rdo.fieldAddr0 rfl) (Qt (i := 5) rfl (Rdo.fieldAddr0 rfl) ?_))
  refine WpR.phaseL (m := 0) #[true, true, true, true, true, true, true, true, true] 6 _ rfl (by kernel_rfl) (Tk.cons Pk.here Tk.nil) ?_
  refine At (i := 2) rfl (Rdo.load rfl (Lds.one (by assumption))) ?_
  refine At (i := 3) rfl (Rdo.load rfl Ld) ?_
  refine At (i := 6) rfl (Rdo.load rfl (Lds.part voteC_tag (by first | rfl | assumption | (simp <;> done)) (by first | rfl | assumption | (simp <;> done)))) ?_
  refine WpA.one (i := 4) rfl (by kernel_rfl) (Sc (s1) rfl ?_)
  rintro _ _ ⟨v16_0, ⟨v16_1, ⟨rfl, rfl⟩⟩⟩
  refine WpA.lst (by simp only [List.cons_append, List.nil_append]; exact rfl) ?_
  refine WpA.one (i := 7) rfl (by kernel_rfl) (Sc (s2 _) rfl ?_)
  rintro _ _ ⟨rfl, rfl⟩
  refine WpA.lst (by simp only [List.cons_append, List.nil_append]; exact rfl) ?_
  refine At (i := 8) rfl (Rdo.assign rfl) ?_
  refine WpA.stop (by kernel_rfl) ?_
  refine Ql ?_
  refine WpR.done (by kernel_rfl) ?_
  refine Thn.n (Wp.ret ?_)
  refine Rt (ResV.tmp rfl ResV.nil) ⟨rfl, rfl⟩
end Go.Proofs.YtomijhgicennbaaGreat
namespace Go.Proofs.YtomijhgicennbaaGreat
open Go
set_option maxHeartbeats 4000000
set_option linter.unusedSimpArgs false
set_option linter.unusedVariables false
set_option maxRecDepth 20000
abbrev ciE (v : Value) (n : Nat) (x : Int) (i : Nat) : Env := [(1, vi x), (0, v), (6, v), (7, vi n), (8, vi i)]
theorem indexInt_ok (v : Value) (xs : List Int) (x : Int) (hn : xs.length ≤ 1000000) : Trip Tryz.prog 187 [v, vi x] [rowA 3 1 v xs.length (xs.map vi)]
    (fun r l => ∃ z : {z : Int // 0 ≤ z ↔ x ∈ xs}, r = vi z.1 ∧ l = [rowA 3 1 v xs.length (xs.map vi)]) := by
  refine Trip.get Pk.here (fun r => rowA_shape) ?_
  rintro ⟨a, c, rfl⟩
  refine Trip.of_body Tryz.func187 rfl Tryz.ntmps187 Tryz.results187 rfl ?_
  refine Wsr (Ls (Rdo.assign rfl) (Lnt (Wp.seq (Wsr (Ls (Rdo.move rfl) (Ls (Rdo.lenSlice rfl) (Ls (Rdo.move rfl) (Lnt (Wp.block ?_)))))))))
  refine Wp.loopE (fun k e h => ∃ i : Nat, i + k = xs.length ∧ x ∉ xs.take i ∧ e = ciE (.slice a xs.length c) xs.length x i ∧ h = [rowA 3 1 (.slice a xs.length c) xs.length (xs.map vi)]) xs.length
    (e0 := ciE (.slice a xs.length c) xs.length x 0) (l0 := [rowA 3 1 (.slice a xs.length c) xs.length (xs.map vi)]) (by repeat (first | exact trivial | refine ⟨rfl, ?_⟩)) (by repeat (first | exact trivial | refine ⟨rfl, ?_⟩)) Gk ⟨0, by omega, by simp, rfl, rfl⟩ ?_
  rintro k e h ⟨i, hik, hno, rfl, rfl⟩
  by_cases hi : i < xs.length
  · have hi' : (i : Int) < xs.length := by omega
    refine Wp.get Pk.here (fun r => rowA_at i hi) ?_
    rintro ⟨bb, oo, cap, he⟩
    simp only [Value.slice.injEq, true_and] at he
    obtain ⟨rfl, rfl⟩ := he
    have hat : xs[i]? = some xs[i] := List.getElem?_eq_getElem hi
    have hmem : xs[i] ∈ xs := List.getElem_mem hi
    have htk := List.take_succ_eq_append_getElem hi
    generalize xs[i] = y at *
    have hat' : (xs.map vi)[i]? = some (vi y) := by rw [List.getElem?_map, hat]; rfl
    by_cases hxy : x = y
    · refine Wsr (Ls (Rdo.lti rfl rfl) (Lnt (Wp.seq (cK rfl (Wp.skip (Thn.n (Wp.seq (Wp.block (Wsr (Ls (Rdo.move rfl) (Ls (Rdo.assign rfl) (Lnt (Wsr ?_)))))))))))))
      refine Ls (Rdo.move rfl) (Ls (Rdo.move rfl) (Ls (Rdo.move rfl) ?_))
      refine Ls (Rdo.indexSlice rfl rfl (by omega)) ?_
      refine Ls (Rdo.load rfl (Lds.row1 (by assumption))) ?_
      refine Ls (Rdo.eqi rfl rfl) (Lnt (cK rfl (Wsr (Ls (Rdo.move rfl) (Ls (Rdo.assign rfl) (Lnt (Wp.ret ?_)))))))
      refine Blk.r ?_
      refine Thn.r ?_
      refine Thn.r ?_
      refine Blk.r ?_
      refine Thn.r ?_
      exact Rt (by repeat (first | exact ResV.nil | apply ResV.tmp rfl | apply ResV.cell rfl (by repeat (first | exact Lds.one rfl | (apply Lds.all; (first | rfl | assumption | (simp <;> fail))) | exact Lds.ione0 | exact Lds.ione rfl | (apply Lds.iall; (first | rfl | assumption | (simp <;> fail))) | apply Lds.next)))) ⟨⟨i, by constructor; (intro _; rw [hxy]; exact hmem); (intro _; omega)⟩, rfl, rfl⟩
    · refine Wsr (Ls (Rdo.lti rfl rfl) (Lnt (Wp.seq (cK rfl (Wp.skip (Thn.n (Wp.seq (Wp.block (Wsr (Ls (Rdo.move rfl) (Ls (Rdo.assign rfl) (Lnt (Wsr ?_)))))))))))))
      refine Ls (Rdo.move rfl) (Ls (Rdo.move rfl) (Ls (Rdo.move rfl) ?_))
      refine Ls (Rdo.indexSlice rfl rfl (by omega)) ?_
      refine Ls (Rdo.load rfl (Lds.row1 (by assumption))) ?_
      refine Ls (Rdo.eqi rfl rfl) (Lnt (cL rfl (Wp.skip (Blk.n (Thn.n (Wp.region ?_))))))
      refine Ls (Rdo.succ rfl rfl (by omega)) ?_
      refine Ls (Rdo.move rfl) (Lnt ?_)
      exact ⟨k - 1, _, _, by omega, ⟨i + 1, by omega, by rw [htk, List.mem_append, List.mem_singleton]; rintro (h | h); exact hno h; exact hxy h, rfl, rfl⟩, (by repeat (first | exact trivial | refine ⟨rfl, ?_⟩)), Gk⟩
  · obtain rfl : i = xs.length := by omega
    refine Wsr (Ls (Rdo.lti rfl rfl) (Lnt (Wp.seq (cL rfl ?_))))
    refine Wp.exit ?_
    refine Thn.x ?_
    refine Thn.x ?_
    refine Blk.here ?_
    refine Thn.n (Wsr (Ls (Rdo.assign rfl) (Lnt (Wp.ret ?_))))
    rw [List.take_length] at hno
    exact Rt (by repeat (first | exact ResV.nil | apply ResV.tmp rfl | apply ResV.cell rfl (by repeat (first | exact Lds.one rfl | (apply Lds.all; (first | rfl | assumption | (simp <;> fail))) | exact Lds.ione0 | exact Lds.ione rfl | (apply Lds.iall; (first | rfl | assumption | (simp <;> fail))) | apply Lds.next)))) ⟨⟨-1, by constructor; (intro h; omega); (intro h; exact absurd h hno)⟩, rfl, rfl⟩
theorem containsInt_ok (v : Value) (xs : List Int) (x : Int) (hn : xs.length ≤ 1000000) : Trip Tryz.prog 167 [v, vi x] [rowA 3 1 v xs.length (xs.map vi)]
    (fun r l => r = vb (decide (x ∈ xs)) ∧ l = [rowA 3 1 v xs.length (xs.map vi)]) := by
  have s1 := indexInt_ok v xs x hn
  refine Trip.of_body Tryz.func167 rfl Tryz.ntmps167 Tryz.results167 rfl ?_
  refine Wsr (Ls (Rdo.assign rfl) (Lnt (Wsr (Ls (Rdo.move rfl) (Ls (Rdo.move rfl) ?_)))))
  refine WpL.step (Sc (s1) rfl ?_)
  rintro _ _ ⟨v10_0, ⟨rfl, rfl⟩⟩
  refine Ll ?_
  refine Ls (Rdo.gei rfl rfl) (Ls (Rdo.assign rfl) (Lnt (Wp.ret ?_)))
  have e : decide (0 ≤ v10_0.1) = decide (x ∈ xs) := decide_eq_decide.2 v10_0.2
  exact Rt (by repeat (first | exact ResV.nil | apply ResV.tmp rfl | apply ResV.cell rfl (by repeat (first | exact Lds.one rfl | (apply Lds.all; (first | rfl | assumption | (simp <;> fail))) | exact Lds.ione0 | exact Lds.ione rfl | (apply Lds.iall; (first | rfl | assumption | (simp <;> fail))) | apply Lds.next)))) ⟨by rw [← e]; rfl, rfl⟩
abbrev onL (rb : Nat) (lv : Value) (kind slot view : Int) (sum : Hash) (c1 c2 c3 c4 c5 c6 : Nat) : List HP :=
  [cel c1 32 [lv], cel c2 3 [vi kind], cel c3 3 [vi slot], cel c4 3 [vi view], cel c5 28 (hc sum), cel c6 25 [vp rb 0]]
theorem on_ok (rb : Nat) (a : Option Addr) (n c : Nat) (kind slot view : Int) (sum : Hash) : Trip Tryz.prog 166 [vp rb 0, .slice a n c, vi kind, vi slot, vi view, .agg (hc sum).toArray] []
    (fun r l => ∃ c1 c2 c3 c4 c5 c6, r = .func (.func 186) #[] [vp c1 0, vp c2 0, vp c3 0, vp c4 0, vp c5 0, vp c6 0].toArray ∧ l = onL rb (.slice a n c) kind slot view sum c1 c2 c3 c4 c5 c6) := by
  have hz := hc_length sum
  refine Trip.of_body Tryz.func166 rfl Tryz.ntmps166 Tryz.results166 rfl ?_
  refine Wsr ?_
  (refine WpL.step (Stp.boxV rfl (VC.p _) rfl ?_); intro nb2)
  (refine WpL.step (Stp.boxV rfl (VC.sl _ _ _) rfl ?_); intro nb3)
  (refine WpL.step (Stp.boxV rfl (VC.i _ _) rfl ?_); intro nb4)
  (refine WpL.step (Stp.boxV rfl (VC.i _ _) rfl ?_); intro nb5)
  (refine WpL.step (Stp.boxV rfl (VC.i _ _) rfl ?_); intro nb6)
  (refine WpL.step (Stp.boxV rfl (VC.ag _) rfl ?_); intro nb7)
  refine Ls (Rdo.assign rfl) (Lnt (Wsr (Ls (Rdo.makeFunc rfl) (Ls (Rdo.assign rfl) (Lnt (Wp.ret ?_))))))
  refine Rt (ResV.tmp rfl ResV.nil) ⟨_, ⟨_, ⟨_, ⟨_, ⟨_, ⟨_, ⟨rfl, rfl⟩⟩⟩⟩⟩⟩⟩
def meantV (keys : List Hash) (kind slot view : Int) (sum : Hash) (v : Vote) : Bool := decide (v.kind = kind) && decide (v.slot = slot) && decide (v.view = view) && decide (v.sum = sum) && goodV keys v
theorem onV_eq (keys : List Hash) (l : List Vote) (kind slot view : Int) (sum : Hash) : onV keys l kind slot view sum = ((l.take 10).filter (meantV keys kind slot view sum)).map (·.from_) := rfl
theorem taken_eq {vs : List Vote} {i : Nat} {v : Vote} (hv : vs[i]? = some v) : vs.take (i + 1) = vs.take i ++ [v] := by
  obtain ⟨h1, rfl⟩ := List.getElem?_eq_some_iff.1 hv
  exact List.take_succ_eq_append_getElem h1
abbrev onE (Y : Value) (c2 c3 c4 c5 c6 : Nat) (s : Value) (m i : Nat) : Env := [(0, Y), (2, vp c2 0), (3, vp c3 0), (4, vp c4 0), (5, vp c5 0), (6, vp c6 0), (14, s), (15, vi m), (16, vi i)]
abbrev onW (rb : Nat) (keys : List Hash) (a : Option Addr) (c : Nat) (vs : List Vote) (kind slot view : Int) (sum : Hash) (c1 c2 c3 c4 c5 c6 : Nat) : List HP :=
  [cel c1 32 [.slice a vs.length c], cel c2 3 [vi kind], cel c3 3 [vi slot], cel c4 3 [vi view], cel c5 28 (hc sum), cel c6 25 [vp rb 0], ringF rb keys, fz (fun g => RdVotes g (.slice a vs.length c) vs)]
abbrev onP (keys : List Hash) (kind slot view : Int) (sum : Hash) (vs : List Vote) (i : Nat) : List Int := ((vs.take i).filter (meantV keys kind slot view sum)).map (·.from_)
theorem onP_yes {keys : List Hash} {kind slot view : Int} {sum : Hash} {vs : List Vote} {i : Nat} {v : Vote} (hv : vs[i]? = some v) (h : meantV keys kind slot view sum v = true) : onP keys kind slot view sum vs (i + 1) = onP keys kind slot view sum vs i ++ [v.from_] := by
  unfold onP
  rw [taken_eq hv, List.filter_append, List.map_append]
  simp [h]
theorem onP_no {keys : List Hash} {kind slot view : Int} {sum : Hash} {vs : List Vote} {i : Nat} {v : Vote} (hv : vs[i]? = some v) (h : meantV keys kind slot view sum v = false) : onP keys kind slot view sum vs (i + 1) = onP keys kind slot view sum vs i := by
  unfold onP
  rw [taken_eq hv, List.filter_append, List.map_append]
  simp [h]
theorem onP_rest {keys : List Hash} {kind slot view : Int} {sum : Hash} {vs : List Vote} {i : Nat} {v : Vote} (hv : vs[i]? = some v) (hi : i < 10) (h : meantV keys kind slot view sum v = true) : ∃ rest, onP keys kind slot view sum vs i ++ v.from_ :: rest = onV keys vs kind slot view sum := by
  refine ⟨(((vs.take 10).drop (i + 1)).filter (meantV keys kind slot view sum)).map (·.from_), ?_⟩
  have h1 : vs.take 10 = vs.take i ++ v :: (vs.take 10).drop (i + 1) := by
    have h2 := List.take_append_drop i (vs.take 10)
    rw [List.take_take, Nat.min_eq_left (by omega)] at h2
    have h3 : (vs.take 10)[i]? = some v := by rw [List.getElem?_take_of_lt hi]; exact hv
    obtain ⟨h4, h5⟩ := List.getElem?_eq_some_iff.1 h3
    rw [List.drop_eq_getElem_cons h4, h5] at h2
    exact h2.symm
  conv => rhs; rw [onV_eq, h1, List.filter_append, List.map_append, List.filter_cons, if_pos h]
  rfl
/-- Who said so, one after the other. -/
theorem onIter (rb : Nat) (keys : List Hash) (hk : keys.length ≤ 10) (a : Option Addr) (c : Nat) (vs : List Vote) (hn : vs.length ≤ 1000000) (kind slot view : Int) (sum : Hash) (c1 c2 c3 c4 c5 c6 : Nat) :
    IterOK Tryz.prog 186 [vp c1 0, vp c2 0, vp c3 0, vp c4 0, vp c5 0, vp c6 0] (fun k : Int => [vi k]) [] (onL rb (.slice a vs.length c) kind slot view sum c1 c2 c3 c4 c5 c6 ++ [ringF rb keys, fz (fun g => RdVotes g (.slice a vs.length c) vs)])
      (fun xs => xs = onV keys vs kind slot view sum) := by
  intro Y J Jx hY l0 h0 _
  refine Trip.gh (l' := (onL rb (.slice a vs.length c) kind slot view sum c1 c2 c3 c4 c5 c6 ++ [ringF rb keys, fz (fun g => RdVotes g (.slice a vs.length c) vs)]) ++ l0) (Gh.perm List.perm_append_comm) ?_
  simp only [onL, List.cons_append, List.nil_append]
  by_cases hz : vs.length = 0
  · have hz' : (vs.length : Int) = 0 := by omega
    have hz2 : ¬ (10 : Int) < vs.length := by omega
    have hnil : vs = [] := List.eq_nil_of_length_eq_zero hz
    have hS : onV keys vs kind slot view sum = [] := by rw [hnil]; rfl
    refine Trip.of_body Tryz.func186 rfl Tryz.ntmps186 Tryz.results186 rfl ?_
    refine Wsr (Ls (Rdo.load rfl (Lds.one rfl)) (Ls (Rdo.load rfl (Lds.one rfl)) (Ls (Rdo.lenSlice rfl) (Ls (Rdo.min rfl rfl) ?_))))
    refine Ls (Rdo.sl_h0 rfl rfl (by omega)) ?_
    refine Ls (Rdo.lenSlice rfl) (Ls (Rdo.move rfl) (Lnt (Wp.block ?_)))
    refine Wp.loopOnce ?_
    refine Wsr (Ls (Rdo.lti rfl rfl) (Lnt (Wp.seq ?_)))
    refine Wp.condF rfl ?_
    refine Wp.exit ?_
    refine Thn.x ?_
    refine Thn.x ?_
    refine Blk.here ?_
    exact Ret.end_ ResV.nil (Gh.perm (List.perm_append_comm (l₁ := onW rb keys a c vs kind slot view sum c1 c2 c3 c4 c5 c6) (l₂ := l0))) (.inl ⟨[], l0, hS.symm, h0, rfl⟩)
  refine Trip.get (Pk.next (Pk.next (Pk.next (Pk.next (Pk.next (Pk.next (Pk.next Pk.here))))))) (row_some (by omega)) ?_
  rintro ⟨b, o, rfl⟩
  refine Trip.get (Pk.next (Pk.next (Pk.next (Pk.next (Pk.next (Pk.next (Pk.next Pk.here))))))) row_cap ?_
  intro hcap
  refine Trip.of_body Tryz.func186 rfl Tryz.ntmps186 Tryz.results186 rfl ?_
  refine Wsr (Ls (Rdo.load rfl (Lds.one rfl)) (Ls (Rdo.load rfl (Lds.one rfl)) (Ls (Rdo.lenSlice rfl) (Ls (Rdo.min rfl rfl) ?_))))
  have e : (if 10 < (vs.length : Int) then 10 else (vs.length : Int)) = ((min vs.length 10 : Nat) : Int) := by split <;> omega
  rw [e]
  generalize hM : min vs.length 10 = M
  refine Ls (Rdo.sl_h _ rfl rfl rfl (by omega)) ?_
  refine Ls (Rdo.lenSlice rfl) (Ls (Rdo.move rfl) (Lnt (Wp.block ?_)))
  have hMv : M ≤ vs.length := by omega
  have hM10 : M ≤ 10 := by omega
  have hfull : onP keys kind slot view sum vs M = onV keys vs kind slot view sum := by
    rw [onV_eq, ← hM]
    unfold onP
    congr 2
    rcases Nat.le_total vs.length 10 with h | h
    · rw [Nat.min_eq_left h, List.take_length, List.take_of_length_le h]
    · rw [Nat.min_eq_right h]
  refine Wp.loopE (fun k e h => ∃ (i : Nat) (l1 : List HP), i + k = M ∧ J (onP keys kind slot view sum vs i) l1 ∧ e = onE Y c2 c3 c4 c5 c6 (.slice (some ⟨b, o, none⟩) M c) M i ∧
      h = onW rb keys (some ⟨b, o, none⟩) c vs kind slot view sum c1 c2 c3 c4 c5 c6 ++ l1) M
    (e0 := onE Y c2 c3 c4 c5 c6 (.slice (some ⟨b, o, none⟩) M c) M (0 : Nat)) (l0 := onW rb keys (some ⟨b, o, none⟩) c vs kind slot view sum c1 c2 c3 c4 c5 c6 ++ l0) (by repeat (first | exact trivial | refine ⟨rfl, ?_⟩)) (by repeat (first | exact trivial | refine ⟨rfl, ?_⟩)) Gh.rfl_ ⟨0, l0, by omega, h0, rfl, rfl⟩ ?_
  rintro k e h ⟨i, l1, hik, hJ, rfl, rfl⟩
  simp only [onW, List.cons_append, List.nil_append]
  by_cases hi : i < M
  · obtain ⟨v, hv⟩ : ∃ v, vs[i]? = some v := ⟨vs[i], List.getElem?_eq_getElem (by omega)⟩
    have s1 := good_ok rb keys v hk
    have h35 := voteC_from v
    have hd : (hc v.sum = hc sum) ↔ v.sum = sum := hc_iff
    by_cases b1 : v.kind = kind
    · by_cases b2 : v.slot = slot
      · by_cases b3 : v.view = view
        · by_cases b4 : v.sum = sum
          · have b4' : hc v.sum = hc sum := hd.2 b4
            by_cases b5 : goodV keys v = true
            · have hm : meantV keys kind slot view sum v = true := by simp [meantV, b1, b2, b3, b4, b5]
              obtain ⟨rest, hsplit⟩ := onP_rest hv (by omega) hm
              refine Wsr (Ls (Rdo.lti rfl rfl) (Lnt (Wp.seq (cK rfl (Wp.skip (Thn.n (Wp.seq (Wp.block (Wsr ?_)))))))))
              refine Ls (Rdo.indexSlice rfl rfl (by omega)) ?_
              refine Ls (Rdo.load rfl (Lds.next (Lds.next (Lds.next (Lds.next (Lds.next (Lds.next (Lds.next (Lds.fzV (by assumption)))))))))) ?_
              (refine WpL.step (Stp.alloc rfl ?_); intro nb15)
              refine WpL.step (St rfl rfl (VC.ag _) ?_)
              refine Lnt (Wsr (Ls (Rdo.fieldAddr0 rfl) (Ls (Rdo.load rfl (Lds.one rfl)) (Ls (Rdo.load rfl (Lds.next (Lds.next (Lds.one rfl)))) (Ls (Rdo.eqi rfl rfl) (Ls (Rdo.move rfl) (Lg rfl rfl (Lw rfl rfl (Rdo.fieldAddr0 rfl) (Lw rfl rfl (Rdo.load rfl (Lds.one rfl)) (Lw rfl rfl (Rdo.load rfl (Lds.next (Lds.next (Lds.next (Lds.one rfl))))) (Lw rfl rfl (Rdo.eqi rfl rfl) (Ls (Rdo.pick_t rfl rfl) (Ls (Rdo.move rfl) ?_)))))))))))))
              refine Lg rfl rfl (Lw rfl rfl (Rdo.fieldAddr0 rfl) (Lw rfl rfl (Rdo.load rfl (Lds.one rfl)) (Lw rfl rfl (Rdo.load rfl (Lds.next (Lds.next (Lds.next (Lds.next (Lds.one rfl)))))) (Lw rfl rfl (Rdo.eqi rfl rfl) (Ls (Rdo.pick_t rfl rfl) (Ls (Rdo.move rfl) (Lg rfl rfl (Lw rfl rfl (Rdo.fieldAddr0 rfl) ?_))))))))
              refine Lw rfl rfl (Rdo.load rfl (Lds.part (by first | exact msgC_tag | exact voteC_sum | exact voteC_tag | assumption) (by first | rfl | assumption | (simp <;> done)) (by first | rfl | assumption | (simp <;> done)))) ?_
              refine Lw rfl rfl (Rdo.load rfl (Lds.next (Lds.next (Lds.next (Lds.next (Lds.next Ld)))))) ?_
              refine Lw rfl rfl (Rdo.eqagg rfl rfl (by first | rfl | exact oks_hc _ | exact oks_voteC _ | assumption) (by first | rfl | exact oks_hc _ | exact oks_voteC _ | assumption)) ?_
              refine Ls (Rdo.pick_t rfl rfl) (Ls (Rdo.move rfl) (Lg rfl rfl (Lw rfl rfl (Rdo.load rfl (Lds.next (Lds.next (Lds.next (Lds.next (Lds.next (Lds.next (Lds.one rfl)))))))) ?_)))
              refine Lw rfl rfl (Rdo.load rfl Ld) ?_
              refine WpL.want rfl rfl rfl (Sc (s1) rfl ?_)
              rintro _ _ ⟨rfl, rfl⟩
              refine Ll ?_
              refine Ls (Rdo.pick_t rfl rfl) (Ls (Rdo.move rfl) (Lg rfl rfl (Lw rfl rfl (Rdo.move rfl) (Lw rfl rfl (Rdo.fieldAddr0 rfl) ?_))))
              refine Lw rfl rfl (Rdo.load rfl (Lds.next (Lds.one (by assumption)))) ?_
              refine WpL.want rfl rfl rfl (Stp.callV rfl rfl (hY _ v.from_ rest l1 hsplit hJ) (Tk.tail (A := [_, _, _, _, _, _, _, _, _])) rfl ?_)
              rintro r l2 (⟨rfl, hJ2⟩ | ⟨rfl, hJ2⟩)
              · refine WpL.gh (Gh.perm List.perm_append_comm) ?_
                refine Ll ?_
                refine Lw rfl rfl (Rdo.not rfl) (Ls (Rdo.pick_t rfl rfl) (Lnt ?_))
                refine Wp.condF rfl ?_
                refine Wp.skip (Blk.n (Thn.n (Wp.region ?_)))
                refine Ls (Rdo.succ rfl rfl (by omega)) ?_
                refine Ls (Rdo.move rfl) (Lnt ?_)
                exact ⟨k - 1, _, _, by omega, ⟨i + 1, l2, by omega, by rw [onP_yes hv hm]; exact hJ2, rfl, rfl⟩, (by repeat (first | exact trivial | refine ⟨rfl, ?_⟩)), Gh.trans (Gh.drop (Pk.next Pk.here)) (Gh.perm (List.perm_middle (l₁ := [_, _, _, _, _, _])).symm)⟩
              · refine WpL.gh (Gh.perm List.perm_append_comm) ?_
                refine Ll ?_
                refine Lw rfl rfl (Rdo.not rfl) (Ls (Rdo.pick_t rfl rfl) (Lnt ?_))
                refine Wp.condT rfl ?_
                refine Wp.ret ?_
                refine Blk.r ?_
                refine Thn.r ?_
                refine Thn.r ?_
                refine Blk.r ?_
                exact Ret.now ResV.nil (l' := l2 ++ onW rb keys (some ⟨b, o, none⟩) c vs kind slot view sum c1 c2 c3 c4 c5 c6) (Gh.trans (Gh.drop (Pk.next Pk.here)) (Gh.trans (Gh.perm (List.perm_middle (l₁ := [_, _, _, _, _, _])).symm) (Gh.perm (List.perm_append_comm (l₁ := onW rb keys (some ⟨b, o, none⟩) c vs kind slot view sum c1 c2 c3 c4 c5 c6) (l₂ := l2))))) (.inr ⟨_, l2, hJ2, rfl⟩)
            · have b5' : goodV keys v = false := by simpa using b5
              have hm : meantV keys kind slot view sum v = false := by simp [meantV, b5']
              refine Wsr (Ls (Rdo.lti rfl rfl) (Lnt (Wp.seq (cK rfl (Wp.skip (Thn.n (Wp.seq (Wp.block (Wsr ?_)))))))))
              refine Ls (Rdo.indexSlice rfl rfl (by omega)) ?_
              refine Ls (Rdo.load rfl (Lds.next (Lds.next (Lds.next (Lds.next (Lds.next (Lds.next (Lds.next (Lds.fzV (by assumption)))))))))) ?_
              (refine WpL.step (Stp.alloc rfl ?_); intro nb15)
              refine WpL.step (St rfl rfl (VC.ag _) ?_)
              refine Lnt (Wsr (Ls (Rdo.fieldAddr0 rfl) (Ls (Rdo.load rfl (Lds.one rfl)) (Ls (Rdo.load rfl (Lds.next (Lds.next (Lds.one rfl)))) (Ls (Rdo.eqi rfl rfl) (Ls (Rdo.move rfl) (Lg rfl rfl (Lw rfl rfl (Rdo.fieldAddr0 rfl) (Lw rfl rfl (Rdo.load rfl (Lds.one rfl)) (Lw rfl rfl (Rdo.load rfl (Lds.next (Lds.next (Lds.next (Lds.one rfl))))) (Lw rfl rfl (Rdo.eqi rfl rfl) (Ls (Rdo.pick_t rfl rfl) (Ls (Rdo.move rfl) ?_)))))))))))))
              refine Lg rfl rfl (Lw rfl rfl (Rdo.fieldAddr0 rfl) (Lw rfl rfl (Rdo.load rfl (Lds.one rfl)) (Lw rfl rfl (Rdo.load rfl (Lds.next (Lds.next (Lds.next (Lds.next (Lds.one rfl)))))) (Lw rfl rfl (Rdo.eqi rfl rfl) (Ls (Rdo.pick_t rfl rfl) (Ls (Rdo.move rfl) (Lg rfl rfl (Lw rfl rfl (Rdo.fieldAddr0 rfl) ?_))))))))
              refine Lw rfl rfl (Rdo.load rfl (Lds.part (by first | exact msgC_tag | exact voteC_sum | exact voteC_tag | assumption) (by first | rfl | assumption | (simp <;> done)) (by first | rfl | assumption | (simp <;> done)))) ?_
              refine Lw rfl rfl (Rdo.load rfl (Lds.next (Lds.next (Lds.next (Lds.next (Lds.next Ld)))))) ?_
              refine Lw rfl rfl (Rdo.eqagg rfl rfl (by first | rfl | exact oks_hc _ | exact oks_voteC _ | assumption) (by first | rfl | exact oks_hc _ | exact oks_voteC _ | assumption)) ?_
              refine Ls (Rdo.pick_t rfl rfl) (Ls (Rdo.move rfl) (Lg rfl rfl (Lw rfl rfl (Rdo.load rfl (Lds.next (Lds.next (Lds.next (Lds.next (Lds.next (Lds.next (Lds.one rfl)))))))) ?_)))
              refine Lw rfl rfl (Rdo.load rfl Ld) ?_
              refine WpL.want rfl rfl rfl (Sc (s1) rfl ?_)
              rintro _ _ ⟨rfl, rfl⟩
              refine Ll ?_
              refine Ls (Rdo.pick_t rfl rfl) (Ls (Rdo.move rfl) (Lf rfl rfl (Lp rfl rfl (Lp rfl rfl (Lp rfl rfl (Lp rfl rfl (Lp rfl rfl (Ls (Rdo.pick_f rfl rfl) (Lnt ?_)))))))))
              refine Wp.condF rfl ?_
              refine Wp.skip (Blk.n (Thn.n (Wp.region ?_)))
              refine Ls (Rdo.succ rfl rfl (by omega)) ?_
              refine Ls (Rdo.move rfl) (Lnt ?_)
              exact ⟨k - 1, _, _, by omega, ⟨i + 1, l1, by omega, by rw [onP_no hv hm]; exact hJ, rfl, rfl⟩, (by repeat (first | exact trivial | refine ⟨rfl, ?_⟩)), Gh.trans (Gh.drop (Pk.next Pk.here)) (Gh.perm (List.perm_middle (l₁ := [_, _, _, _, _, _])).symm)⟩
          · have b4' : ¬ hc v.sum = hc sum := fun h => b4 (hd.1 h)
            have hm : meantV keys kind slot view sum v = false := by simp [meantV, b4]
            refine Wsr (Ls (Rdo.lti rfl rfl) (Lnt (Wp.seq (cK rfl (Wp.skip (Thn.n (Wp.seq (Wp.block (Wsr ?_)))))))))
            refine Ls (Rdo.indexSlice rfl rfl (by omega)) ?_
            refine Ls (Rdo.load rfl (Lds.next (Lds.next (Lds.next (Lds.next (Lds.next (Lds.next (Lds.next (Lds.fzV (by assumption)))))))))) ?_
            (refine WpL.step (Stp.alloc rfl ?_); intro nb15)
            refine WpL.step (St rfl rfl (VC.ag _) ?_)
            refine Lnt (Wsr (Ls (Rdo.fieldAddr0 rfl) (Ls (Rdo.load rfl (Lds.one rfl)) (Ls (Rdo.load rfl (Lds.next (Lds.next (Lds.one rfl)))) (Ls (Rdo.eqi rfl rfl) (Ls (Rdo.move rfl) (Lg rfl rfl (Lw rfl rfl (Rdo.fieldAddr0 rfl) (Lw rfl rfl (Rdo.load rfl (Lds.one rfl)) (Lw rfl rfl (Rdo.load rfl (Lds.next (Lds.next (Lds.next (Lds.one rfl))))) (Lw rfl rfl (Rdo.eqi rfl rfl) (Ls (Rdo.pick_t rfl rfl) (Ls (Rdo.move rfl) ?_)))))))))))))
            refine Lg rfl rfl (Lw rfl rfl (Rdo.fieldAddr0 rfl) (Lw rfl rfl (Rdo.load rfl (Lds.one rfl)) (Lw rfl rfl (Rdo.load rfl (Lds.next (Lds.next (Lds.next (Lds.next (Lds.one rfl)))))) (Lw rfl rfl (Rdo.eqi rfl rfl) (Ls (Rdo.pick_t rfl rfl) (Ls (Rdo.move rfl) (Lg rfl rfl (Lw rfl rfl (Rdo.fieldAddr0 rfl) ?_))))))))
            refine Lw rfl rfl (Rdo.load rfl (Lds.part (by first | exact msgC_tag | exact voteC_sum | exact voteC_tag | assumption) (by first | rfl | assumption | (simp <;> done)) (by first | rfl | assumption | (simp <;> done)))) ?_
            refine Lw rfl rfl (Rdo.load rfl (Lds.next (Lds.next (Lds.next (Lds.next (Lds.next Ld)))))) ?_
            refine Lw rfl rfl (Rdo.eqagg rfl rfl (by first | rfl | exact oks_hc _ | exact oks_voteC _ | assumption) (by first | rfl | exact oks_hc _ | exact oks_voteC _ | assumption)) ?_
            refine Ls (Rdo.pick_t rfl rfl) (Ls (Rdo.move rfl) (Lf rfl rfl (Lp rfl rfl (Lp rfl rfl (Lp rfl rfl (Ls (Rdo.pick_f rfl rfl) (Ls (Rdo.move rfl) (Lp rfl rfl (Lp rfl rfl (Lp rfl rfl (Lp rfl rfl (Lp rfl rfl (Ls (Rdo.pick_f rfl rfl) ?_)))))))))))))
            refine Lnt ?_
            refine Wp.condF rfl ?_
            refine Wp.skip (Blk.n (Thn.n (Wp.region ?_)))
            refine Ls (Rdo.succ rfl rfl (by omega)) ?_
            refine Ls (Rdo.move rfl) (Lnt ?_)
            exact ⟨k - 1, _, _, by omega, ⟨i + 1, l1, by omega, by rw [onP_no hv hm]; exact hJ, rfl, rfl⟩, (by repeat (first | exact trivial | refine ⟨rfl, ?_⟩)), Gh.drop Pk.here⟩
        · have hm : meantV keys kind slot view sum v = false := by simp [meantV, b3]
          refine Wsr (Ls (Rdo.lti rfl rfl) (Lnt (Wp.seq (cK rfl (Wp.skip (Thn.n (Wp.seq (Wp.block (Wsr ?_)))))))))
          refine Ls (Rdo.indexSlice rfl rfl (by omega)) ?_
          refine Ls (Rdo.load rfl (Lds.next (Lds.next (Lds.next (Lds.next (Lds.next (Lds.next (Lds.next (Lds.fzV (by assumption)))))))))) ?_
          (refine WpL.step (Stp.alloc rfl ?_); intro nb15)
          refine WpL.step (St rfl rfl (VC.ag _) ?_)
          refine Lnt (Wsr (Ls (Rdo.fieldAddr0 rfl) (Ls (Rdo.load rfl (Lds.one rfl)) (Ls (Rdo.load rfl (Lds.next (Lds.next (Lds.one rfl)))) (Ls (Rdo.eqi rfl rfl) (Ls (Rdo.move rfl) (Lg rfl rfl (Lw rfl rfl (Rdo.fieldAddr0 rfl) (Lw rfl rfl (Rdo.load rfl (Lds.one rfl)) (Lw rfl rfl (Rdo.load rfl (Lds.next (Lds.next (Lds.next (Lds.one rfl))))) (Lw rfl rfl (Rdo.eqi rfl rfl) (Ls (Rdo.pick_t rfl rfl) (Ls (Rdo.move rfl) ?_)))))))))))))
          refine Lg rfl rfl (Lw rfl rfl (Rdo.fieldAddr0 rfl) (Lw rfl rfl (Rdo.load rfl (Lds.one rfl)) (Lw rfl rfl (Rdo.load rfl (Lds.next (Lds.next (Lds.next (Lds.next (Lds.one rfl)))))) (Lw rfl rfl (Rdo.eqi rfl rfl) (Ls (Rdo.pick_t rfl rfl) (Ls (Rdo.move rfl) (Lf rfl rfl (Lp rfl rfl (Lp rfl rfl (Lp rfl rfl (Lp rfl rfl (Ls (Rdo.pick_f rfl rfl) (Ls (Rdo.move rfl) ?_)))))))))))))
          refine Lp rfl rfl (Lp rfl rfl (Lp rfl rfl (Ls (Rdo.pick_f rfl rfl) (Ls (Rdo.move rfl) (Lp rfl rfl (Lp rfl rfl (Lp rfl rfl (Lp rfl rfl (Lp rfl rfl (Ls (Rdo.pick_f rfl rfl) (Lnt ?_)))))))))))
          refine Wp.condF rfl ?_
          refine Wp.skip (Blk.n (Thn.n (Wp.region ?_)))
          refine Ls (Rdo.succ rfl rfl (by omega)) ?_
          refine Ls (Rdo.move rfl) (Lnt ?_)
          exact ⟨k - 1, _, _, by omega, ⟨i + 1, l1, by omega, by rw [onP_no hv hm]; exact hJ, rfl, rfl⟩, (by repeat (first | exact trivial | refine ⟨rfl, ?_⟩)), Gh.drop Pk.here⟩
      · have hm : meantV keys kind slot view sum v = false := by simp [meantV, b2]
        refine Wsr (Ls (Rdo.lti rfl rfl) (Lnt (Wp.seq (cK rfl (Wp.skip (Thn.n (Wp.seq (Wp.block (Wsr ?_)))))))))
        refine Ls (Rdo.indexSlice rfl rfl (by omega)) ?_
        refine Ls (Rdo.load rfl (Lds.next (Lds.next (Lds.next (Lds.next (Lds.next (Lds.next (Lds.next (Lds.fzV (by assumption)))))))))) ?_
        (refine WpL.step (Stp.alloc rfl ?_); intro nb15)
        refine WpL.step (St rfl rfl (VC.ag _) ?_)
        refine Lnt (Wsr (Ls (Rdo.fieldAddr0 rfl) (Ls (Rdo.load rfl (Lds.one rfl)) (Ls (Rdo.load rfl (Lds.next (Lds.next (Lds.one rfl)))) (Ls (Rdo.eqi rfl rfl) (Ls (Rdo.move rfl) (Lg rfl rfl (Lw rfl rfl (Rdo.fieldAddr0 rfl) (Lw rfl rfl (Rdo.load rfl (Lds.one rfl)) (Lw rfl rfl (Rdo.load rfl (Lds.next (Lds.next (Lds.next (Lds.one rfl))))) (Lw rfl rfl (Rdo.eqi rfl rfl) (Ls (Rdo.pick_t rfl rfl) (Ls (Rdo.move rfl) ?_)))))))))))))
        refine Lf rfl rfl (Lp rfl rfl (Lp rfl rfl (Lp rfl rfl (Lp rfl rfl (Ls (Rdo.pick_f rfl rfl) (Ls (Rdo.move rfl) (Lp rfl rfl (Lp rfl rfl (Lp rfl rfl (Lp rfl rfl (Ls (Rdo.pick_f rfl rfl) (Ls (Rdo.move rfl) (Lp rfl rfl ?_)))))))))))))
        refine Lp rfl rfl (Lp rfl rfl (Ls (Rdo.pick_f rfl rfl) (Ls (Rdo.move rfl) (Lp rfl rfl (Lp rfl rfl (Lp rfl rfl (Lp rfl rfl (Lp rfl rfl (Ls (Rdo.pick_f rfl rfl) (Lnt ?_))))))))))
        refine Wp.condF rfl ?_
        refine Wp.skip (Blk.n (Thn.n (Wp.region ?_)))
        refine Ls (Rdo.succ rfl rfl (by omega)) ?_
        refine Ls (Rdo.move rfl) (Lnt ?_)
        exact ⟨k - 1, _, _, by omega, ⟨i + 1, l1, by omega, by rw [onP_no hv hm]; exact hJ, rfl, rfl⟩, (by repeat (first | exact trivial | refine ⟨rfl, ?_⟩)), Gh.drop Pk.here⟩
    · have hm : meantV keys kind slot view sum v = false := by simp [meantV, b1]
      refine Wsr (Ls (Rdo.lti rfl rfl) (Lnt (Wp.seq (cK rfl (Wp.skip (Thn.n (Wp.seq (Wp.block (Wsr ?_)))))))))
      refine Ls (Rdo.indexSlice rfl rfl (by omega)) ?_
      refine Ls (Rdo.load rfl (Lds.next (Lds.next (Lds.next (Lds.next (Lds.next (Lds.next (Lds.next (Lds.fzV (by assumption)))))))))) ?_
      (refine WpL.step (Stp.alloc rfl ?_); intro nb15)
      refine WpL.step (St rfl rfl (VC.ag _) ?_)
      refine Lnt (Wsr (Ls (Rdo.fieldAddr0 rfl) (Ls (Rdo.load rfl (Lds.one rfl)) (Ls (Rdo.load rfl (Lds.next (Lds.next (Lds.one rfl)))) (Ls (Rdo.eqi rfl rfl) (Ls (Rdo.move rfl) (Lf rfl rfl (Lp rfl rfl (Lp rfl rfl (Lp rfl rfl (Lp rfl rfl (Ls (Rdo.pick_f rfl rfl) (Ls (Rdo.move rfl) ?_)))))))))))))
      refine Lp rfl rfl (Lp rfl rfl (Lp rfl rfl (Lp rfl rfl (Ls (Rdo.pick_f rfl rfl) (Ls (Rdo.move rfl) (Lp rfl rfl (Lp rfl rfl (Lp rfl rfl (Lp rfl rfl (Ls (Rdo.pick_f rfl rfl) (Ls (Rdo.move rfl) (Lp rfl rfl (Lp rfl rfl ?_)))))))))))))
      refine Lp rfl rfl (Ls (Rdo.pick_f rfl rfl) (Ls (Rdo.move rfl) (Lp rfl rfl (Lp rfl rfl (Lp rfl rfl (Lp rfl rfl (Lp rfl rfl (Ls (Rdo.pick_f rfl rfl) (Lnt ?_)))))))))
      refine Wp.condF rfl ?_
      refine Wp.skip (Blk.n (Thn.n (Wp.region ?_)))
      refine Ls (Rdo.succ rfl rfl (by omega)) ?_
      refine Ls (Rdo.move rfl) (Lnt ?_)
      exact ⟨k - 1, _, _, by omega, ⟨i + 1, l1, by omega, by rw [onP_no hv hm]; exact hJ, rfl, rfl⟩, (by repeat (first | exact trivial | refine ⟨rfl, ?_⟩)), Gh.drop Pk.here⟩
  · obtain rfl : i = M := by omega
    rw [hfull] at hJ
    refine Wsr (Ls (Rdo.lti rfl rfl) (Lnt (Wp.seq (cL rfl ?_))))
    refine Wp.exit ?_
    refine Thn.x ?_
    refine Thn.x ?_
    refine Blk.here ?_
    exact Ret.end_ ResV.nil (Gh.perm (List.perm_append_comm (l₁ := onW rb keys (some ⟨b, o, none⟩) c vs kind slot view sum c1 c2 c3 c4 c5 c6) (l₂ := l1))) (.inl ⟨_, l1, rfl, hJ, rfl⟩)
end Go.Proofs.YtomijhgicennbaaGreat
namespace Go.Proofs.YtomijhgicennbaaGreat
open Go
set_option maxHeartbeats 4000000
set_option linter.unusedSimpArgs false
set_option linter.unusedVariables false
set_option maxRecDepth 20000
theorem dedupI_snoc (l : List Int) (x : Int) : dedupI (l ++ [x]) = if x ∈ dedupI l then dedupI l else dedupI l ++ [x] := by
  unfold dedupI
  rw [List.foldl_append]
  rfl
theorem dedupI_len (l : List Int) : (dedupI l).length ≤ l.length := by
  have key : ∀ (l a : List Int), (l.foldl (fun a x => if x ∈ a then a else a ++ [x]) a).length ≤ a.length + l.length := by
    intro l
    induction l with
    | nil => intro a; simp
    | cons x l ih =>
      intro a
      have := ih (if x ∈ a then a else a ++ [x])
      simp only [List.foldl_cons, List.length_cons]
      split at this
      · rename_i h; rw [if_pos h]; omega
      · rename_i h; rw [if_neg h]; simp only [List.length_append, List.length_cons, List.length_nil] at this; omega
  have := key l []
  simpa [dedupI] using this
theorem onV_len (keys : List Hash) (l : List Vote) (kind slot view : Int) (sum : Hash) : (onV keys l kind slot view sum).length ≤ 10 := by
  rw [onV_eq, List.length_map]
  have h1 := List.length_filter_le (meantV keys kind slot view sum) (l.take 10)
  have h2 := List.length_take_le 10 l
  omega
theorem who_ok (rb : Nat) (keys : List Hash) (hk : keys.length ≤ 10) (a : Option Addr) (c : Nat) (vs : List Vote) (hn : vs.length ≤ 1000000) (kind slot view : Int) (sum : Hash) :
    Trip Tryz.prog 136 [vp rb 0, .slice a vs.length c, vi kind, vi slot, vi view, .agg (hc sum).toArray] [ringF rb keys, fz (fun g => RdVotes g (.slice a vs.length c) vs)]
      (fun r l => ∃ a' c', r = .slice a' (dedupI (onV keys vs kind slot view sum)).length c' ∧ l = [ringF rb keys, fz (fun g => RdVotes g (.slice a vs.length c) vs)]) := by
  have s1 := on_ok rb a vs.length c kind slot view sum
  have hS := onV_len keys vs kind slot view sum
  refine Trip.of_body Tryz.func136 rfl Tryz.ntmps136 Tryz.results136 rfl ?_
  refine Wsr ?_
  (refine WpL.step (Stp.boxV rfl (VC.ag _) rfl ?_); intro nb2)
  refine Ls (Rdo.assign rfl) (Lnt (Wsr ?_))
  (refine WpL.step (Stp.alloc rfl ?_); intro nb8)
  refine Lnt (Wp.seq (Wsr (Ls (Rdo.move rfl) (Ls (Rdo.move rfl) (Ls (Rdo.move rfl) (Ls (Rdo.move rfl) (Ls (Rdo.move rfl) ?_)))))))
  refine Ls (Rdo.load rfl (Lds.next Ld)) ?_
  refine WpL.step (Sc (s1) rfl ?_)
  rintro _ _ ⟨v21_0, ⟨v21_1, ⟨v21_2, ⟨v21_3, ⟨v21_4, ⟨v21_5, ⟨rfl, rfl⟩⟩⟩⟩⟩⟩⟩
  refine Ll ?_
  refine Lnt (Wp.block ?_)
  refine Wp.rangeFunc (ps := [22]) rfl (by kernel_rfl) (onIter rb keys hk a c vs hn kind slot view sum v21_0 v21_1 v21_2 v21_3 v21_4 v21_5) (fun _ => rfl) rfl (fun pre l => ∃ v, l = [cel nb8 71 [v], rowA 3 1 v (dedupI pre).length ((dedupI pre).map vi)]) (fun _ _ _ => False)
    (l0 := [cel nb8 71 [vnil], rowA 3 1 vnil (dedupI []).length ((dedupI []).map vi)]) (Gh.trans (Gh.nil 3 1) Gk) ⟨vnil, rfl⟩ (Bor.nil _) ?_ ?_ ?_
  · rintro lp rec pre x rest _ hs ⟨v, rfl⟩ st pe
    have hlen : (pre ++ x :: rest).length ≤ 10 := by rw [hs]; exact hS
    have hd := dedupI_len pre
    simp at hlen
    refine Wp.get (Pk.next Pk.here) (fun r => rowA_shape) ?_
    rintro ⟨a0, c0, rfl⟩
    have sn := dedupI_snoc pre x
    generalize dedupI pre = ds at *
    have s1 := containsInt_ok (.slice a0 ds.length c0) ds x (by omega)
    refine Wp.region (Ls (Rdo.assign rfl) (WpL.nil ?_))
    refine ⟨rfl, fun st pe => ?_⟩
    by_cases hx : x ∈ ds
    · rw [if_pos hx] at sn
      refine Wp.block (Wsr (Ls (Rdo.load rfl (Lds.one rfl)) (Ls (Rdo.move rfl) ?_)))
      refine WpL.step (Sc (s1) rfl ?_)
      rintro _ _ ⟨rfl, rfl⟩
      refine Ll ?_
      refine Ls (Rdo.not rfl) (Lnt (cL rfl (Wp.skip (Blk.n ?_))))
      exact ⟨[cel nb8 71 [.slice a0 ds.length c0], rowA 3 1 (.slice a0 ds.length c0) ds.length (ds.map vi)], Gk, _, by rw [sn]⟩
    · rw [if_neg hx] at sn
      refine Wp.block (Wsr (Ls (Rdo.load rfl (Lds.one rfl)) (Ls (Rdo.move rfl) ?_)))
      refine WpL.step (Sc (s1) rfl ?_)
      rintro _ _ ⟨rfl, rfl⟩
      refine Ll ?_
      refine Ls (Rdo.not rfl) (Lnt (cK rfl (Wp.region (Ls (Rdo.load rfl (Lds.next (Lds.one rfl))) (Ls (Rdo.move rfl) ?_)))))
      (refine WpL.step (Stp.sliceV rfl rfl (VCs.cons (VC.i _ _) (by first | rfl | assumption | (simp <;> done)) VCs.nil) (by simp only [List.cons_append, List.nil_append, List.append_nil]; exact rfl) rfl rfl ?_); intro nb15)
      (refine WpL.step (Stp.appendP rfl rfl (Pk.next Pk.here) (Src.cel (by first | rfl | (simp <;> done) | (simp <;> omega))) (by first | rfl | assumption | (simp <;> done) | (simp <;> omega)) (by first | assumption | exact oneCells1 rfl | exact oneCells1 (by assumption) | exact oneCells_bytesC _ | exact oneCells_votesC _ | (simp [oneCells, Value.oneCell'] <;> done)) (by first | omega | (simp <;> omega)) (by first | omega | (simp <;> omega)) rfl (by first | rfl | (simp <;> done)) ?_); intro na16 nc16)
      refine WpL.step (Stp.storeV rfl rfl (VC.sl _ _ _) rfl (Sts.next (Sts.next (Sp (oneCells1 rfl)))) ?_)
      refine WpL.nil (Blk.n ?_)
      exact ⟨[cel nb8 71 [.slice na16 (ds.length + 1) nc16], rowA 3 1 (.slice na16 (ds.length + 1) nc16) (ds.length + 1) (ds.map vi ++ [vi x])], Gk, _, by rw [sn, List.length_append, List.map_append]; rfl⟩
  · rintro xs _ rfl ⟨v, rfl⟩
    refine Wp.get (Pk.next Pk.here) (fun r => rowA_shape) ?_
    rintro ⟨a0, c0, rfl⟩
    have hd := dedupI_len (onV keys vs kind slot view sum)
    have s1 := sort_ok (dedupI (onV keys vs kind slot view sum)) (.slice a0 (dedupI (onV keys vs kind slot view sum)).length c0) (by omega)
    generalize dedupI (onV keys vs kind slot view sum) = ds at *
    refine Wsr (Ls (Rdo.load rfl (Lds.one rfl)) ?_)
    refine WpL.step (Sc (s1) rfl ?_)
    rintro _ _ ⟨rfl, ⟨v4_0, ⟨hv4_1, ⟨hv4_2, rfl⟩⟩⟩⟩
    refine Ll ?_
    refine Lnt (Wsr (Ls (Rdo.load rfl (Lds.next (Lds.one rfl))) (Ls (Rdo.assign rfl) (Lnt (Wp.ret ?_)))))
    refine Rt (ResV.tmp rfl ResV.nil) ⟨_, ⟨_, ⟨rfl, rfl⟩⟩⟩
  · intro j pre l' h
    exact h.elim
theorem meets_ok (rb : Nat) (keys : List Hash) (hk : keys.length ≤ 10) (a : Option Addr) (c : Nat) (vs : List Vote) (hn : vs.length ≤ 1000000) (kind slot view : Int) (sum : Hash) :
    Trip Tryz.prog 93 [vp rb 0, .slice a vs.length c, vi kind, vi slot, vi view, .agg (hc sum).toArray] [ringF rb keys, fz (fun g => RdVotes g (.slice a vs.length c) vs)]
      (fun r l => r = vb (meetsV keys vs kind slot view sum) ∧ l = [ringF rb keys, fz (fun g => RdVotes g (.slice a vs.length c) vs)]) := by
  have s1 := who_ok rb keys hk a c vs hn kind slot view sum
  have s2 := nodes_ok rb keys
  have s3 := quorum_ok keys.length (by omega)
  unfold meetsV
  generalize quorum keys.length = q at *
  refine Trip.of_body Tryz.func93 rfl Tryz.ntmps93 Tryz.results93 rfl ?_
  refine Wsr ?_
  (refine WpL.step (Stp.boxV rfl (VC.ag _) rfl ?_); intro nb2)
  refine Ls (Rdo.assign rfl) (Lnt (Wsr (Ls (Rdo.move rfl) (Ls (Rdo.nenil rfl rfl) (Ls (Rdo.move rfl) (Lw rfl rfl (Rdo.move rfl) (Lw rfl rfl (Rdo.move rfl) (Lw rfl rfl (Rdo.move rfl) (Lw rfl rfl (Rdo.move rfl) (Lw rfl rfl (Rdo.move rfl) ?_))))))))))
  refine Lw rfl rfl (Rdo.load rfl Ld) ?_
  refine WpL.want rfl rfl rfl (Sc (s1) rfl ?_)
  rintro _ _ ⟨v18_0, ⟨v18_1, ⟨rfl, rfl⟩⟩⟩
  refine Ll ?_
  refine Lw rfl rfl (Rdo.lenSlice rfl) (Lw rfl rfl (Rdo.move rfl) ?_)
  refine WpL.want rfl rfl rfl (Sc (s2) rfl ?_)
  rintro _ _ ⟨rfl, rfl⟩
  refine Ll ?_
  refine WpL.want rfl rfl rfl (Sc (s3) rfl ?_)
  rintro _ _ ⟨rfl, rfl⟩
  refine Ll ?_
  refine Lw rfl rfl (Rdo.gei rfl rfl) (Ls (Rdo.pick_t rfl rfl) (Ls (Rdo.assign rfl) (Lnt (Wp.ret ?_))))
  refine Rt (ResV.tmp rfl ResV.nil) ⟨rfl, rfl⟩
end Go.Proofs.YtomijhgicennbaaGreat
namespace Go.Proofs.YtomijhgicennbaaGreat
open Go
set_option maxHeartbeats 4000000
set_option linter.unusedSimpArgs false
set_option linter.unusedVariables false
set_option maxRecDepth 20000
theorem vclone_ok (a : Option Addr) (c : Nat) (bs : List Vote) (hb : bs.length ≤ 1099511627776) :
    Trip Tryz.prog 63 [.slice a bs.length c] [fz (fun g => RdVotes g (.slice a bs.length c) bs)] (fun r l => ∃ a' c', r = .slice a' bs.length c' ∧ l = [fz (fun g => RdVotes g (.slice a' bs.length c') bs), fz (fun g => RdVotes g (.slice a bs.length c) bs)]) := by
  cases a with
  | none =>
    refine Trip.get Pk.here nil_votes ?_
    rintro rfl
    refine Trip.of_body Tryz.func63 rfl Tryz.ntmps63 Tryz.results63 rfl ?_
    refine Wsr (Ls (Rdo.assign rfl) (Lnt (Wp.seq (Wsr (Ls (Rdo.move rfl) (Ls (Rdo.eqslnil rfl rfl) (Lnt ?_)))))))
    refine Wp.condT rfl ?_
    refine Wsr (Ls (Rdo.assign rfl) (Lnt (Wp.ret ?_)))
    refine Thn.r ?_
    exact Ret.now (ResV.tmp rfl ResV.nil) Gh.noVotes ⟨none, 0, rfl, rfl⟩
  | some a =>
    refine Trip.of_body Tryz.func63 rfl Tryz.ntmps63 Tryz.results63 rfl ?_
    refine Wsr (Ls (Rdo.assign rfl) (Lnt (Wp.seq (Wsr (Ls (Rdo.move rfl) (Ls (Rdo.eqslnil rfl rfl) (Lnt ?_)))))))
    refine Wp.condF rfl ?_
    refine Wp.skip (Thn.n (Wsr ?_))
    (refine WpL.step (Stp.slice0 rfl ?_); intro nb17)
    refine Ls (Rdo.move rfl) ?_
    (refine WpL.step (Stp.append0P rfl rfl Pk.here Src.frozen (by first | rfl | assumption | (simp <;> done) | (simp <;> omega)) (by first | assumption | exact oneCells1 rfl | exact oneCells1 (by assumption) | exact oneCells_bytesC _ | exact oneCells_votesC _ | (simp [oneCells, Value.oneCell'] <;> done)) (by first | omega | (simp <;> omega)) (by first | omega | (simp <;> omega)) rfl (by first | rfl | (simp <;> done)) ?_); intro na19 nc19)
    refine Ls (Rdo.assign rfl) (Lnt (Wp.ret ?_))
    exact Ret.now (ResV.tmp rfl ResV.nil) (Gh.ice Pk.here) ⟨_, _, rfl, rfl⟩
theorem bclone_ok (a : Option Addr) (c : Nat) (bs : List UInt8) (hb : bs.length ≤ 1099511627776) :
    Trip Tryz.prog 46 [.slice a bs.length c] [fz (fun g => RdBytes g (.slice a bs.length c) bs)] (fun r l => ∃ a' c', r = .slice a' bs.length c' ∧ l = [fz (fun g => RdBytes g (.slice a' bs.length c') bs), fz (fun g => RdBytes g (.slice a bs.length c) bs)]) := bytesClone_ok _ bs hb
theorem beq_ok (a1 a2 : Option Addr) (c1 c2 : Nat) (x y : List UInt8) :
    Trip Tryz.prog 132 [.slice a1 x.length c1, .slice a2 y.length c2] [fz (fun g => RdBytes g (.slice a1 x.length c1) x), fz (fun g => RdBytes g (.slice a2 y.length c2) y)]
      (fun r l => r = vb (decide (x = y)) ∧ l = [fz (fun g => RdBytes g (.slice a1 x.length c1) x), fz (fun g => RdBytes g (.slice a2 y.length c2) y)]) := by
  refine Trip.of_body Tryz.func132 rfl Tryz.ntmps132 Tryz.results132 rfl ?_
  refine Wsr (Ls (Rdo.assign rfl) (Lnt (Wsr (Ls (Rdo.move rfl) (Ls (Rdo.bytesStr rfl Src.frozen) (Ls (Rdo.move rfl) (Ls (Rdo.bytesStr rfl (Src.next Src.frozen)) (Ls (Rdo.eqVs rfl rfl) (Ls (Rdo.assign rfl) (Lnt (Wp.ret ?_)))))))))))
  refine Rt (ResV.tmp rfl ResV.nil) ⟨rfl, rfl⟩
theorem vsum_ok (a : Option Addr) (c : Nat) (bs : List UInt8) (hl : bs.length ≤ 1000000000000) :
    Trip Tryz.prog 94 [.slice a bs.length c] [fz (fun g => RdBytes g (.slice a bs.length c) bs)] (fun r l => r = .agg (hc (dHash bs)).toArray ∧ l = [fz (fun g => RdBytes g (.slice a bs.length c) bs)]) := by
  refine Trip.get Pk.here row_cap ?_
  intro hcap
  refine Trip.mono (Trip.keep (A := []) (valueSum_ok a c bs hl hcap)) ?_
  rintro v l ⟨l', ⟨rfl, rfl⟩, rfl⟩
  exact ⟨rfl, rfl⟩
end Go.Proofs.YtomijhgicennbaaGreat
namespace Go.Proofs.YtomijhgicennbaaGreat
open Go
set_option maxHeartbeats 4000000
set_option linter.unusedSimpArgs false
set_option linter.unusedVariables false
set_option maxRecDepth 20000
abbrev PX := (Option Addr × Nat) × (Option Addr × Nat)
abbrev lockC (k : LockS) (x : PX) : List Value := [vi k.view, .slice x.1.1 k.value.length x.1.2, .slice x.2.1 k.votes.length x.2.2]
abbrev bsF (p : Option Addr × Nat) (bs : List UInt8) : HP := fz (fun g => RdBytes g (.slice p.1 bs.length p.2) bs)
abbrev vsF (p : Option Addr × Nat) (vs : List Vote) : HP := fz (fun g => RdVotes g (.slice p.1 vs.length p.2) vs)
theorem free_ok : Trip Tryz.prog 41 [] [] (fun r l => r = .agg #[vi (-1), vnil, vnil] ∧ l = []) := by
  refine Trip.of_body Tryz.func41 rfl Tryz.ntmps41 Tryz.results41 rfl ?_
  refine Wsr ?_
  (refine WpL.step (Stp.alloc rfl ?_); intro nb2)
  refine Lnt (Wsr ?_)
  refine Ls (Rdo.bld rfl (BldL.cons rfl (VC.i _ _) (by first | rfl | assumption | (simp <;> done)) (by repeat (first | exact LPut.nil _ | (refine LPut.seg ?_; first | assumption | (simp <;> done)) | (refine LPut.segEnd ?_; first | assumption | (simp <;> done)) | (with_reducible apply LPut.here) | apply LPut.hereL | apply LPut.here | (apply LPut.over32; focus (first | assumption | (simp <;> done))) | (with_reducible apply LPut.next) | apply LPut.nextL | apply LPut.next)) (BldL.nil _))) ?_
  refine WpL.step (St rfl rfl (VC.ag _) ?_)
  refine Lnt (Wp.ret ?_)
  refine Rt (ResV.cell rfl (by repeat (first | exact Lds.one rfl | (apply Lds.all; (first | rfl | assumption | (simp <;> fail))) | exact Lds.ione0 | exact Lds.ione rfl | (apply Lds.iall; (first | rfl | assumption | (simp <;> fail))) | apply Lds.next)) ResV.nil) ⟨rfl, rfl⟩
theorem leader_ok (slot view : Int) (n : Nat) (hn0 : n ≤ 1000000) : Trip Tryz.prog 48 [vi slot, vi view, vi n] [] (fun r l => r = vi (leader slot view n) ∧ l = []) := by
  by_cases h1 : n < 1
  · obtain rfl : n = 0 := by omega
    have e : leader slot view 0 = 0 := rfl
    rw [e]
    refine Trip.of_body Tryz.func48 rfl Tryz.ntmps48 Tryz.results48 rfl ?_
    refine Wsr (Ls (Rdo.assign rfl) (Lnt (Wp.seq (Wsr (Ls (Rdo.move rfl) (Ls (Rdo.lti rfl rfl) (Ls (Rdo.move rfl) (Lp rfl rfl (Lp rfl rfl (Ls (Rdo.pick_t rfl rfl) (Ls (Rdo.move rfl) (Lp rfl rfl (Lp rfl rfl ?_)))))))))))))
    refine Ls (Rdo.pick_t rfl rfl) (Lnt ?_)
    refine Wp.condT rfl ?_
    refine Wsr (Ls (Rdo.assign rfl) (Lnt (Wp.ret ?_)))
    refine Thn.r ?_
    refine Rt (ResV.tmp rfl ResV.nil) ⟨rfl, rfl⟩
  by_cases h2 : slot < 0
  · have e : leader slot view n = 0 := by unfold leader; rw [if_pos (by omega)]
    rw [e]
    have h1' : ¬ (n : Int) < 1 := by omega
    refine Trip.of_body Tryz.func48 rfl Tryz.ntmps48 Tryz.results48 rfl ?_
    refine Wsr (Ls (Rdo.assign rfl) (Lnt (Wp.seq (Wsr (Ls (Rdo.move rfl) (Ls (Rdo.lti rfl rfl) (Ls (Rdo.move rfl) (Lf rfl rfl (Lw rfl rfl (Rdo.move rfl) (Lw rfl rfl (Rdo.lti rfl rfl) (Ls (Rdo.pick_f rfl rfl) (Ls (Rdo.move rfl) (Lg rfl rfl ?_)))))))))))))
    refine Lp rfl rfl (Lp rfl rfl (Ls (Rdo.pick_t rfl rfl) (Lnt ?_)))
    refine Wp.condT rfl ?_
    refine Wsr (Ls (Rdo.assign rfl) (Lnt (Wp.ret ?_)))
    refine Thn.r ?_
    refine Rt (ResV.tmp rfl ResV.nil) ⟨rfl, rfl⟩
  by_cases h3 : view < 0
  · have e : leader slot view n = 0 := by unfold leader; rw [if_pos (by omega)]
    rw [e]
    have h1' : ¬ (n : Int) < 1 := by omega
    refine Trip.of_body Tryz.func48 rfl Tryz.ntmps48 Tryz.results48 rfl ?_
    refine Wsr (Ls (Rdo.assign rfl) (Lnt (Wp.seq (Wsr (Ls (Rdo.move rfl) (Ls (Rdo.lti rfl rfl) (Ls (Rdo.move rfl) (Lf rfl rfl (Lw rfl rfl (Rdo.move rfl) (Lw rfl rfl (Rdo.lti rfl rfl) (Ls (Rdo.pick_f rfl rfl) (Ls (Rdo.move rfl) (Lf rfl rfl ?_)))))))))))))
    refine Lw rfl rfl (Rdo.move rfl) (Lw rfl rfl (Rdo.lti rfl rfl) (Ls (Rdo.pick_f rfl rfl) (Lnt (cK rfl (Wsr (Ls (Rdo.assign rfl) (Lnt (Wp.ret ?_))))))))
    refine Thn.r ?_
    refine Rt (ResV.tmp rfl ResV.nil) ⟨rfl, rfl⟩
  · have h1' : ¬ (n : Int) < 1 := by omega
    have hn : (n : Int) ≠ 0 := by omega
    have r1 : slot.tmod n = slot % n := Int.tmod_eq_emod_of_nonneg (by omega)
    have r2 : view.tmod n = view % n := Int.tmod_eq_emod_of_nonneg (by omega)
    have p1 := Int.emod_nonneg slot hn
    have p2 := Int.emod_nonneg view hn
    have q1 := Int.emod_lt_of_pos slot (show (0 : Int) < n by omega)
    have q2 := Int.emod_lt_of_pos view (show (0 : Int) < n by omega)
    have r3 : (slot % (n : Int) + view % (n : Int)).tmod n = (slot % (n : Int) + view % (n : Int)) % n := Int.tmod_eq_emod_of_nonneg (by omega)
    have e : leader slot view n = (slot % n + view % n) % n := by unfold leader; rw [if_neg (by omega)]
    rw [e]
    generalize slot % (n : Int) = p at *
    generalize view % (n : Int) = q at *
    generalize (p + q) % (n : Int) = s at *
    refine Trip.of_body Tryz.func48 rfl Tryz.ntmps48 Tryz.results48 rfl ?_
    refine Wsr (Ls (Rdo.assign rfl) (Lnt (Wp.seq (Wsr (Ls (Rdo.move rfl) (Ls (Rdo.lti rfl rfl) (Ls (Rdo.move rfl) (Lf rfl rfl (Lw rfl rfl (Rdo.move rfl) (Lw rfl rfl (Rdo.lti rfl rfl) (Ls (Rdo.pick_f rfl rfl) (Ls (Rdo.move rfl) (Lf rfl rfl ?_)))))))))))))
    refine Lw rfl rfl (Rdo.move rfl) (Lw rfl rfl (Rdo.lti rfl rfl) (Ls (Rdo.pick_f rfl rfl) (Lnt (cL rfl (Wp.skip (Thn.n (Wp.seq ?_)))))))
    refine Wp.draw (by kernel_rfl) ?_
    refine Qt (i := 0) rfl (Rdo.move rfl) (Qt (i := 1) rfl (Rdo.move rfl) ?_)
    refine Qt (i := 2) rfl (Rdo.remE rfl rfl (by omega) (by assumption)) ?_
    refine Qt (i := 3) rfl (Rdo.move rfl) (Qt (i := 4) rfl (Rdo.move rfl) ?_)
    refine Qt (i := 5) rfl (Rdo.remE rfl rfl (by omega) (by assumption)) ?_
    refine Qt (i := 6) rfl (Rdo.add64 rfl rfl (by first | omega | (dsimp only; omega))) ?_
    refine Qt (i := 7) rfl (Rdo.move rfl) ?_
    refine Qt (i := 8) rfl (Rdo.remE rfl rfl (by omega) (by assumption)) ?_
    refine Qt (i := 9) rfl (Rdo.assign rfl) ?_
    refine WpR.done (by kernel_rfl) ?_
    refine Thn.n (Wp.ret ?_)
    refine Rt (ResV.tmp rfl ResV.nil) ⟨rfl, rfl⟩
end Go.Proofs.YtomijhgicennbaaGreat
namespace Go.Proofs.YtomijhgicennbaaGreat
open Go
set_option maxHeartbeats 4000000
set_option linter.unusedSimpArgs false
set_option linter.unusedVariables false
set_option maxRecDepth 20000
def RdMT (g : FH) (es : List (Int × Value)) (ms : List (Int × Msg)) : Prop := All2 (fun e m => e.1 = m.1 ∧ ∃ cs, e.2 = .agg cs.toArray ∧ RdMsg g cs m.2) es ms
theorem RdMT.mono (es : List (Int × Value)) (ms : List (Int × Msg)) : Mono fun g => RdMT g es ms := fun g g' hle h => All2.mono (fun e m ⟨h1, cs, h2, h3⟩ => ⟨h1, cs, h2, RdMsg.mono cs m.2 g g' hle h3⟩) h
theorem RdMT.keys {g : FH} {es : List (Int × Value)} {ms : List (Int × Msg)} (h : RdMT g es ms) : akeys es = akeys ms := by
  unfold RdMT at h
  induction h with
  | nil => rfl
  | cons h _ ih => simp only [akeys, List.map_cons] at ih ⊢; rw [ih, h.1]
theorem RdMT.no {g : FH} {es : List (Int × Value)} {ms : List (Int × Msg)} {k : Int} (h : RdMT g es ms) (hk : alook ms k = none) : alook es k = none := by
  rw [alook_none] at hk ⊢
  rw [h.keys]
  exact hk
theorem RdMT.yes {g : FH} {es : List (Int × Value)} {ms : List (Int × Msg)} {k : Int} {m : Msg} (h : RdMT g es ms) (hk : alook ms k = some m) : ∃ cs, alook es k = some (.agg cs.toArray) ∧ RdMsg g cs m := by
  unfold RdMT at h
  induction h with
  | nil => cases hk
  | @cons e m' es ms h _ ih =>
    obtain ⟨h1, cs, h2, h3⟩ := h
    simp only [alook] at hk ⊢
    rw [h1]
    split
    · rename_i hh
      rw [if_pos hh] at hk
      cases hk
      exact ⟨cs, by rw [h2], h3⟩
    · rename_i hh
      rw [if_neg hh] at hk
      exact ih hk
theorem RdMT.set {g : FH} {es : List (Int × Value)} {ms : List (Int × Msg)} {k : Int} {cs : List Value} {m : Msg} (h : RdMT g es ms) (hm : RdMsg g cs m) : RdMT g (aset es k (.agg cs.toArray)) (aset ms k m) := by
  unfold RdMT at h ⊢
  induction h with
  | nil => exact .cons ⟨rfl, cs, rfl, hm⟩ .nil
  | @cons e m' es ms h h' ih =>
    obtain ⟨h1, h2⟩ := h
    simp only [aset]
    rw [h1]
    split
    · exact .cons ⟨rfl, cs, rfl, hm⟩ h'
    · exact .cons ⟨rfl, h2⟩ ih
theorem RdMT.len {g : FH} {es : List (Int × Value)} {ms : List (Int × Msg)} (h : RdMT g es ms) : es.length = ms.length := by
  have := congrArg List.length h.keys
  simpa [akeys] using this
abbrev msF (x : PX) (m : Msg) : HP := fz (fun g => RdMsg g (msgCs m x) m)
def tmL (b : Nat) (ms : List (Int × Msg)) (x : Nat × List (Int × Value)) : List HP := [cel b 126 [.map (some x.1)], mapA i64 x.1 x.2, fz (fun g => RdMT g x.2 ms)]
def tmA (b : Nat) (ms : List (Int × Msg)) : HP := exH fun x => starH (tmL b ms x)
theorem tm_open {l rest : List HP} {b : Nat} {ms : List (Int × Msg)} (hp : Pk l (tmA b ms) rest) : GhE l (fun _ : Nat × List (Int × Value) => True)
    (fun x => cel b 126 [.map (some x.1)] :: mapA i64 x.1 x.2 :: fz (fun g => RdMT g x.2 ms) :: rest) := GhE.open_ (f := tmL b ms) hp
theorem tm_shut {l : List HP} {b mb : Nat} {es : List (Int × Value)} {ms : List (Int × Msg)} : Gh (cel b 126 [.map (some mb)] :: mapA i64 mb es :: fz (fun g => RdMT g es ms) :: l) (tmA b ms :: l) :=
  Gh.shut (f := tmL b ms) (mb, es) (Tk.cons Pk.here (Tk.cons Pk.here (Tk.cons Pk.here (Tk.mk fun F w h => h))))
abbrev zmsg : Value := .agg (msgC 0 0 0 0 0 vnil vnil hash0).toArray
theorem tm_new : Trip Tryz.prog 42 [] [] (fun r l => ∃ b, r = vp b 0 ∧ l = [tmA b []]) := by
  refine Trip.via Tabmsg.new_ok (rest := []) Tk.rfl_ ?_
  rintro r l ⟨b, mb, rfl, rfl⟩
  exact ⟨_, ⟨b, rfl, rfl⟩, Gh.trans (Gh.trans (Gh.fzTrue (Φ := fun g => RdMT g [] []) fun g => .nil) Gk) (tm_shut (l := []) (mb := mb) (es := []))⟩
theorem tm_no (b : Nat) (ms : List (Int × Msg)) (k : Int) (h : alook ms k = none) : Trip Tryz.prog 84 [vp b 0, vi k] [tmA b ms] (fun r l => r = .tuple #[zmsg, vb false] ∧ l = [tmA b ms]) := by
  refine Trip.ghE (tm_open Pk.here) ?_
  rintro ⟨mb, es⟩ -
  refine Trip.get (Pk.next (Pk.next Pk.here)) (φ := alook es k = none) (fun r hr => by unfold fz at hr; exact hr.no h) ?_
  intro hno
  refine Trip.via (Tabmsg.get_no b mb es k hno) (rest := [fz (fun g => RdMT g es ms)]) (by repeat (first | exact Tk.nil | apply Tk.cons (by repeat (first | exact Pk.here | apply Pk.next)))) ?_
  rintro r l ⟨rfl, rfl⟩
  exact ⟨_, ⟨rfl, rfl⟩, tm_shut (l := [])⟩
theorem GhE.tmAt {l rest : List HP} {es : List (Int × Value)} {ms : List (Int × Msg)} {k : Int} {m : Msg} (hp : Pk l (fz (fun g => RdMT g es ms)) rest) (h : alook ms k = some m) :
    GhE l (fun x : PX => alook es k = some (.agg (msgCs m x).toArray)) (fun x => msF x m :: fz (fun g => RdMT g es ms) :: rest) := by
  have h1 := GhE.part (l := fz (fun g => RdMT g es ms) :: fz (fun g => RdMT g es ms) :: rest) (φ := fun x : PX => alook es k = some (.agg (msgCs m x).toArray)) (Ψ := fun x g => RdMsg g (msgCs m x) m) Pk.here (fun g hg => by
    obtain ⟨cs, h1, h2⟩ := hg.yes h
    have h2' := h2
    obtain ⟨sv, vv, h3, h4, h5⟩ := h2
    obtain ⟨a, c, rfl⟩ := h4.shape
    obtain ⟨a', c', rfl⟩ := h5.shape
    exact ⟨((a, c), (a', c')), by rw [h1, h3], by rw [h3] at h2'; exact h2'⟩)
  refine GhE.mk fun F w hl => ?_
  exact h1.use ((Gh.fzAlso (Ψ := fun g => RdMT g es ms) hp fun g h => h).use hl)
theorem len_msgs {m : Msg} {x : PX} (r : Res) (h : msF x m r) : oneCells (msgCs m x) := (len_msg r h).2
theorem tm_yes (b : Nat) (ms : List (Int × Msg)) (k : Int) (m : Msg) (h : alook ms k = some m) : Trip Tryz.prog 84 [vp b 0, vi k] [tmA b ms] (fun r l => ∃ x : PX, r = .tuple #[.agg (msgCs m x).toArray, vb true] ∧ l = [tmA b ms, msF x m]) := by
  refine Trip.ghE (tm_open Pk.here) ?_
  rintro ⟨mb, es⟩ -
  refine Trip.ghE (GhE.tmAt (Pk.next (Pk.next Pk.here)) h) ?_
  intro x hx
  refine Trip.get Pk.here len_msgs ?_
  intro ho
  refine Trip.via (Tabmsg.get_yes b mb es k (msgCs m x) (msgC_length _ _ _ _ _ _ _ _) ho hx) (rest := [msF x m, fz (fun g => RdMT g es ms)]) (by repeat (first | exact Tk.nil | apply Tk.cons (by repeat (first | exact Pk.here | apply Pk.next)))) ?_
  rintro r l ⟨rfl, rfl⟩
  exact ⟨_, ⟨x, rfl, rfl⟩, Gh.trans Gk (tm_shut (mb := mb) (es := es) (l := [msF x m]))⟩
theorem tm_set (b : Nat) (ms : List (Int × Msg)) (k : Int) (m : Msg) (x : PX) : Trip Tryz.prog 85 [vp b 0, vi k, .agg (msgCs m x).toArray] [tmA b ms, msF x m] (fun r l => r = .tuple #[] ∧ l = [tmA b (aset ms k m), msF x m]) := by
  refine Trip.get (Pk.next Pk.here) len_msgs ?_
  intro ho
  refine Trip.ghE (tm_open Pk.here) ?_
  rintro ⟨mb, es⟩ -
  refine Trip.via (Tabmsg.set_ok b mb es k (msgCs m x) (msgC_length _ _ _ _ _ _ _ _) ho) (rest := [fz (fun g => RdMT g es ms), msF x m]) (by repeat (first | exact Tk.nil | apply Tk.cons (by repeat (first | exact Pk.here | apply Pk.next)))) ?_
  rintro r l ⟨rfl, rfl⟩
  refine ⟨_, ⟨rfl, rfl⟩, ?_⟩
  refine Gh.trans (Gh.fzAlso (Ψ := fun g => RdMsg g (msgCs m x) m) (Pk.next (Pk.next (Pk.next Pk.here))) fun g h => h) ?_
  refine Gh.trans (Gh.fzAnd (RdMT.mono es ms) (RdMsg.mono _ m) (Pk.next (Pk.next (Pk.next (Pk.next Pk.here)))) Pk.here) ?_
  refine Gh.trans (Gh.fzImp (Ψ := fun g => RdMT g (aset es k (.agg (msgCs m x).toArray)) (aset ms k m)) Pk.here fun g h => h.1.set h.2) ?_
  exact Gh.trans Gk (tm_shut (mb := mb) (es := aset es k (.agg (msgCs m x).toArray)) (l := [msF x m]))
theorem tm_len (b : Nat) (ms : List (Int × Msg)) : Trip Tryz.prog 157 [vp b 0] [tmA b ms] (fun r l => r = vi ms.length ∧ l = [tmA b ms]) := by
  refine Trip.ghE (tm_open Pk.here) ?_
  rintro ⟨mb, es⟩ -
  refine Trip.get (Pk.next (Pk.next Pk.here)) (φ := es.length = ms.length) (fun r hr => by unfold fz at hr; exact hr.len) ?_
  intro hlen
  refine Trip.via (Tabmsg.len_ok b mb es) (rest := [fz (fun g => RdMT g es ms)]) (by repeat (first | exact Tk.nil | apply Tk.cons (by repeat (first | exact Pk.here | apply Pk.next)))) ?_
  rintro r l ⟨rfl, rfl⟩
  exact ⟨_, ⟨by rw [hlen], rfl⟩, tm_shut (l := [])⟩
def balA (q : Nat) (vs : List Vote) : HP := exH fun v : Value => starH [cel q 189 [v], rowA 44 68 v vs.length (votesC vs)]
theorem bal_open {l rest : List HP} {q : Nat} {vs : List Vote} (hp : Pk l (balA q vs) rest) : GhE l (fun _ : Value => True) (fun v => cel q 189 [v] :: rowA 44 68 v vs.length (votesC vs) :: rest) :=
  GhE.open_ (f := fun v : Value => [cel q 189 [v], rowA 44 68 v vs.length (votesC vs)]) hp
theorem bal_shut {l : List HP} {q n : Nat} {v : Value} {vs : List Vote} (hn : n = vs.length) : Gh (cel q 189 [v] :: rowA 44 68 v n (votesC vs) :: l) (balA q vs :: l) := by
  subst hn
  exact Gh.shut (f := fun v : Value => [cel q 189 [v], rowA 44 68 v vs.length (votesC vs)]) v (Tk.cons Pk.here (Tk.cons Pk.here (Tk.mk fun F w h => h)))
abbrev tbT : TypeId := 132
abbrev tsT : TypeId := 129
abbrev tbA (b : Nat) (ls : List (Int × List Vote)) : HP := tpA tbT balA b ls
abbrev tsA (b : Nat) (ls : List (Int × List (Int × Msg))) : HP := tpA tsT tmA b ls
/-- Values that are known. -/
def RdVals (g : FH) (es : List Value) (vs : List (List UInt8)) : Prop := All2 (fun e bs => RdBytes g e bs) es vs
theorem RdVals.mono (es : List Value) (vs : List (List UInt8)) : Mono fun g => RdVals g es vs := fun g g' hle h => All2.mono (fun e bs h => RdRow.mono _ _ _ _ g g' hle h) h
structure RouM where
  rb : Nat
  tp : Nat
  t1 : Nat
  t2 : Nat
  ts : Nat
  kx : PX
  wt : Option Addr × Nat
  vl : Option Addr × Nat
  dx : PX
  es : List Value
abbrev rouX (x : RouS) (m : RouM) : List Value :=
  [vp m.rb 0, vi x.me, vi x.slot, vi x.view, vi x.lock.view, .slice m.kx.1.1 x.lock.value.length m.kx.1.2, .slice m.kx.2.1 x.lock.votes.length m.kx.2.2, .slice m.wt.1 x.want.length m.wt.2, vp m.tp 0, .slice m.vl.1 x.values.length m.vl.2,
   vp m.t1 0, vp m.t2 0, vp m.ts 0, vi x.prepared, vi x.committed, vi x.proposed, .slice m.dx.1.1 x.value.length m.dx.1.2, .slice m.dx.2.1 x.why.length m.dx.2.2, vb x.decided]
abbrev rouL (b : Nat) (x : RouS) (m : RouM) : List HP :=
  [cel b 100 (rouX x m), ringF m.rb x.keys, tmA m.tp x.props, rowA 22 1 (.slice m.vl.1 x.values.length m.vl.2) x.values.length m.es, fz (fun g => RdVals g m.es x.values),
   tbA m.t1 x.prep, tbA m.t2 x.comm, tsA m.ts x.stats, bsF m.kx.1 x.lock.value, vsF m.kx.2 x.lock.votes, bsF m.wt x.want, bsF m.dx.1 x.value, vsF m.dx.2 x.why]
end Go.Proofs.YtomijhgicennbaaGreat
namespace Go.Proofs.YtomijhgicennbaaGreat
open Go
set_option maxHeartbeats 4000000
set_option linter.unusedSimpArgs false
set_option linter.unusedVariables false
set_option maxRecDepth 20000
theorem isIn_yes (n lo hi : Int) (h : lo ≤ n ∧ n ≤ hi) : Trip Tryz.prog 161 [vi n, vi lo, vi hi] [] (fun r l => r = vb true ∧ l = []) := by
  have h1 : n ≥ lo := h.1
  have h2 := h.2
  refine Trip.of_body Tryz.func161 rfl Tryz.ntmps161 Tryz.results161 rfl ?_
  refine Wsr (Ls (Rdo.assign rfl) (Lnt (Wsr (Ls (Rdo.move rfl) (Ls (Rdo.move rfl) (Ls (Rdo.gei rfl rfl) (Ls (Rdo.move rfl) (Lg rfl rfl (Lw rfl rfl (Rdo.move rfl) (Lw rfl rfl (Rdo.move rfl) (Lw rfl rfl (Rdo.lei rfl rfl) (Ls (Rdo.pick_t rfl rfl) (Ls (Rdo.assign rfl) ?_)))))))))))))
  refine Lnt (Wp.ret ?_)
  refine Rt (ResV.tmp rfl ResV.nil) ⟨(by first | rfl | (simp [packed] <;> done) | (simp_all [packed] <;> done)), rfl⟩
theorem isIn_no (n lo hi : Int) (h : ¬ (lo ≤ n ∧ n ≤ hi)) : Trip Tryz.prog 161 [vi n, vi lo, vi hi] [] (fun r l => r = vb false ∧ l = []) := by
  by_cases h1 : n ≥ lo
  · have h2 : ¬ n ≤ hi := fun h2 => h ⟨h1, h2⟩
    refine Trip.of_body Tryz.func161 rfl Tryz.ntmps161 Tryz.results161 rfl ?_
    refine Wsr (Ls (Rdo.assign rfl) (Lnt (Wsr (Ls (Rdo.move rfl) (Ls (Rdo.move rfl) (Ls (Rdo.gei rfl rfl) (Ls (Rdo.move rfl) (Lg rfl rfl (Lw rfl rfl (Rdo.move rfl) (Lw rfl rfl (Rdo.move rfl) (Lw rfl rfl (Rdo.lei rfl rfl) (Ls (Rdo.pick_t rfl rfl) (Ls (Rdo.assign rfl) ?_)))))))))))))
    refine Lnt (Wp.ret ?_)
    refine Rt (ResV.tmp rfl ResV.nil) ⟨(by first | rfl | (simp [packed] <;> done) | (simp_all [packed] <;> done)), rfl⟩
  · refine Trip.of_body Tryz.func161 rfl Tryz.ntmps161 Tryz.results161 rfl ?_
    refine Wsr (Ls (Rdo.assign rfl) (Lnt (Wsr (Ls (Rdo.move rfl) (Ls (Rdo.move rfl) (Ls (Rdo.gei rfl rfl) (Ls (Rdo.move rfl) (Lf rfl rfl (Lp rfl rfl (Lp rfl rfl (Lp rfl rfl (Ls (Rdo.pick_f rfl rfl) (Ls (Rdo.assign rfl) ?_)))))))))))))
    refine Lnt (Wp.ret ?_)
    refine Rt (ResV.tmp rfl ResV.nil) ⟨rfl, rfl⟩
theorem isIn_ok (n lo hi : Int) : Trip Tryz.prog 161 [vi n, vi lo, vi hi] [] (fun r l => r = vb (decide (lo ≤ n ∧ n ≤ hi)) ∧ l = []) := by
  by_cases h : lo ≤ n ∧ n ≤ hi
  · rw [decide_eq_true h]; exact isIn_yes n lo hi h
  · rw [decide_eq_false h]; exact isIn_no n lo hi h
theorem isVote_ok (v : Vote) : Trip Tryz.prog 164 [.agg (voteC v).toArray] [] (fun r l => r = vb (decide (isVote v)) ∧ l = []) := by
  have h35 := voteC_from v
  have s1 := isIn_ok v.kind 1 3
  have s2 := isIn_ok v.slot 0 63
  have s3 := isIn_ok v.view 0 8
  have s4 := isIn_ok v.from_ 0 9
  by_cases h1 : 1 ≤ v.kind ∧ v.kind ≤ 3
  · rw [decide_eq_true h1] at s1
    by_cases h2 : 0 ≤ v.slot ∧ v.slot ≤ 63
    · rw [decide_eq_true h2] at s2
      by_cases h3 : 0 ≤ v.view ∧ v.view ≤ 8
      · rw [decide_eq_true h3] at s3
        by_cases h4 : 0 ≤ v.from_ ∧ v.from_ ≤ 9
        · rw [decide_eq_true h4] at s4
          rw [decide_eq_true (show isVote v from ⟨h1, h2, h3, h4⟩)]
          refine Trip.of_body Tryz.func164 rfl Tryz.ntmps164 Tryz.results164 rfl ?_
          refine Wsr ?_
          (refine WpL.step (Stp.boxV rfl (VC.ag _) rfl ?_); intro nb2)
          refine Ls (Rdo.assign rfl) (Lnt (Wsr (Ls (Rdo.fieldAddr0 rfl) (Ls (Rdo.load rfl (Lds.one rfl)) ?_))))
          refine WpL.step (Sc (s1) rfl ?_)
          rintro _ _ ⟨rfl, rfl⟩
          refine Ll ?_
          refine Ls (Rdo.move rfl) (Lw rfl rfl (Rdo.fieldAddr0 rfl) (Lw rfl rfl (Rdo.load rfl (Lds.one rfl)) ?_))
          refine WpL.want rfl rfl rfl (Sc (s2) rfl ?_)
          rintro _ _ ⟨rfl, rfl⟩
          refine Ll ?_
          refine Ls (Rdo.pick_t rfl rfl) (Ls (Rdo.move rfl) (Lw rfl rfl (Rdo.fieldAddr0 rfl) (Lw rfl rfl (Rdo.load rfl (Lds.one rfl)) ?_)))
          refine WpL.want rfl rfl rfl (Sc (s3) rfl ?_)
          rintro _ _ ⟨rfl, rfl⟩
          refine Ll ?_
          refine Ls (Rdo.pick_t rfl rfl) (Ls (Rdo.move rfl) (Lw rfl rfl (Rdo.fieldAddr0 rfl) ?_))
          refine Lw rfl rfl (Rdo.load rfl (Lds.one (by assumption))) ?_
          refine WpL.want rfl rfl rfl (Sc (s4) rfl ?_)
          rintro _ _ ⟨rfl, rfl⟩
          refine Ll ?_
          refine Ls (Rdo.pick_t rfl rfl) (Ls (Rdo.assign rfl) (Lnt (Wp.ret ?_)))
          refine Rt (ResV.tmp rfl ResV.nil) ⟨rfl, rfl⟩
        · rw [decide_eq_false h4] at s4
          rw [decide_eq_false (show ¬ isVote v from fun h => h4 h.2.2.2)]
          refine Trip.of_body Tryz.func164 rfl Tryz.ntmps164 Tryz.results164 rfl ?_
          refine Wsr ?_
          (refine WpL.step (Stp.boxV rfl (VC.ag _) rfl ?_); intro nb2)
          refine Ls (Rdo.assign rfl) (Lnt (Wsr (Ls (Rdo.fieldAddr0 rfl) (Ls (Rdo.load rfl (Lds.one rfl)) ?_))))
          refine WpL.step (Sc (s1) rfl ?_)
          rintro _ _ ⟨rfl, rfl⟩
          refine Ll ?_
          refine Ls (Rdo.move rfl) (Lw rfl rfl (Rdo.fieldAddr0 rfl) (Lw rfl rfl (Rdo.load rfl (Lds.one rfl)) ?_))
          refine WpL.want rfl rfl rfl (Sc (s2) rfl ?_)
          rintro _ _ ⟨rfl, rfl⟩
          refine Ll ?_
          refine Ls (Rdo.pick_t rfl rfl) (Ls (Rdo.move rfl) (Lw rfl rfl (Rdo.fieldAddr0 rfl) (Lw rfl rfl (Rdo.load rfl (Lds.one rfl)) ?_)))
          refine WpL.want rfl rfl rfl (Sc (s3) rfl ?_)
          rintro _ _ ⟨rfl, rfl⟩
          refine Ll ?_
          refine Ls (Rdo.pick_t rfl rfl) (Ls (Rdo.move rfl) (Lw rfl rfl (Rdo.fieldAddr0 rfl) ?_))
          refine Lw rfl rfl (Rdo.load rfl (Lds.one (by assumption))) ?_
          refine WpL.want rfl rfl rfl (Sc (s4) rfl ?_)
          rintro _ _ ⟨rfl, rfl⟩
          refine Ll ?_
          refine Ls (Rdo.pick_t rfl rfl) (Ls (Rdo.assign rfl) (Lnt (Wp.ret ?_)))
          refine Rt (ResV.tmp rfl ResV.nil) ⟨rfl, rfl⟩
      · rw [decide_eq_false h3] at s3
        rw [decide_eq_false (show ¬ isVote v from fun h => h3 h.2.2.1)]
        refine Trip.of_body Tryz.func164 rfl Tryz.ntmps164 Tryz.results164 rfl ?_
        refine Wsr ?_
        (refine WpL.step (Stp.boxV rfl (VC.ag _) rfl ?_); intro nb2)
        refine Ls (Rdo.assign rfl) (Lnt (Wsr (Ls (Rdo.fieldAddr0 rfl) (Ls (Rdo.load rfl (Lds.one rfl)) ?_))))
        refine WpL.step (Sc (s1) rfl ?_)
        rintro _ _ ⟨rfl, rfl⟩
        refine Ll ?_
        refine Ls (Rdo.move rfl) (Lw rfl rfl (Rdo.fieldAddr0 rfl) (Lw rfl rfl (Rdo.load rfl (Lds.one rfl)) ?_))
        refine WpL.want rfl rfl rfl (Sc (s2) rfl ?_)
        rintro _ _ ⟨rfl, rfl⟩
        refine Ll ?_
        refine Ls (Rdo.pick_t rfl rfl) (Ls (Rdo.move rfl) (Lw rfl rfl (Rdo.fieldAddr0 rfl) (Lw rfl rfl (Rdo.load rfl (Lds.one rfl)) ?_)))
        refine WpL.want rfl rfl rfl (Sc (s3) rfl ?_)
        rintro _ _ ⟨rfl, rfl⟩
        refine Ll ?_
        refine Ls (Rdo.pick_t rfl rfl) (Ls (Rdo.move rfl) (Lp rfl rfl (Lp rfl rfl (Lp rfl rfl (Ls (Rdo.pick_f rfl rfl) (Ls (Rdo.assign rfl) (Lnt (Wp.ret ?_))))))))
        refine Rt (ResV.tmp rfl ResV.nil) ⟨rfl, rfl⟩
    · rw [decide_eq_false h2] at s2
      rw [decide_eq_false (show ¬ isVote v from fun h => h2 h.2.1)]
      refine Trip.of_body Tryz.func164 rfl Tryz.ntmps164 Tryz.results164 rfl ?_
      refine Wsr ?_
      (refine WpL.step (Stp.boxV rfl (VC.ag _) rfl ?_); intro nb2)
      refine Ls (Rdo.assign rfl) (Lnt (Wsr (Ls (Rdo.fieldAddr0 rfl) (Ls (Rdo.load rfl (Lds.one rfl)) ?_))))
      refine WpL.step (Sc (s1) rfl ?_)
      rintro _ _ ⟨rfl, rfl⟩
      refine Ll ?_
      refine Ls (Rdo.move rfl) (Lw rfl rfl (Rdo.fieldAddr0 rfl) (Lw rfl rfl (Rdo.load rfl (Lds.one rfl)) ?_))
      refine WpL.want rfl rfl rfl (Sc (s2) rfl ?_)
      rintro _ _ ⟨rfl, rfl⟩
      refine Ll ?_
      refine Ls (Rdo.pick_t rfl rfl) (Ls (Rdo.move rfl) (Lp rfl rfl (Lp rfl rfl (Lp rfl rfl (Ls (Rdo.pick_f rfl rfl) (Ls (Rdo.move rfl) (Lp rfl rfl (Lp rfl rfl (Lp rfl rfl (Ls (Rdo.pick_f rfl rfl) (Ls (Rdo.assign rfl) (Lnt (Wp.ret ?_)))))))))))))
      refine Rt (ResV.tmp rfl ResV.nil) ⟨rfl, rfl⟩
  · rw [decide_eq_false h1] at s1
    rw [decide_eq_false (show ¬ isVote v from fun h => h1 h.1)]
    refine Trip.of_body Tryz.func164 rfl Tryz.ntmps164 Tryz.results164 rfl ?_
    refine Wsr ?_
    (refine WpL.step (Stp.boxV rfl (VC.ag _) rfl ?_); intro nb2)
    refine Ls (Rdo.assign rfl) (Lnt (Wsr (Ls (Rdo.fieldAddr0 rfl) (Ls (Rdo.load rfl (Lds.one rfl)) ?_))))
    refine WpL.step (Sc (s1) rfl ?_)
    rintro _ _ ⟨rfl, rfl⟩
    refine Ll ?_
    refine Ls (Rdo.move rfl) (Lp rfl rfl (Lp rfl rfl (Lp rfl rfl (Ls (Rdo.pick_f rfl rfl) (Ls (Rdo.move rfl) (Lp rfl rfl (Lp rfl rfl (Lp rfl rfl (Ls (Rdo.pick_f rfl rfl) (Ls (Rdo.move rfl) (Lp rfl rfl (Lp rfl rfl (Lp rfl rfl ?_)))))))))))))
    refine Ls (Rdo.pick_f rfl rfl) (Ls (Rdo.assign rfl) (Lnt (Wp.ret ?_)))
    refine Rt (ResV.tmp rfl ResV.nil) ⟨rfl, rfl⟩
theorem isMsg1_ok (v : Vote) : Trip Tryz.prog 163 [.agg (voteC v).toArray] [] (fun r l => r = vb (!decide (isVote v)) ∧ l = []) := by
  have s1 := isVote_ok v
  refine Trip.of_body Tryz.func163 rfl Tryz.ntmps163 Tryz.results163 rfl ?_
  refine Wsr ?_
  (refine WpL.step (Stp.boxV rfl (VC.ag _) rfl ?_); intro nb2)
  refine Ls (Rdo.assign rfl) (Lnt (Wsr ?_))
  refine Ls (Rdo.load rfl Ld) ?_
  refine WpL.step (Sc (s1) rfl ?_)
  rintro _ _ ⟨rfl, rfl⟩
  refine Ll ?_
  refine Ls (Rdo.not rfl) (Ls (Rdo.assign rfl) (Lnt (Wp.ret ?_)))
  refine Rt (ResV.tmp rfl ResV.nil) ⟨rfl, rfl⟩
theorem msgBody_ok (m : Msg) (x : (Option Addr × Nat) × (Option Addr × Nat)) (hv : m.value.length ≤ 100000) (hn : m.votes.length ≤ 1000) :
    Trip Tryz.prog 87 [.agg (msgCs m x).toArray] [fz (fun g => RdMsg g (msgCs m x) m)]
      (fun r l => ∃ a c, r = .slice a (msgBody m).length c ∧ l = [fz (fun g => RdBytes g (.slice a (msgBody m).length c) (msgBody m))]) := by
  refine Trip.gh Gh.msg ?_
  obtain ⟨⟨x1, x2⟩, ⟨x3, x4⟩⟩ := x
  simp only
  have k1 := numsB_len [4, m.kind, m.from_, m.slot, m.view]
  simp only [List.length_cons, List.length_nil] at k1
  have k2 : (rowB m.value).length ≤ 9 + m.value.length := by
    have := numB_len 8 m.value.length (by omega)
    simp only [rowB, List.length_append]
    omega
  have k3 : (votesB m.votes).length ≤ 9 + 100 * m.votes.length := by
    have h1 := numB_len 8 m.votes.length (by omega)
    have h2 := votesAll_len m.votes
    simp only [votesB, List.length_append]
    omega
  have hbl : (msgBody m).length ≤ 1000000 := by simp only [msgBody, List.length_append]; omega
  have n1 : ∀ wb nb, Trip Tryz.prog 123 [vp wb 0, .slice (some ⟨nb, 0, none⟩) 5 5] [wrA wb [], cel nb 3 [vi 4, vi m.kind, vi m.from_, vi m.slot, vi m.view]] (fun r l => r = .tuple #[] ∧ l = [wrA wb (numsB [4, m.kind, m.from_, m.slot, m.view])]) := fun wb nb => nums_ok wb nb [] [4, m.kind, m.from_, m.slot, m.view] (by simp)
  have n2 : ∀ wb nb, Trip Tryz.prog 124 [vp wb 0, .slice (some ⟨nb, 0, none⟩) 1 1] [wrA wb (numsB [4, m.kind, m.from_, m.slot, m.view]), cel nb 22 [.slice x1 m.value.length x2], fz (fun g => RdBytes g (.slice x1 m.value.length x2) m.value)] (fun r l => r = .tuple #[] ∧ l = [wrA wb (numsB [4, m.kind, m.from_, m.slot, m.view] ++ rowB m.value), fz (fun g => RdBytes g (.slice x1 m.value.length x2) m.value)]) := fun wb nb => bytes_ok wb nb _ _ m.value (by omega)
  have n3 : ∀ wb, Trip Tryz.prog 125 [vp wb 0, .func (.func 126) #[] #[], .slice x3 m.votes.length x4] [wrA wb (numsB [4, m.kind, m.from_, m.slot, m.view] ++ rowB m.value), fz (fun g => RdVotes g (.slice x3 m.votes.length x4) m.votes)] (fun r l => r = .tuple #[] ∧ l = [wrA wb (msgBody m), fz (fun g => RdVotes g (.slice x3 m.votes.length x4) m.votes)]) := fun wb => rowVotes_ok wb _ _ m.votes (by rw [List.length_append]; omega) (by omega)
  have n4 := fun wb => out_ok wb (msgBody m) (by omega)
  generalize msgBody m = B at *
  refine Trip.of_body Tryz.func87 rfl Tryz.ntmps87 Tryz.results87 rfl ?_
  refine Wsr ?_
  (refine WpL.step (Stp.boxV rfl (VC.ag _) rfl ?_); intro nb2)
  refine Ls (Rdo.assign rfl) (Lnt (Wsr ?_))
  (refine WpL.step (Stp.alloc rfl ?_); intro nb8)
  refine Lnt (Wsr (Ls (Rdo.fieldAddr0 rfl) (Ls (Rdo.load rfl (Lds.next (Lds.one rfl))) (Ls (Rdo.fieldAddr0 rfl) (Ls (Rdo.load rfl (Lds.next (Lds.one rfl))) (Ls (Rdo.fieldAddr0 rfl) (Ls (Rdo.load rfl (Lds.next (Lds.one rfl))) (Ls (Rdo.fieldAddr0 rfl) (Ls (Rdo.load rfl (Lds.next (Lds.one rfl))) ?_)))))))))
  (refine WpL.step (Stp.sliceV rfl rfl (VCs.cons (VC.i _ _) (by first | rfl | assumption | (simp <;> done)) (VCs.cons (VC.i _ _) (by first | rfl | assumption | (simp <;> done)) (VCs.cons (VC.i _ _) (by first | rfl | assumption | (simp <;> done)) (VCs.cons (VC.i _ _) (by first | rfl | assumption | (simp <;> done)) (VCs.cons (VC.i _ _) (by first | rfl | assumption | (simp <;> done)) VCs.nil))))) (by simp only [List.cons_append, List.nil_append, List.append_nil]; exact rfl) rfl rfl ?_); intro nb21)
  refine WpL.gh (wr00 (by repeat (first | exact Pk.here | apply Pk.next))) ?_
  refine WpL.step (Sc (n1 _ _) rfl ?_)
  rintro _ _ ⟨rfl, rfl⟩
  refine Ll ?_
  refine Lnt (Wsr (Ls (Rdo.fieldAddr0 rfl) (Ls (Rdo.load rfl (Lds.next (Lds.one rfl))) ?_)))
  (refine WpL.step (Stp.sliceV rfl rfl (VCs.cons (VC.sl _ _ _) (by first | rfl | assumption | (simp <;> done)) VCs.nil) (by simp only [List.cons_append, List.nil_append, List.append_nil]; exact rfl) rfl rfl ?_); intro nb9)
  refine WpL.step (Sc (n2 _ _) rfl ?_)
  rintro _ _ ⟨rfl, rfl⟩
  refine Ll ?_
  refine Lnt (Wsr (Ls (Rdo.fieldAddr0 rfl) (Ls (Rdo.load rfl (Lds.next (Lds.next (Lds.one rfl)))) ?_)))
  refine WpL.step (Sc (n3 _) rfl ?_)
  rintro _ _ ⟨rfl, rfl⟩
  refine Ll ?_
  refine Lnt (Wsr ?_)
  refine WpL.step (Sc (n4 _) rfl ?_)
  rintro _ _ ⟨v27_0, ⟨v27_1, ⟨rfl, rfl⟩⟩⟩
  refine Ll ?_
  refine Ls (Rdo.assign rfl) (Lnt (Wp.ret ?_))
  refine Rt (ResV.tmp rfl ResV.nil) ⟨_, ⟨_, ⟨rfl, rfl⟩⟩⟩
abbrev ixE (v : Value) (n i : Nat) : Env := [(0, v), (1, .func (.func 163) #[] #[]), (6, v), (7, vi n), (8, vi i)]
/-- Is one of the votes none that may be? -/
theorem indexVotes_ok (lv : Value) (vs : List Vote) (hn : vs.length ≤ 100000) :
    Trip Tryz.prog 185 [lv, .func (.func 163) #[] #[]] [fz (fun g => RdVotes g lv vs)]
      (fun r l => ∃ n : {n : Int // n < 0 ↔ ∀ v ∈ vs, isVote v}, r = vi n.1 ∧ l = [fz (fun g => RdVotes g lv vs)]) := by
  refine Trip.get Pk.here shape_votes ?_
  rintro ⟨a, c, rfl⟩
  refine Trip.of_body Tryz.func185 rfl Tryz.ntmps185 Tryz.results185 rfl ?_
  refine Wsr (Ls (Rdo.assign rfl) (Lnt (Wp.seq (Wsr (Ls (Rdo.move rfl) (Ls (Rdo.lenSlice rfl) (Ls (Rdo.move rfl) (Lnt (Wp.block ?_)))))))))
  refine Wp.loopE (fun k e h => ∃ i : Nat, i + k = vs.length ∧ (∀ v ∈ vs.take i, isVote v) ∧ e = ixE (.slice a vs.length c) vs.length i ∧ h = [fz (fun g => RdVotes g (.slice a vs.length c) vs)]) vs.length
    (e0 := ixE (.slice a vs.length c) vs.length 0) (l0 := [fz (fun g => RdVotes g (.slice a vs.length c) vs)]) (by repeat (first | exact trivial | refine ⟨rfl, ?_⟩)) (by repeat (first | exact trivial | refine ⟨rfl, ?_⟩)) Gk ⟨0, by omega, by simp, rfl, rfl⟩ ?_
  rintro k e h ⟨i, hik, hall, rfl, rfl⟩
  by_cases hi : i < vs.length
  · have hi' : (i : Int) < vs.length := by omega
    have hM : vs[i]? = some vs[i] := List.getElem?_eq_getElem hi
    have hmem : vs[i] ∈ vs := List.getElem_mem hi
    have cx := votes_cut hM
    have lx : (votesC (vs.take i)).length = i * 68 := by simp; omega
    have lx2 := voteC_length vs[i]
    have htk : vs.take (i + 1) = vs.take i ++ [vs[i]] := by rw [List.take_add_one, hM]; rfl
    generalize vs[i] = x at *
    refine Wp.get Pk.here (row_some (by omega)) ?_
    rintro ⟨b1, o1, rfl⟩
    have s1 := isMsg1_ok x
    by_cases hx : isVote x
    · rw [decide_eq_true hx] at s1
      refine Wsr (Ls (Rdo.lti rfl rfl) (Lnt (Wp.seq (cK rfl (Wp.skip (Thn.n (Wp.seq (Wp.block (Wsr (Ls (Rdo.move rfl) (Ls (Rdo.assign rfl) (Lnt (Wsr ?_)))))))))))))
      refine Ls (Rdo.move rfl) (Ls (Rdo.move rfl) (Ls (Rdo.move rfl) ?_))
      refine Ls (Rdo.indexSlice rfl rfl (by omega)) ?_
      refine Ls (Rdo.load rfl (Lds.fzN (by assumption) (by first | assumption | omega | (simp <;> omega)) (by first | assumption | rfl))) ?_
      refine WpL.step (Stp.callv rfl (by kernel_rfl) rfl (s1) (by repeat (first | exact Tk.nil | apply Tk.cons (by repeat (first | exact Pk.here | apply Pk.next)))) rfl ?_)
      rintro _ _ ⟨rfl, rfl⟩
      refine Ll ?_
      refine Lnt ?_
      refine Wp.condF rfl ?_
      refine Wp.skip (Blk.n (Thn.n (Wp.region ?_)))
      refine Ls (Rdo.succ rfl rfl (by omega)) ?_
      refine Ls (Rdo.move rfl) (Lnt ?_)
      refine ⟨k - 1, _, _, by omega, ⟨i + 1, by omega, ?_, rfl, rfl⟩, (by repeat (first | exact trivial | refine ⟨rfl, ?_⟩)), Gk⟩
      intro v hv
      rw [htk] at hv
      rcases List.mem_append.1 hv with hv | hv
      · exact hall v hv
      · rw [List.mem_singleton.1 hv]; exact hx
    · rw [decide_eq_false hx] at s1
      refine Wsr (Ls (Rdo.lti rfl rfl) (Lnt (Wp.seq (cK rfl (Wp.skip (Thn.n (Wp.seq (Wp.block (Wsr (Ls (Rdo.move rfl) (Ls (Rdo.assign rfl) (Lnt (Wsr ?_)))))))))))))
      refine Ls (Rdo.move rfl) (Ls (Rdo.move rfl) (Ls (Rdo.move rfl) ?_))
      refine Ls (Rdo.indexSlice rfl rfl (by omega)) ?_
      refine Ls (Rdo.load rfl (Lds.fzN (by assumption) (by first | assumption | omega | (simp <;> omega)) (by first | assumption | rfl))) ?_
      refine WpL.step (Stp.callv rfl (by kernel_rfl) rfl (s1) (by repeat (first | exact Tk.nil | apply Tk.cons (by repeat (first | exact Pk.here | apply Pk.next)))) rfl ?_)
      rintro _ _ ⟨rfl, rfl⟩
      refine Ll ?_
      refine Lnt ?_
      refine Wp.condT rfl ?_
      refine Wsr (Ls (Rdo.move rfl) (Ls (Rdo.assign rfl) (Lnt (Wp.ret ?_))))
      refine Blk.r ?_
      refine Thn.r ?_
      refine Thn.r ?_
      refine Blk.r ?_
      refine Thn.r ?_
      exact Rt (by repeat (first | exact ResV.nil | apply ResV.tmp rfl | apply ResV.cell rfl (by repeat (first | exact Lds.one rfl | (apply Lds.all; (first | rfl | assumption | (simp <;> fail))) | exact Lds.ione0 | exact Lds.ione rfl | (apply Lds.iall; (first | rfl | assumption | (simp <;> fail))) | apply Lds.next)))) ⟨⟨i, ⟨fun h => by omega, fun h => absurd (h x hmem) hx⟩⟩, rfl, rfl⟩
  · have hall2 : ∀ v ∈ vs, isVote v := by rwa [List.take_of_length_le (by omega)] at hall
    refine Wsr (Ls (Rdo.lti rfl rfl) (Lnt (Wp.seq (cL rfl ?_))))
    refine Wp.exit ?_
    refine Thn.x ?_
    refine Thn.x ?_
    refine Blk.here ?_
    refine Thn.n (Wsr (Ls (Rdo.assign rfl) (Lnt (Wp.ret ?_))))
    exact Rt (by repeat (first | exact ResV.nil | apply ResV.tmp rfl | apply ResV.cell rfl (by repeat (first | exact Lds.one rfl | (apply Lds.all; (first | rfl | assumption | (simp <;> fail))) | exact Lds.ione0 | exact Lds.ione rfl | (apply Lds.iall; (first | rfl | assumption | (simp <;> fail))) | apply Lds.next)))) ⟨⟨-1, ⟨fun _ => hall2, fun _ => by omega⟩⟩, rfl, rfl⟩
end Go.Proofs.YtomijhgicennbaaGreat
namespace Go.Proofs.YtomijhgicennbaaGreat
open Go
set_option maxHeartbeats 4000000
set_option linter.unusedSimpArgs false
set_option linter.unusedVariables false
set_option maxRecDepth 20000
theorem containsVotes_ok (lv : Value) (vs : List Vote) (hn : vs.length ≤ 100000) :
    Trip Tryz.prog 162 [lv, .func (.func 163) #[] #[]] [fz (fun g => RdVotes g lv vs)]
      (fun r l => r = vb (decide (¬ ∀ v ∈ vs, isVote v)) ∧ l = [fz (fun g => RdVotes g lv vs)]) := by
  have s1 := indexVotes_ok lv vs hn
  refine Trip.of_body Tryz.func162 rfl Tryz.ntmps162 Tryz.results162 rfl ?_
  refine Wsr (Ls (Rdo.assign rfl) (Lnt (Wsr (Ls (Rdo.move rfl) (Ls (Rdo.move rfl) ?_)))))
  refine WpL.step (Sc (s1) rfl ?_)
  rintro _ _ ⟨v10_0, ⟨rfl, rfl⟩⟩
  refine Ll ?_
  refine Ls (Rdo.gei rfl rfl) (Ls (Rdo.assign rfl) (Lnt (Wp.ret ?_)))
  have e : decide (0 ≤ v10_0.1) = decide (¬ ∀ v ∈ vs, isVote v) := by
    rw [decide_eq_decide]
    have hz := v10_0.2
    exact ⟨fun h1 h2 => by have := hz.2 h2; omega, fun h1 => by
      have : ¬ v10_0.1 < 0 := fun h2 => h1 (hz.1 h2)
      omega⟩
  exact Rt (by repeat (first | exact ResV.nil | apply ResV.tmp rfl | apply ResV.cell rfl (by repeat (first | exact Lds.one rfl | (apply Lds.all; (first | rfl | assumption | (simp <;> fail))) | exact Lds.ione0 | exact Lds.ione rfl | (apply Lds.iall; (first | rfl | assumption | (simp <;> fail))) | apply Lds.next)))) ⟨by rw [← e]; rfl, rfl⟩
theorem isMsg_ok (m : Msg) (x : (Option Addr × Nat) × (Option Addr × Nat)) (hn : m.votes.length ≤ 100000) :
    Trip Tryz.prog 128 [.agg (msgCs m x).toArray] [fz (fun g => RdMsg g (msgCs m x) m)] (fun r l => r = vb (decide (isMsg m)) ∧ l = []) := by
  refine Trip.gh Gh.msg ?_
  obtain ⟨⟨x1, x2⟩, ⟨x3, x4⟩⟩ := x
  simp only
  have s1 := isIn_ok m.kind 1 6
  have s2 := isIn_ok m.from_ 0 9
  have s3 := isIn_ok m.to 0 9
  have s4 := isIn_ok m.slot 0 63
  have s5 := isIn_ok m.view 0 8
  have s8 := containsVotes_ok (.slice x3 m.votes.length x4) m.votes hn
  by_cases h1 : 1 ≤ m.kind ∧ m.kind ≤ 6
  · rw [decide_eq_true h1] at s1
    by_cases h2 : 0 ≤ m.from_ ∧ m.from_ ≤ 9
    · rw [decide_eq_true h2] at s2
      by_cases h3 : 0 ≤ m.to ∧ m.to ≤ 9
      · rw [decide_eq_true h3] at s3
        by_cases h4 : 0 ≤ m.slot ∧ m.slot ≤ 63
        · rw [decide_eq_true h4] at s4
          by_cases h5 : 0 ≤ m.view ∧ m.view ≤ 8
          · rw [decide_eq_true h5] at s5
            by_cases h6 : m.value.length ≤ 200
            · have h6' : (m.value.length : Int) ≤ 200 := by omega
              by_cases h7 : m.votes.length ≤ 10
              · have h7' : (m.votes.length : Int) ≤ 10 := by omega
                by_cases h8 : ∀ v ∈ m.votes, isVote v
                · rw [decide_eq_false (not_not_intro h8)] at s8
                  rw [decide_eq_true (show isMsg m from ⟨h1, h2, h3, h4, h5, h6, h7, h8⟩)]
                  refine Trip.of_body Tryz.func128 rfl Tryz.ntmps128 Tryz.results128 rfl ?_
                  refine Wsr ?_
                  (refine WpL.step (Stp.boxV rfl (VC.ag _) rfl ?_); intro nb2)
                  refine Ls (Rdo.assign rfl) (Lnt (Wsr (Ls (Rdo.fieldAddr0 rfl) (Ls (Rdo.load rfl (Lds.one rfl)) ?_))))
                  refine WpL.step (Sc (s1) rfl ?_)
                  rintro _ _ ⟨rfl, rfl⟩
                  refine Ll ?_
                  refine Ls (Rdo.move rfl) (Lw rfl rfl (Rdo.fieldAddr0 rfl) (Lw rfl rfl (Rdo.load rfl (Lds.one rfl)) ?_))
                  refine WpL.want rfl rfl rfl (Sc (s2) rfl ?_)
                  rintro _ _ ⟨rfl, rfl⟩
                  refine Ll ?_
                  refine Ls (Rdo.pick_t rfl rfl) (Ls (Rdo.move rfl) (Lw rfl rfl (Rdo.fieldAddr0 rfl) (Lw rfl rfl (Rdo.load rfl (Lds.one rfl)) ?_)))
                  refine WpL.want rfl rfl rfl (Sc (s3) rfl ?_)
                  rintro _ _ ⟨rfl, rfl⟩
                  refine Ll ?_
                  refine Ls (Rdo.pick_t rfl rfl) (Ls (Rdo.move rfl) (Lw rfl rfl (Rdo.fieldAddr0 rfl) (Lw rfl rfl (Rdo.load rfl (Lds.one rfl)) ?_)))
                  refine WpL.want rfl rfl rfl (Sc (s4) rfl ?_)
                  rintro _ _ ⟨rfl, rfl⟩
                  refine Ll ?_
                  refine Ls (Rdo.pick_t rfl rfl) (Ls (Rdo.move rfl) (Lw rfl rfl (Rdo.fieldAddr0 rfl) (Lw rfl rfl (Rdo.load rfl (Lds.one rfl)) ?_)))
                  refine WpL.want rfl rfl rfl (Sc (s5) rfl ?_)
                  rintro _ _ ⟨rfl, rfl⟩
                  refine Ll ?_
                  refine Ls (Rdo.pick_t rfl rfl) (Ls (Rdo.move rfl) (Lw rfl rfl (Rdo.fieldAddr0 rfl) (Lw rfl rfl (Rdo.load rfl (Lds.one rfl)) (Lw rfl rfl (Rdo.lenSlice rfl) (Lw rfl rfl (Rdo.lei rfl rfl) (Ls (Rdo.pick_t rfl rfl) (Ls (Rdo.move rfl) (Lg rfl rfl (Lw rfl rfl (Rdo.fieldAddr0 rfl) (Lw rfl rfl (Rdo.load rfl (Lds.one rfl)) (Lw rfl rfl (Rdo.lenSlice rfl) (Lw rfl rfl (Rdo.lei rfl rfl) (Ls (Rdo.pick_t rfl rfl) ?_)))))))))))))
                  refine Ls (Rdo.move rfl) (Lg rfl rfl (Lw rfl rfl (Rdo.fieldAddr0 rfl) (Lw rfl rfl (Rdo.load rfl (Lds.one rfl)) ?_)))
                  refine WpL.want rfl rfl rfl (Sc (s8) rfl ?_)
                  rintro _ _ ⟨rfl, rfl⟩
                  refine Ll ?_
                  refine Lw rfl rfl (Rdo.not rfl) (Ls (Rdo.pick_t rfl rfl) (Ls (Rdo.assign rfl) (Lnt (Wp.ret ?_))))
                  refine Rt (ResV.tmp rfl ResV.nil) ⟨rfl, rfl⟩
                · rw [decide_eq_true h8] at s8
                  rw [decide_eq_false (show ¬ isMsg m from fun h => h8 h.2.2.2.2.2.2.2)]
                  refine Trip.of_body Tryz.func128 rfl Tryz.ntmps128 Tryz.results128 rfl ?_
                  refine Wsr ?_
                  (refine WpL.step (Stp.boxV rfl (VC.ag _) rfl ?_); intro nb2)
                  refine Ls (Rdo.assign rfl) (Lnt (Wsr (Ls (Rdo.fieldAddr0 rfl) (Ls (Rdo.load rfl (Lds.one rfl)) ?_))))
                  refine WpL.step (Sc (s1) rfl ?_)
                  rintro _ _ ⟨rfl, rfl⟩
                  refine Ll ?_
                  refine Ls (Rdo.move rfl) (Lw rfl rfl (Rdo.fieldAddr0 rfl) (Lw rfl rfl (Rdo.load rfl (Lds.one rfl)) ?_))
                  refine WpL.want rfl rfl rfl (Sc (s2) rfl ?_)
                  rintro _ _ ⟨rfl, rfl⟩
                  refine Ll ?_
                  refine Ls (Rdo.pick_t rfl rfl) (Ls (Rdo.move rfl) (Lw rfl rfl (Rdo.fieldAddr0 rfl) (Lw rfl rfl (Rdo.load rfl (Lds.one rfl)) ?_)))
                  refine WpL.want rfl rfl rfl (Sc (s3) rfl ?_)
                  rintro _ _ ⟨rfl, rfl⟩
                  refine Ll ?_
                  refine Ls (Rdo.pick_t rfl rfl) (Ls (Rdo.move rfl) (Lw rfl rfl (Rdo.fieldAddr0 rfl) (Lw rfl rfl (Rdo.load rfl (Lds.one rfl)) ?_)))
                  refine WpL.want rfl rfl rfl (Sc (s4) rfl ?_)
                  rintro _ _ ⟨rfl, rfl⟩
                  refine Ll ?_
                  refine Ls (Rdo.pick_t rfl rfl) (Ls (Rdo.move rfl) (Lw rfl rfl (Rdo.fieldAddr0 rfl) (Lw rfl rfl (Rdo.load rfl (Lds.one rfl)) ?_)))
                  refine WpL.want rfl rfl rfl (Sc (s5) rfl ?_)
                  rintro _ _ ⟨rfl, rfl⟩
                  refine Ll ?_
                  refine Ls (Rdo.pick_t rfl rfl) (Ls (Rdo.move rfl) (Lw rfl rfl (Rdo.fieldAddr0 rfl) (Lw rfl rfl (Rdo.load rfl (Lds.one rfl)) (Lw rfl rfl (Rdo.lenSlice rfl) (Lw rfl rfl (Rdo.lei rfl rfl) (Ls (Rdo.pick_t rfl rfl) (Ls (Rdo.move rfl) (Lg rfl rfl (Lw rfl rfl (Rdo.fieldAddr0 rfl) (Lw rfl rfl (Rdo.load rfl (Lds.one rfl)) (Lw rfl rfl (Rdo.lenSlice rfl) (Lw rfl rfl (Rdo.lei rfl rfl) (Ls (Rdo.pick_t rfl rfl) ?_)))))))))))))
                  refine Ls (Rdo.move rfl) (Lg rfl rfl (Lw rfl rfl (Rdo.fieldAddr0 rfl) (Lw rfl rfl (Rdo.load rfl (Lds.one rfl)) ?_)))
                  refine WpL.want rfl rfl rfl (Sc (s8) rfl ?_)
                  rintro _ _ ⟨rfl, rfl⟩
                  refine Ll ?_
                  refine Lw rfl rfl (Rdo.not rfl) (Ls (Rdo.pick_t rfl rfl) (Ls (Rdo.assign rfl) (Lnt (Wp.ret ?_))))
                  refine Rt (ResV.tmp rfl ResV.nil) ⟨rfl, rfl⟩
              · have h7' : ¬ (m.votes.length : Int) ≤ 10 := by omega
                rw [decide_eq_false (show ¬ isMsg m from fun h => h7 h.2.2.2.2.2.2.1)]
                refine Trip.of_body Tryz.func128 rfl Tryz.ntmps128 Tryz.results128 rfl ?_
                refine Wsr ?_
                (refine WpL.step (Stp.boxV rfl (VC.ag _) rfl ?_); intro nb2)
                refine Ls (Rdo.assign rfl) (Lnt (Wsr (Ls (Rdo.fieldAddr0 rfl) (Ls (Rdo.load rfl (Lds.one rfl)) ?_))))
                refine WpL.step (Sc (s1) rfl ?_)
                rintro _ _ ⟨rfl, rfl⟩
                refine Ll ?_
                refine Ls (Rdo.move rfl) (Lw rfl rfl (Rdo.fieldAddr0 rfl) (Lw rfl rfl (Rdo.load rfl (Lds.one rfl)) ?_))
                refine WpL.want rfl rfl rfl (Sc (s2) rfl ?_)
                rintro _ _ ⟨rfl, rfl⟩
                refine Ll ?_
                refine Ls (Rdo.pick_t rfl rfl) (Ls (Rdo.move rfl) (Lw rfl rfl (Rdo.fieldAddr0 rfl) (Lw rfl rfl (Rdo.load rfl (Lds.one rfl)) ?_)))
                refine WpL.want rfl rfl rfl (Sc (s3) rfl ?_)
                rintro _ _ ⟨rfl, rfl⟩
                refine Ll ?_
                refine Ls (Rdo.pick_t rfl rfl) (Ls (Rdo.move rfl) (Lw rfl rfl (Rdo.fieldAddr0 rfl) (Lw rfl rfl (Rdo.load rfl (Lds.one rfl)) ?_)))
                refine WpL.want rfl rfl rfl (Sc (s4) rfl ?_)
                rintro _ _ ⟨rfl, rfl⟩
                refine Ll ?_
                refine Ls (Rdo.pick_t rfl rfl) (Ls (Rdo.move rfl) (Lw rfl rfl (Rdo.fieldAddr0 rfl) (Lw rfl rfl (Rdo.load rfl (Lds.one rfl)) ?_)))
                refine WpL.want rfl rfl rfl (Sc (s5) rfl ?_)
                rintro _ _ ⟨rfl, rfl⟩
                refine Ll ?_
                refine Ls (Rdo.pick_t rfl rfl) (Ls (Rdo.move rfl) (Lw rfl rfl (Rdo.fieldAddr0 rfl) (Lw rfl rfl (Rdo.load rfl (Lds.one rfl)) (Lw rfl rfl (Rdo.lenSlice rfl) (Lw rfl rfl (Rdo.lei rfl rfl) (Ls (Rdo.pick_t rfl rfl) (Ls (Rdo.move rfl) (Lg rfl rfl (Lw rfl rfl (Rdo.fieldAddr0 rfl) (Lw rfl rfl (Rdo.load rfl (Lds.one rfl)) (Lw rfl rfl (Rdo.lenSlice rfl) (Lw rfl rfl (Rdo.lei rfl rfl) (Ls (Rdo.pick_t rfl rfl) ?_)))))))))))))
                refine Ls (Rdo.move rfl) (Lf rfl rfl (Lp rfl rfl (Lp rfl rfl (Lp rfl rfl (Lp rfl rfl (Ls (Rdo.pick_f rfl rfl) (Ls (Rdo.assign rfl) (Lnt (Wp.ret ?_)))))))))
                refine Rt (ResV.tmp rfl ResV.nil) ⟨rfl, rfl⟩
            · have h6' : ¬ (m.value.length : Int) ≤ 200 := by omega
              rw [decide_eq_false (show ¬ isMsg m from fun h => h6 h.2.2.2.2.2.1)]
              refine Trip.of_body Tryz.func128 rfl Tryz.ntmps128 Tryz.results128 rfl ?_
              refine Wsr ?_
              (refine WpL.step (Stp.boxV rfl (VC.ag _) rfl ?_); intro nb2)
              refine Ls (Rdo.assign rfl) (Lnt (Wsr (Ls (Rdo.fieldAddr0 rfl) (Ls (Rdo.load rfl (Lds.one rfl)) ?_))))
              refine WpL.step (Sc (s1) rfl ?_)
              rintro _ _ ⟨rfl, rfl⟩
              refine Ll ?_
              refine Ls (Rdo.move rfl) (Lw rfl rfl (Rdo.fieldAddr0 rfl) (Lw rfl rfl (Rdo.load rfl (Lds.one rfl)) ?_))
              refine WpL.want rfl rfl rfl (Sc (s2) rfl ?_)
              rintro _ _ ⟨rfl, rfl⟩
              refine Ll ?_
              refine Ls (Rdo.pick_t rfl rfl) (Ls (Rdo.move rfl) (Lw rfl rfl (Rdo.fieldAddr0 rfl) (Lw rfl rfl (Rdo.load rfl (Lds.one rfl)) ?_)))
              refine WpL.want rfl rfl rfl (Sc (s3) rfl ?_)
              rintro _ _ ⟨rfl, rfl⟩
              refine Ll ?_
              refine Ls (Rdo.pick_t rfl rfl) (Ls (Rdo.move rfl) (Lw rfl rfl (Rdo.fieldAddr0 rfl) (Lw rfl rfl (Rdo.load rfl (Lds.one rfl)) ?_)))
              refine WpL.want rfl rfl rfl (Sc (s4) rfl ?_)
              rintro _ _ ⟨rfl, rfl⟩
              refine Ll ?_
              refine Ls (Rdo.pick_t rfl rfl) (Ls (Rdo.move rfl) (Lw rfl rfl (Rdo.fieldAddr0 rfl) (Lw rfl rfl (Rdo.load rfl (Lds.one rfl)) ?_)))
              refine WpL.want rfl rfl rfl (Sc (s5) rfl ?_)
              rintro _ _ ⟨rfl, rfl⟩
              refine Ll ?_
              refine Ls (Rdo.pick_t rfl rfl) (Ls (Rdo.move rfl) (Lw rfl rfl (Rdo.fieldAddr0 rfl) (Lw rfl rfl (Rdo.load rfl (Lds.one rfl)) (Lw rfl rfl (Rdo.lenSlice rfl) (Lw rfl rfl (Rdo.lei rfl rfl) (Ls (Rdo.pick_t rfl rfl) (Ls (Rdo.move rfl) (Lf rfl rfl (Lp rfl rfl (Lp rfl rfl (Lp rfl rfl (Lp rfl rfl (Ls (Rdo.pick_f rfl rfl) ?_)))))))))))))
              refine Ls (Rdo.move rfl) (Lp rfl rfl (Lp rfl rfl (Lp rfl rfl (Lp rfl rfl (Ls (Rdo.pick_f rfl rfl) (Ls (Rdo.assign rfl) (Lnt (Wp.ret ?_))))))))
              refine Rt (ResV.tmp rfl ResV.nil) ⟨rfl, rfl⟩
          · rw [decide_eq_false h5] at s5
            rw [decide_eq_false (show ¬ isMsg m from fun h => h5 h.2.2.2.2.1)]
            refine Trip.of_body Tryz.func128 rfl Tryz.ntmps128 Tryz.results128 rfl ?_
            refine Wsr ?_
            (refine WpL.step (Stp.boxV rfl (VC.ag _) rfl ?_); intro nb2)
            refine Ls (Rdo.assign rfl) (Lnt (Wsr (Ls (Rdo.fieldAddr0 rfl) (Ls (Rdo.load rfl (Lds.one rfl)) ?_))))
            refine WpL.step (Sc (s1) rfl ?_)
            rintro _ _ ⟨rfl, rfl⟩
            refine Ll ?_
            refine Ls (Rdo.move rfl) (Lw rfl rfl (Rdo.fieldAddr0 rfl) (Lw rfl rfl (Rdo.load rfl (Lds.one rfl)) ?_))
            refine WpL.want rfl rfl rfl (Sc (s2) rfl ?_)
            rintro _ _ ⟨rfl, rfl⟩
            refine Ll ?_
            refine Ls (Rdo.pick_t rfl rfl) (Ls (Rdo.move rfl) (Lw rfl rfl (Rdo.fieldAddr0 rfl) (Lw rfl rfl (Rdo.load rfl (Lds.one rfl)) ?_)))
            refine WpL.want rfl rfl rfl (Sc (s3) rfl ?_)
            rintro _ _ ⟨rfl, rfl⟩
            refine Ll ?_
            refine Ls (Rdo.pick_t rfl rfl) (Ls (Rdo.move rfl) (Lw rfl rfl (Rdo.fieldAddr0 rfl) (Lw rfl rfl (Rdo.load rfl (Lds.one rfl)) ?_)))
            refine WpL.want rfl rfl rfl (Sc (s4) rfl ?_)
            rintro _ _ ⟨rfl, rfl⟩
            refine Ll ?_
            refine Ls (Rdo.pick_t rfl rfl) (Ls (Rdo.move rfl) (Lw rfl rfl (Rdo.fieldAddr0 rfl) (Lw rfl rfl (Rdo.load rfl (Lds.one rfl)) ?_)))
            refine WpL.want rfl rfl rfl (Sc (s5) rfl ?_)
            rintro _ _ ⟨rfl, rfl⟩
            refine Ll ?_
            refine Ls (Rdo.pick_t rfl rfl) (Ls (Rdo.move rfl) (Lp rfl rfl (Lp rfl rfl (Lp rfl rfl (Lp rfl rfl (Ls (Rdo.pick_f rfl rfl) (Ls (Rdo.move rfl) (Lp rfl rfl (Lp rfl rfl (Lp rfl rfl (Lp rfl rfl (Ls (Rdo.pick_f rfl rfl) (Ls (Rdo.move rfl) ?_)))))))))))))
            refine Lp rfl rfl (Lp rfl rfl (Lp rfl rfl (Lp rfl rfl (Ls (Rdo.pick_f rfl rfl) (Ls (Rdo.assign rfl) (Lnt (Wp.ret ?_)))))))
            refine Rt (ResV.tmp rfl ResV.nil) ⟨rfl, rfl⟩
        · rw [decide_eq_false h4] at s4
          rw [decide_eq_false (show ¬ isMsg m from fun h => h4 h.2.2.2.1)]
          refine Trip.of_body Tryz.func128 rfl Tryz.ntmps128 Tryz.results128 rfl ?_
          refine Wsr ?_
          (refine WpL.step (Stp.boxV rfl (VC.ag _) rfl ?_); intro nb2)
          refine Ls (Rdo.assign rfl) (Lnt (Wsr (Ls (Rdo.fieldAddr0 rfl) (Ls (Rdo.load rfl (Lds.one rfl)) ?_))))
          refine WpL.step (Sc (s1) rfl ?_)
          rintro _ _ ⟨rfl, rfl⟩
          refine Ll ?_
          refine Ls (Rdo.move rfl) (Lw rfl rfl (Rdo.fieldAddr0 rfl) (Lw rfl rfl (Rdo.load rfl (Lds.one rfl)) ?_))
          refine WpL.want rfl rfl rfl (Sc (s2) rfl ?_)
          rintro _ _ ⟨rfl, rfl⟩
          refine Ll ?_
          refine Ls (Rdo.pick_t rfl rfl) (Ls (Rdo.move rfl) (Lw rfl rfl (Rdo.fieldAddr0 rfl) (Lw rfl rfl (Rdo.load rfl (Lds.one rfl)) ?_)))
          refine WpL.want rfl rfl rfl (Sc (s3) rfl ?_)
          rintro _ _ ⟨rfl, rfl⟩
          refine Ll ?_
          refine Ls (Rdo.pick_t rfl rfl) (Ls (Rdo.move rfl) (Lw rfl rfl (Rdo.fieldAddr0 rfl) (Lw rfl rfl (Rdo.load rfl (Lds.one rfl)) ?_)))
          refine WpL.want rfl rfl rfl (Sc (s4) rfl ?_)
          rintro _ _ ⟨rfl, rfl⟩
          refine Ll ?_
          refine Ls (Rdo.pick_t rfl rfl) (Ls (Rdo.move rfl) (Lp rfl rfl (Lp rfl rfl (Lp rfl rfl (Ls (Rdo.pick_f rfl rfl) (Ls (Rdo.move rfl) (Lp rfl rfl (Lp rfl rfl (Lp rfl rfl (Lp rfl rfl (Ls (Rdo.pick_f rfl rfl) (Ls (Rdo.move rfl) (Lp rfl rfl ?_)))))))))))))
          refine Lp rfl rfl (Lp rfl rfl (Lp rfl rfl (Ls (Rdo.pick_f rfl rfl) (Ls (Rdo.move rfl) (Lp rfl rfl (Lp rfl rfl (Lp rfl rfl (Lp rfl rfl (Ls (Rdo.pick_f rfl rfl) (Ls (Rdo.assign rfl) (Lnt (Wp.ret ?_))))))))))))
          refine Rt (ResV.tmp rfl ResV.nil) ⟨rfl, rfl⟩
      · rw [decide_eq_false h3] at s3
        rw [decide_eq_false (show ¬ isMsg m from fun h => h3 h.2.2.1)]
        refine Trip.of_body Tryz.func128 rfl Tryz.ntmps128 Tryz.results128 rfl ?_
        refine Wsr ?_
        (refine WpL.step (Stp.boxV rfl (VC.ag _) rfl ?_); intro nb2)
        refine Ls (Rdo.assign rfl) (Lnt (Wsr (Ls (Rdo.fieldAddr0 rfl) (Ls (Rdo.load rfl (Lds.one rfl)) ?_))))
        refine WpL.step (Sc (s1) rfl ?_)
        rintro _ _ ⟨rfl, rfl⟩
        refine Ll ?_
        refine Ls (Rdo.move rfl) (Lw rfl rfl (Rdo.fieldAddr0 rfl) (Lw rfl rfl (Rdo.load rfl (Lds.one rfl)) ?_))
        refine WpL.want rfl rfl rfl (Sc (s2) rfl ?_)
        rintro _ _ ⟨rfl, rfl⟩
        refine Ll ?_
        refine Ls (Rdo.pick_t rfl rfl) (Ls (Rdo.move rfl) (Lw rfl rfl (Rdo.fieldAddr0 rfl) (Lw rfl rfl (Rdo.load rfl (Lds.one rfl)) ?_)))
        refine WpL.want rfl rfl rfl (Sc (s3) rfl ?_)
        rintro _ _ ⟨rfl, rfl⟩
        refine Ll ?_
        refine Ls (Rdo.pick_t rfl rfl) (Ls (Rdo.move rfl) (Lp rfl rfl (Lp rfl rfl (Lp rfl rfl (Ls (Rdo.pick_f rfl rfl) (Ls (Rdo.move rfl) (Lp rfl rfl (Lp rfl rfl (Lp rfl rfl (Ls (Rdo.pick_f rfl rfl) (Ls (Rdo.move rfl) (Lp rfl rfl (Lp rfl rfl ?_)))))))))))))
        refine Lp rfl rfl (Lp rfl rfl (Ls (Rdo.pick_f rfl rfl) (Ls (Rdo.move rfl) (Lp rfl rfl (Lp rfl rfl (Lp rfl rfl (Lp rfl rfl (Ls (Rdo.pick_f rfl rfl) (Ls (Rdo.move rfl) (Lp rfl rfl (Lp rfl rfl (Lp rfl rfl (Lp rfl rfl ?_)))))))))))))
        refine Ls (Rdo.pick_f rfl rfl) (Ls (Rdo.assign rfl) (Lnt (Wp.ret ?_)))
        refine Rt (ResV.tmp rfl ResV.nil) ⟨rfl, rfl⟩
    · rw [decide_eq_false h2] at s2
      rw [decide_eq_false (show ¬ isMsg m from fun h => h2 h.2.1)]
      refine Trip.of_body Tryz.func128 rfl Tryz.ntmps128 Tryz.results128 rfl ?_
      refine Wsr ?_
      (refine WpL.step (Stp.boxV rfl (VC.ag _) rfl ?_); intro nb2)
      refine Ls (Rdo.assign rfl) (Lnt (Wsr (Ls (Rdo.fieldAddr0 rfl) (Ls (Rdo.load rfl (Lds.one rfl)) ?_))))
      refine WpL.step (Sc (s1) rfl ?_)
      rintro _ _ ⟨rfl, rfl⟩
      refine Ll ?_
      refine Ls (Rdo.move rfl) (Lw rfl rfl (Rdo.fieldAddr0 rfl) (Lw rfl rfl (Rdo.load rfl (Lds.one rfl)) ?_))
      refine WpL.want rfl rfl rfl (Sc (s2) rfl ?_)
      rintro _ _ ⟨rfl, rfl⟩
      refine Ll ?_
      refine Ls (Rdo.pick_t rfl rfl) (Ls (Rdo.move rfl) (Lp rfl rfl (Lp rfl rfl (Lp rfl rfl (Ls (Rdo.pick_f rfl rfl) (Ls (Rdo.move rfl) (Lp rfl rfl (Lp rfl rfl (Lp rfl rfl (Ls (Rdo.pick_f rfl rfl) (Ls (Rdo.move rfl) (Lp rfl rfl (Lp rfl rfl ?_)))))))))))))
      refine Lp rfl rfl (Ls (Rdo.pick_f rfl rfl) (Ls (Rdo.move rfl) (Lp rfl rfl (Lp rfl rfl (Lp rfl rfl (Lp rfl rfl (Ls (Rdo.pick_f rfl rfl) (Ls (Rdo.move rfl) (Lp rfl rfl (Lp rfl rfl (Lp rfl rfl (Lp rfl rfl (Ls (Rdo.pick_f rfl rfl) ?_)))))))))))))
      refine Ls (Rdo.move rfl) (Lp rfl rfl (Lp rfl rfl (Lp rfl rfl (Lp rfl rfl (Ls (Rdo.pick_f rfl rfl) (Ls (Rdo.assign rfl) (Lnt (Wp.ret ?_))))))))
      refine Rt (ResV.tmp rfl ResV.nil) ⟨rfl, rfl⟩
  · rw [decide_eq_false h1] at s1
    rw [decide_eq_false (show ¬ isMsg m from fun h => h1 h.1)]
    refine Trip.of_body Tryz.func128 rfl Tryz.ntmps128 Tryz.results128 rfl ?_
    refine Wsr ?_
    (refine WpL.step (Stp.boxV rfl (VC.ag _) rfl ?_); intro nb2)
    refine Ls (Rdo.assign rfl) (Lnt (Wsr (Ls (Rdo.fieldAddr0 rfl) (Ls (Rdo.load rfl (Lds.one rfl)) ?_))))
    refine WpL.step (Sc (s1) rfl ?_)
    rintro _ _ ⟨rfl, rfl⟩
    refine Ll ?_
    refine Ls (Rdo.move rfl) (Lp rfl rfl (Lp rfl rfl (Lp rfl rfl (Ls (Rdo.pick_f rfl rfl) (Ls (Rdo.move rfl) (Lp rfl rfl (Lp rfl rfl (Lp rfl rfl (Ls (Rdo.pick_f rfl rfl) (Ls (Rdo.move rfl) (Lp rfl rfl (Lp rfl rfl (Lp rfl rfl ?_)))))))))))))
    refine Ls (Rdo.pick_f rfl rfl) (Ls (Rdo.move rfl) (Lp rfl rfl (Lp rfl rfl (Lp rfl rfl (Ls (Rdo.pick_f rfl rfl) (Ls (Rdo.move rfl) (Lp rfl rfl (Lp rfl rfl (Lp rfl rfl (Lp rfl rfl (Ls (Rdo.pick_f rfl rfl) (Ls (Rdo.move rfl) (Lp rfl rfl ?_)))))))))))))
    refine Lp rfl rfl (Lp rfl rfl (Lp rfl rfl (Ls (Rdo.pick_f rfl rfl) (Ls (Rdo.move rfl) (Lp rfl rfl (Lp rfl rfl (Lp rfl rfl (Lp rfl rfl (Ls (Rdo.pick_f rfl rfl) (Ls (Rdo.assign rfl) (Lnt (Wp.ret ?_))))))))))))
    refine Rt (ResV.tmp rfl ResV.nil) ⟨rfl, rfl⟩
end Go.Proofs.YtomijhgicennbaaGreat
namespace Go.Proofs.YtomijhgicennbaaGreat
open Go
set_option maxHeartbeats 4000000
set_option linter.unusedSimpArgs false
set_option linter.unusedVariables false
set_option maxRecDepth 20000
def msgB (m : Msg) : List UInt8 := numsB [1, m.kind, m.from_, m.to, m.slot, m.view] ++ rowB m.value ++ votesB m.votes ++ m.tag.l
theorem encMsg_no (m : Msg) (x : (Option Addr × Nat) × (Option Addr × Nat)) (hn : m.votes.length ≤ 100000) (h : ¬ isMsg m) :
    Trip Tryz.prog 88 [.agg (msgCs m x).toArray] [fz (fun g => RdMsg g (msgCs m x) m)] (fun r l => ∃ v, r = .tuple #[v, vi 1] ∧ l = []) := by
  have s1 := isMsg_ok m x hn
  rw [decide_eq_false h] at s1
  refine Trip.of_body Tryz.func88 rfl Tryz.ntmps88 Tryz.results88 rfl ?_
  refine Wsr ?_
  (refine WpL.step (Stp.boxV rfl (VC.ag _) rfl ?_); intro nb2)
  refine Ls (Rdo.assign rfl) (Ls (Rdo.assign rfl) (Lnt (Wp.seq (Wsr ?_))))
  refine Ls (Rdo.load rfl Ld) ?_
  refine WpL.step (Sc (s1) rfl ?_)
  rintro _ _ ⟨rfl, rfl⟩
  refine Ll ?_
  refine Ls (Rdo.not rfl) (Lnt ?_)
  refine Wp.condT rfl ?_
  refine Wsr (Ls (Rdo.assign rfl) (Ls (Rdo.assign rfl) (Lnt (Wp.ret ?_))))
  refine Thn.r ?_
  refine Rt (ResV.tmp rfl (ResV.tmp rfl ResV.nil)) ⟨_, ⟨rfl, rfl⟩⟩
theorem encMsg_yes (m : Msg) (x : (Option Addr × Nat) × (Option Addr × Nat)) (hn : m.votes.length ≤ 100000) (h : isMsg m) :
    Trip Tryz.prog 88 [.agg (msgCs m x).toArray] [fz (fun g => RdMsg g (msgCs m x) m)] (fun r l => ∃ a c, r = .tuple #[.slice a (msgB m).length c, vi 0] ∧ l = [fz (fun g => RdBytes g (.slice a (msgB m).length c) (msgB m))]) := by
  have s1 := isMsg_ok m x hn
  rw [decide_eq_true h] at s1
  have hv : m.value.length ≤ 200 := h.2.2.2.2.2.1
  have hn2 : m.votes.length ≤ 10 := h.2.2.2.2.2.2.1
  refine Trip.gh (Gh.fzAlso (Ψ := fun g => RdMsg g (msgCs m x) m) Pk.here (fun g h => h)) ?_
  refine Trip.gh (Gh.front (Pk.next Pk.here)) ?_
  refine Trip.gh Gh.msg ?_
  obtain ⟨⟨x1, x2⟩, ⟨x3, x4⟩⟩ := x
  simp only at s1 ⊢
  have k1 := numsB_len [1, m.kind, m.from_, m.to, m.slot, m.view]
  simp only [List.length_cons, List.length_nil] at k1
  have k2 : (rowB m.value).length ≤ 9 + m.value.length := by
    have := numB_len 8 m.value.length (by omega)
    simp only [rowB, List.length_append]
    omega
  have k3 : (votesB m.votes).length ≤ 9 + 100 * m.votes.length := by
    have h1 := numB_len 8 m.votes.length (by omega)
    have h2 := votesAll_len m.votes
    simp only [votesB, List.length_append]
    omega
  have hbl : (msgB m).length ≤ 1000000 := by simp only [msgB, List.length_append, m.tag.h]; omega
  have n1 : ∀ wb nb, Trip Tryz.prog 123 [vp wb 0, .slice (some ⟨nb, 0, none⟩) 6 6] [wrA wb [], cel nb 3 [vi 1, vi m.kind, vi m.from_, vi m.to, vi m.slot, vi m.view]] (fun r l => r = .tuple #[] ∧ l = [wrA wb (numsB [1, m.kind, m.from_, m.to, m.slot, m.view])]) := fun wb nb => nums_ok wb nb [] [1, m.kind, m.from_, m.to, m.slot, m.view] (by simp)
  have n2 : ∀ wb nb, Trip Tryz.prog 124 [vp wb 0, .slice (some ⟨nb, 0, none⟩) 1 1] [wrA wb (numsB [1, m.kind, m.from_, m.to, m.slot, m.view]), cel nb 22 [.slice x1 m.value.length x2], fz (fun g => RdBytes g (.slice x1 m.value.length x2) m.value)] (fun r l => r = .tuple #[] ∧ l = [wrA wb (numsB [1, m.kind, m.from_, m.to, m.slot, m.view] ++ rowB m.value), fz (fun g => RdBytes g (.slice x1 m.value.length x2) m.value)]) := fun wb nb => bytes_ok wb nb _ _ m.value (by omega)
  have n3 : ∀ wb, Trip Tryz.prog 125 [vp wb 0, .func (.func 126) #[] #[], .slice x3 m.votes.length x4] [wrA wb (numsB [1, m.kind, m.from_, m.to, m.slot, m.view] ++ rowB m.value), fz (fun g => RdVotes g (.slice x3 m.votes.length x4) m.votes)] (fun r l => r = .tuple #[] ∧ l = [wrA wb (numsB [1, m.kind, m.from_, m.to, m.slot, m.view] ++ rowB m.value ++ votesB m.votes), fz (fun g => RdVotes g (.slice x3 m.votes.length x4) m.votes)]) := fun wb => rowVotes_ok wb _ _ m.votes (by rw [List.length_append]; omega) (by omega)
  have n4 : ∀ wb cb, Trip Tryz.prog 129 [vp wb 0, .slice (some ⟨cb, 7, none⟩) 32 32] [cel cb 34 (msgCs m ((x1, x2), (x3, x4))), wrA wb (numsB [1, m.kind, m.from_, m.to, m.slot, m.view] ++ rowB m.value ++ votesB m.votes)] (fun r l => r = .tuple #[] ∧ l = [cel cb 34 (msgCs m ((x1, x2), (x3, x4))), wrA wb (msgB m)]) := fun wb cb => by
    have e : msgCs m ((x1, x2), (x3, x4)) = [vi m.kind, vi m.from_, vi m.to, vi m.slot, vi m.view, .slice x1 m.value.length x2, .slice x3 m.votes.length x4] ++ (hc m.tag ++ []) := msgC_tag
    rw [e]
    exact raw_cel wb _ cb 7 34 _ [] m.tag rfl (by simp only [List.length_append]; omega)
  have n5 := fun wb => out_ok wb (msgB m) (by omega)
  generalize msgB m = B at *
  refine Trip.of_body Tryz.func88 rfl Tryz.ntmps88 Tryz.results88 rfl ?_
  refine Wsr ?_
  (refine WpL.step (Stp.boxV rfl (VC.ag _) rfl ?_); intro nb2)
  refine Ls (Rdo.assign rfl) (Ls (Rdo.assign rfl) (Lnt (Wp.seq (Wsr ?_))))
  refine Ls (Rdo.load rfl Ld) ?_
  refine WpL.step (Sc (s1) rfl ?_)
  rintro _ _ ⟨rfl, rfl⟩
  refine Ll ?_
  refine Ls (Rdo.not rfl) (Lnt ?_)
  refine Wp.condF rfl ?_
  refine Wp.skip (Thn.n (Wsr ?_))
  (refine WpL.step (Stp.alloc rfl ?_); intro nb22)
  refine Lnt (Wsr (Ls (Rdo.fieldAddr0 rfl) (Ls (Rdo.load rfl (Lds.next (Lds.one rfl))) (Ls (Rdo.fieldAddr0 rfl) (Ls (Rdo.load rfl (Lds.next (Lds.one rfl))) (Ls (Rdo.fieldAddr0 rfl) (Ls (Rdo.load rfl (Lds.next (Lds.one rfl))) (Ls (Rdo.fieldAddr0 rfl) (Ls (Rdo.load rfl (Lds.next (Lds.one rfl))) (Ls (Rdo.fieldAddr0 rfl) (Ls (Rdo.load rfl (Lds.next (Lds.one rfl))) ?_)))))))))))
  (refine WpL.step (Stp.sliceV rfl rfl (VCs.cons (VC.i _ _) (by first | rfl | assumption | (simp <;> done)) (VCs.cons (VC.i _ _) (by first | rfl | assumption | (simp <;> done)) (VCs.cons (VC.i _ _) (by first | rfl | assumption | (simp <;> done)) (VCs.cons (VC.i _ _) (by first | rfl | assumption | (simp <;> done)) (VCs.cons (VC.i _ _) (by first | rfl | assumption | (simp <;> done)) (VCs.cons (VC.i _ _) (by first | rfl | assumption | (simp <;> done)) VCs.nil)))))) (by simp only [List.cons_append, List.nil_append, List.append_nil]; exact rfl) rfl rfl ?_); intro nb37)
  refine WpL.gh (wr00 (by repeat (first | exact Pk.here | apply Pk.next))) ?_
  refine WpL.step (Sc (n1 _ _) rfl ?_)
  rintro _ _ ⟨rfl, rfl⟩
  refine Ll ?_
  refine Lnt (Wsr (Ls (Rdo.fieldAddr0 rfl) (Ls (Rdo.load rfl (Lds.next (Lds.one rfl))) ?_)))
  (refine WpL.step (Stp.sliceV rfl rfl (VCs.cons (VC.sl _ _ _) (by first | rfl | assumption | (simp <;> done)) VCs.nil) (by simp only [List.cons_append, List.nil_append, List.append_nil]; exact rfl) rfl rfl ?_); intro nb9)
  refine WpL.step (Sc (n2 _ _) rfl ?_)
  rintro _ _ ⟨rfl, rfl⟩
  refine Ll ?_
  refine Lnt (Wsr (Ls (Rdo.fieldAddr0 rfl) (Ls (Rdo.load rfl (Lds.next (Lds.next (Lds.one rfl)))) ?_)))
  refine WpL.step (Sc (n3 _) rfl ?_)
  rintro _ _ ⟨rfl, rfl⟩
  refine Ll ?_
  refine Lnt (Wsr (Ls (Rdo.fieldAddr0 rfl) (Ls (Rdo.slArr rfl) ?_)))
  refine WpL.step (Sc (n4 _ _) rfl ?_)
  rintro _ _ ⟨rfl, rfl⟩
  refine Ll ?_
  refine Lnt (Wsr ?_)
  refine WpL.step (Sc (n5 _) rfl ?_)
  rintro _ _ ⟨v36_0, ⟨v36_1, ⟨rfl, rfl⟩⟩⟩
  refine Ll ?_
  refine Ls (Rdo.assign rfl) (Ls (Rdo.assign rfl) (Lnt (Wp.ret ?_)))
  refine Rt (ResV.tmp rfl (ResV.tmp rfl ResV.nil)) ⟨_, ⟨_, ⟨rfl, rfl⟩⟩⟩
end Go.Proofs.YtomijhgicennbaaGreat
namespace Go.Proofs.YtomijhgicennbaaGreat
open Go
set_option maxHeartbeats 4000000
set_option linter.unusedSimpArgs false
set_option linter.unusedVariables false
set_option maxRecDepth 20000
def RdRows (g : FH) (css : List (List Value)) (ms : List Msg) : Prop := (∀ c ∈ css, c.length = 39) ∧ All2 (RdMsg g) css ms
theorem RdRows.mono (css : List (List Value)) (ms : List Msg) : Mono fun g => RdRows g css ms := fun g g' hle ⟨h1, h2⟩ => ⟨h1, h2.mono fun c m h => RdMsg.mono c m g g' hle h⟩
theorem RdRows.app {g : FH} {css css' : List (List Value)} {ms ms' : List Msg} (h : RdRows g css ms) (h' : RdRows g css' ms') : RdRows g (css ++ css') (ms ++ ms') :=
  ⟨fun x hx => (List.mem_append.1 hx).elim (h.1 x) (h'.1 x), h.2.append h'.2⟩
theorem RdRows.one {g : FH} {c : List Value} {m : Msg} (hc : c.length = 39) (hm : RdMsg g c m) : RdRows g [c] [m] := ⟨fun x hx => by rw [List.mem_singleton.1 hx]; exact hc, .cons hm .nil⟩
theorem RdRows.nil (g : FH) : RdRows g [] [] := ⟨by simp, .nil⟩
abbrev mrF (p : Option Addr × Nat) (ms : List Msg) : HP := fz (fun g => RdMsgs g (.slice p.1 ms.length p.2) ms)
theorem mr_open {l rest : List HP} {p : Option Addr × Nat} {ms : List Msg} (hp : Pk l (mrF p ms) rest) :
    GhE l (fun _ : List (List Value) => True) (fun css => fz (fun g => RdRow g 39 (.slice p.1 ms.length p.2) ms.length css.flatten) :: fz (fun g => RdRows g css ms) :: rest) := by
  have h := GhE.part (φ := fun _ : List (List Value) => True) (Ψ := fun css g => RdRow g 39 (.slice p.1 ms.length p.2) ms.length css.flatten ∧ RdRows g css ms) hp (fun g ⟨css, h1, h2, h3⟩ => ⟨css, trivial, h1, h2, h3⟩)
  refine GhE.mk fun F w hl => ?_
  obtain ⟨x, h1, h2⟩ := h.use hl
  exact ⟨x, h1, (Gh.fz2 Pk.here).use h2⟩
theorem mr_shut {l rest rest' : List HP} {p : Option Addr × Nat} {n : Nat} {ms : List Msg} {css : List (List Value)} (hn : n = ms.length) (h1 : Pk l (rowA 34 39 (.slice p.1 n p.2) n css.flatten) rest) (h2 : Pk rest (fz (fun g => RdRows g css ms)) rest') :
    Gh l (mrF p ms :: rest') := by
  subst hn
  refine Gh.trans (Gh.ice h1) ?_
  exact Gh.trans (Gh.fzAnd (RdRow.mono _ _ _ _) (RdRows.mono _ _) Pk.here h2) (Gh.fzImp Pk.here fun g h => ⟨css, h.1, h.2.1, h.2.2⟩)
theorem mr_nil {l : List HP} (p : Option Addr × Nat) : Gh l (mrF p [] :: l) := Gh.fzTrue fun g => ⟨[], RdRow.nil g 39 _ _, (RdRows.nil g).1, (RdRows.nil g).2⟩
theorem rr_nil {l : List HP} : Gh l (fz (fun g => RdRows g [] []) :: l) := Gh.fzTrue fun g => RdRows.nil g
theorem rr_app {l rest rest' : List HP} {css css' : List (List Value)} {ms ms' : List Msg} (h1 : Pk l (fz (fun g => RdRows g css ms)) rest) (h2 : Pk rest (fz (fun g => RdRows g css' ms')) rest') : Gh l (fz (fun g => RdRows g (css ++ css') (ms ++ ms')) :: rest') :=
  Gh.trans (Gh.fzAnd (RdRows.mono _ _) (RdRows.mono _ _) h1 h2) (Gh.fzImp Pk.here fun g h => h.1.app h.2)
theorem rr_one {l rest : List HP} {x : PX} {m : Msg} (h1 : Pk l (msF x m) rest) : Gh l (fz (fun g => RdRows g [msgCs m x] [m]) :: rest) := Gh.fzImp h1 fun g h => RdRows.one (msgC_length _ _ _ _ _ _ _ _) h
/-- A message's parts. -/
theorem ms_parts {l rest : List HP} {x : PX} {m : Msg} (h1 : Pk l (msF x m) rest) : Gh l (bsF x.1 m.value :: vsF x.2 m.votes :: rest) := by
  obtain ⟨⟨x1, x2⟩, ⟨x3, x4⟩⟩ := x
  exact Gh.trans (Gh.front h1) Gh.msg
theorem ms_partsK {l rest : List HP} {x : PX} {m : Msg} (h1 : Pk l (msF x m) rest) : Gh l (bsF x.1 m.value :: vsF x.2 m.votes :: msF x m :: rest) :=
  Gh.trans (Gh.fzAlso (Ψ := fun g => RdMsg g (msgCs m x) m) h1 fun g h => h) (ms_parts Pk.here)
theorem ms_make {l rest rest' : List HP} {x : PX} {m : Msg} (h1 : Pk l (bsF x.1 m.value) rest) (h2 : Pk rest (vsF x.2 m.votes) rest') : Gh l (msF x m :: rest') := Gh.mkMsg h1 h2
theorem ms_makeK {l rest rest' : List HP} {x : PX} {m : Msg} (h1 : Pk l (bsF x.1 m.value) rest) (h2 : Pk rest (vsF x.2 m.votes) rest') : Gh l (msF x m :: bsF x.1 m.value :: vsF x.2 m.votes :: rest') := by
  refine Gh.trans (Gh.trans (Gh.front h1) (Gh.front (Pk.next h2))) ?_
  refine Gh.trans (Gh.fzAlso (Ψ := fun g => RdVotes g (.slice x.2.1 m.votes.length x.2.2) m.votes) Pk.here fun g h => h) ?_
  refine Gh.trans (Gh.fzAlso (Ψ := fun g => RdBytes g (.slice x.1.1 m.value.length x.1.2) m.value) (Pk.next (Pk.next Pk.here)) fun g h => h) ?_
  exact ms_make (x := x) (m := m) Pk.here (Pk.next Pk.here)
theorem bodyP_ok (m : Msg) (x : PX) (hv : m.value.length ≤ 100000) (hn : m.votes.length ≤ 1000) :
    Trip Tryz.prog 87 [.agg (msgCs m x).toArray] [bsF x.1 m.value, vsF x.2 m.votes]
      (fun r l => ∃ a c, r = .slice a (msgBody m).length c ∧ l = [bsF (a, c) (msgBody m), bsF x.1 m.value, vsF x.2 m.votes]) := by
  refine Trip.gh (ms_makeK (x := x) (m := m) Pk.here Pk.here) ?_
  refine Trip.via (msgBody_ok m x hv hn) (rest := [bsF x.1 m.value, vsF x.2 m.votes]) (by repeat (first | exact Tk.nil | apply Tk.cons (by repeat (first | exact Pk.here | apply Pk.next)))) ?_
  rintro r l ⟨a, c, rfl, rfl⟩
  exact ⟨_, ⟨a, c, rfl, rfl⟩, Gk⟩
end Go.Proofs.YtomijhgicennbaaGreat
namespace Go.Proofs.YtomijhgicennbaaGreat
open Go
set_option maxHeartbeats 4000000
set_option linter.unusedSimpArgs false
set_option linter.unusedVariables false
set_option maxRecDepth 20000
theorem voteC_view (v : Vote) : (voteC v)[2]? = some (vi v.view) := rfl
theorem proves_ok (rb : Nat) (keys : List Hash) (hk : keys.length ≤ 10) (p q : Option Addr × Nat) (vs : List Vote) (hn : vs.length ≤ 1000000) (slot below : Int) (value : List UInt8) (hv : value.length ≤ 1000000) :
    Trip Tryz.prog 154 [vp rb 0, .slice p.1 vs.length p.2, vi slot, vi below, .slice q.1 value.length q.2] [ringF rb keys, vsF p vs, bsF q value]
      (fun r l => r = .tuple #[vi (provesL keys vs slot below value).1, vb (provesL keys vs slot below value).2] ∧ l = [ringF rb keys, vsF p vs, bsF q value]) := by
  obtain ⟨a, c⟩ := p
  obtain ⟨a2, c2⟩ := q
  simp only [vsF, bsF]
  have s1 := vsum_ok a2 c2 value (by omega)
  cases vs with
  | nil =>
    simp only [provesL, List.length_nil]
    refine Trip.of_body Tryz.func154 rfl Tryz.ntmps154 Tryz.results154 rfl ?_
    refine Wsr (Ls (Rdo.assign rfl) (Ls (Rdo.assign rfl) (Lnt (Wp.seq (Wp.seq ?_)))))
    refine Wp.draw (by kernel_rfl) ?_
    refine Qt (i := 0) rfl (Rdo.move rfl) (Qt (i := 1) rfl (Rdo.lenSlice rfl) (Qt (i := 2) rfl (Rdo.eqi rfl rfl) (Qt (i := 3) rfl (Rdo.move rfl) (Qp (i := 4) rfl rfl rfl (Qp (i := 5) rfl rfl rfl (Qp (i := 6) rfl rfl rfl (Qp (i := 7) rfl rfl rfl (Qp (i := 8) rfl rfl rfl (Qt (i := 9) rfl (Rdo.pick_t rfl rfl) (Qt (i := 10) rfl (Rdo.move rfl) (Qp (i := 11) rfl rfl rfl (Qp (i := 12) rfl rfl rfl (Qp (i := 13) rfl rfl rfl ?_)))))))))))))
    refine Qp (i := 14) rfl rfl rfl (Qp (i := 15) rfl rfl rfl (Qp (i := 16) rfl rfl rfl (Qt (i := 17) rfl (Rdo.pick_t rfl rfl) (Qt (i := 18) rfl (Rdo.move rfl) (Qp (i := 19) rfl rfl rfl (Qp (i := 20) rfl rfl rfl (Qp (i := 21) rfl rfl rfl (Qp (i := 22) rfl rfl rfl (Qp (i := 23) rfl rfl rfl (Qp (i := 24) rfl rfl rfl (Qp (i := 25) rfl rfl rfl (Qp (i := 26) rfl rfl rfl (Qp (i := 27) rfl rfl rfl ?_)))))))))))))
    refine Qp (i := 28) rfl rfl rfl (Qp (i := 29) rfl rfl rfl (Qt (i := 30) rfl (Rdo.pick_t rfl rfl) ?_))
    refine WpR.done (by kernel_rfl) ?_
    refine Thn.n ?_
    refine Wp.condT rfl ?_
    refine Wsr (Ls (Rdo.assign rfl) (Ls (Rdo.assign rfl) (Lnt (Wp.ret ?_))))
    refine Thn.r ?_
    refine Rt (ResV.tmp rfl (ResV.tmp rfl ResV.nil)) ⟨rfl, rfl⟩
  | cons v vs =>
    have hne : ¬ ((v :: vs).length : Int) = 0 := by simp only [List.length_cons]; omega
    have h0 : (0 : Int) < (v :: vs).length := by simp only [List.length_cons]; omega
    have h0' : 0 < (v :: vs).length := by simp
    have hv0 : (v :: vs)[0]? = some v := rfl
    refine Trip.get (Pk.next Pk.here) (row_some h0') ?_
    rintro ⟨b, o, rfl⟩
    have s2 := meets_ok rb keys hk (some ⟨b, o, none⟩) c (v :: vs) hn 1 slot v.view (dHash value)
    have e0 : provesL keys (v :: vs) slot below value = if v.view < 0 ∨ below ≤ v.view ∨ meetsV keys (v :: vs) 1 slot v.view (dHash value) = false then (-1, false) else (v.view, true) := rfl
    have h2 := voteC_view v
    generalize hvs : v :: vs = ws at *
    by_cases b1 : v.view < 0
    · rw [if_pos (.inl b1)] at e0
      rw [e0]
      refine Trip.of_body Tryz.func154 rfl Tryz.ntmps154 Tryz.results154 rfl ?_
      refine Wsr (Ls (Rdo.assign rfl) (Ls (Rdo.assign rfl) (Lnt (Wp.seq (Wp.seq ?_)))))
      refine Wp.draw (by kernel_rfl) ?_
      refine Qt (i := 0) rfl (Rdo.move rfl) (Qt (i := 1) rfl (Rdo.lenSlice rfl) (Qt (i := 2) rfl (Rdo.eqi rfl rfl) (Qt (i := 3) rfl (Rdo.move rfl) ?_)))
      refine WpR.tF 15 rfl (by first | rfl | assumption | (simp only [decide_eq_true_eq, decide_eq_false_iff_not, Bool.not_eq_true', Bool.not_eq_false', List.length_cons, List.length_nil]; first | assumption | omega) | (simp <;> done) | (simp <;> omega)) ?_
      refine Qw (i := 4) rfl rfl rfl (Rdo.move rfl) ?_
      refine Qw (i := 5) rfl rfl rfl (Rdo.indexSliceE (i := 0) rfl rfl rfl (by first | omega | (simp <;> omega))) ?_
      refine Qw (i := 6) rfl rfl rfl (Rdo.fieldAddr rfl) ?_
      refine WpR.oneG (i := 7) rfl rfl rfl rfl (by kernel_rfl) (Stp.rd (Rdo.load rfl (Lds.next (Lds.fzFV (by assumption) (by first | rfl | assumption)))) rfl ?_)
      refine Qw (i := 8) rfl rfl rfl (Rdo.lti rfl rfl) (Qt (i := 9) rfl (Rdo.pick_f rfl rfl) (Qt (i := 10) rfl (Rdo.move rfl) ?_))
      refine WpR.tT 22 rfl (by first | rfl | assumption | (simp only [decide_eq_true_eq, decide_eq_false_iff_not, Bool.not_eq_true', Bool.not_eq_false', List.length_cons, List.length_nil]; first | assumption | omega) | (simp <;> done) | (simp <;> omega)) ?_
      refine Qp (i := 11) rfl rfl rfl (Qp (i := 12) rfl rfl rfl (Qp (i := 13) rfl rfl rfl (Qp (i := 14) rfl rfl rfl (Qp (i := 15) rfl rfl rfl (Qp (i := 16) rfl rfl rfl (Qt (i := 17) rfl (Rdo.pick_t rfl rfl) (Qt (i := 18) rfl (Rdo.move rfl) (Qp (i := 19) rfl rfl rfl (Qp (i := 20) rfl rfl rfl (Qp (i := 21) rfl rfl rfl (Qp (i := 22) rfl rfl rfl (Qp (i := 23) rfl rfl rfl (Qp (i := 24) rfl rfl rfl ?_)))))))))))))
      refine Qp (i := 25) rfl rfl rfl (Qp (i := 26) rfl rfl rfl (Qp (i := 27) rfl rfl rfl (Qp (i := 28) rfl rfl rfl (Qp (i := 29) rfl rfl rfl (Qt (i := 30) rfl (Rdo.pick_t rfl rfl) ?_)))))
      refine WpR.done (by kernel_rfl) ?_
      refine Thn.n ?_
      refine Wp.condT rfl ?_
      refine Wsr (Ls (Rdo.assign rfl) (Ls (Rdo.assign rfl) (Lnt (Wp.ret ?_))))
      refine Thn.r ?_
      refine Rt (ResV.tmp rfl (ResV.tmp rfl ResV.nil)) ⟨rfl, rfl⟩
    by_cases b2 : below ≤ v.view
    · rw [if_pos (.inr (.inl b2))] at e0
      rw [e0]
      refine Trip.of_body Tryz.func154 rfl Tryz.ntmps154 Tryz.results154 rfl ?_
      refine Wsr (Ls (Rdo.assign rfl) (Ls (Rdo.assign rfl) (Lnt (Wp.seq (Wp.seq ?_)))))
      refine Wp.draw (by kernel_rfl) ?_
      refine Qt (i := 0) rfl (Rdo.move rfl) (Qt (i := 1) rfl (Rdo.lenSlice rfl) (Qt (i := 2) rfl (Rdo.eqi rfl rfl) (Qt (i := 3) rfl (Rdo.move rfl) ?_)))
      refine WpR.tF 15 rfl (by first | rfl | assumption | (simp only [decide_eq_true_eq, decide_eq_false_iff_not, Bool.not_eq_true', Bool.not_eq_false', List.length_cons, List.length_nil]; first | assumption | omega) | (simp <;> done) | (simp <;> omega)) ?_
      refine Qw (i := 4) rfl rfl rfl (Rdo.move rfl) ?_
      refine Qw (i := 5) rfl rfl rfl (Rdo.indexSliceE (i := 0) rfl rfl rfl (by first | omega | (simp <;> omega))) ?_
      refine Qw (i := 6) rfl rfl rfl (Rdo.fieldAddr rfl) ?_
      refine WpR.oneG (i := 7) rfl rfl rfl rfl (by kernel_rfl) (Stp.rd (Rdo.load rfl (Lds.next (Lds.fzFV (by assumption) (by first | rfl | assumption)))) rfl ?_)
      refine Qw (i := 8) rfl rfl rfl (Rdo.lti rfl rfl) (Qt (i := 9) rfl (Rdo.pick_f rfl rfl) (Qt (i := 10) rfl (Rdo.move rfl) ?_))
      refine WpR.tF 22 rfl (by first | rfl | assumption | (simp only [decide_eq_true_eq, decide_eq_false_iff_not, Bool.not_eq_true', Bool.not_eq_false', List.length_cons, List.length_nil]; first | assumption | omega) | (simp <;> done) | (simp <;> omega)) ?_
      refine Qw (i := 11) rfl rfl rfl (Rdo.move rfl) ?_
      refine Qw (i := 12) rfl rfl rfl (Rdo.indexSliceE (i := 0) rfl rfl rfl (by first | omega | (simp <;> omega))) ?_
      refine Qw (i := 13) rfl rfl rfl (Rdo.fieldAddr rfl) (Qw (i := 15) rfl rfl rfl (Rdo.move rfl) ?_)
      refine WpR.oneG (i := 14) rfl rfl rfl rfl (by kernel_rfl) (Stp.rd (Rdo.load rfl (Lds.next (Lds.fzFV (by assumption) (by first | rfl | assumption)))) rfl ?_)
      refine Qw (i := 16) rfl rfl rfl (Rdo.gei rfl rfl) (Qt (i := 17) rfl (Rdo.pick_f rfl rfl) (Qt (i := 18) rfl (Rdo.move rfl) ?_))
      refine WpR.tT 30 rfl (by first | rfl | assumption | (simp only [decide_eq_true_eq, decide_eq_false_iff_not, Bool.not_eq_true', Bool.not_eq_false', List.length_cons, List.length_nil]; first | assumption | omega) | (simp <;> done) | (simp <;> omega)) ?_
      refine Qp (i := 19) rfl rfl rfl (Qp (i := 20) rfl rfl rfl (Qp (i := 21) rfl rfl rfl (Qp (i := 22) rfl rfl rfl (Qp (i := 23) rfl rfl rfl (Qp (i := 24) rfl rfl rfl (Qp (i := 25) rfl rfl rfl (Qp (i := 26) rfl rfl rfl (Qp (i := 27) rfl rfl rfl (Qp (i := 28) rfl rfl rfl (Qp (i := 29) rfl rfl rfl (Qt (i := 30) rfl (Rdo.pick_t rfl rfl) ?_)))))))))))
      refine WpR.done (by kernel_rfl) ?_
      refine Thn.n ?_
      refine Wp.condT rfl ?_
      refine Wsr (Ls (Rdo.assign rfl) (Ls (Rdo.assign rfl) (Lnt (Wp.ret ?_))))
      refine Thn.r ?_
      refine Rt (ResV.tmp rfl (ResV.tmp rfl ResV.nil)) ⟨rfl, rfl⟩
    generalize hm : meetsV keys ws 1 slot v.view (dHash value) = m at *
    cases m with
    | false =>
      rw [if_pos (by simp)] at e0
      rw [e0]
      refine Trip.of_body Tryz.func154 rfl Tryz.ntmps154 Tryz.results154 rfl ?_
      refine Wsr (Ls (Rdo.assign rfl) (Ls (Rdo.assign rfl) (Lnt (Wp.seq (Wp.seq ?_)))))
      refine Wp.draw (by kernel_rfl) ?_
      refine Qt (i := 0) rfl (Rdo.move rfl) (Qt (i := 1) rfl (Rdo.lenSlice rfl) (Qt (i := 2) rfl (Rdo.eqi rfl rfl) (Qt (i := 3) rfl (Rdo.move rfl) ?_)))
      refine WpR.tF 15 rfl (by first | rfl | assumption | (simp only [decide_eq_true_eq, decide_eq_false_iff_not, Bool.not_eq_true', Bool.not_eq_false', List.length_cons, List.length_nil]; first | assumption | omega) | (simp <;> done) | (simp <;> omega)) ?_
      refine Qw (i := 4) rfl rfl rfl (Rdo.move rfl) ?_
      refine Qw (i := 5) rfl rfl rfl (Rdo.indexSliceE (i := 0) rfl rfl rfl (by first | omega | (simp <;> omega))) ?_
      refine Qw (i := 6) rfl rfl rfl (Rdo.fieldAddr rfl) ?_
      refine WpR.oneG (i := 7) rfl rfl rfl rfl (by kernel_rfl) (Stp.rd (Rdo.load rfl (Lds.next (Lds.fzFV (by assumption) (by first | rfl | assumption)))) rfl ?_)
      refine Qw (i := 8) rfl rfl rfl (Rdo.lti rfl rfl) (Qt (i := 9) rfl (Rdo.pick_f rfl rfl) (Qt (i := 10) rfl (Rdo.move rfl) ?_))
      refine WpR.tF 22 rfl (by first | rfl | assumption | (simp only [decide_eq_true_eq, decide_eq_false_iff_not, Bool.not_eq_true', Bool.not_eq_false', List.length_cons, List.length_nil]; first | assumption | omega) | (simp <;> done) | (simp <;> omega)) ?_
      refine Qw (i := 11) rfl rfl rfl (Rdo.move rfl) ?_
      refine Qw (i := 12) rfl rfl rfl (Rdo.indexSliceE (i := 0) rfl rfl rfl (by first | omega | (simp <;> omega))) ?_
      refine Qw (i := 13) rfl rfl rfl (Rdo.fieldAddr rfl) (Qw (i := 15) rfl rfl rfl (Rdo.move rfl) ?_)
      refine WpR.oneG (i := 14) rfl rfl rfl rfl (by kernel_rfl) (Stp.rd (Rdo.load rfl (Lds.next (Lds.fzFV (by assumption) (by first | rfl | assumption)))) rfl ?_)
      refine Qw (i := 16) rfl rfl rfl (Rdo.gei rfl rfl) (Qt (i := 17) rfl (Rdo.pick_f rfl rfl) (Qt (i := 18) rfl (Rdo.move rfl) ?_))
      refine WpR.tF 30 rfl (by first | rfl | assumption | (simp only [decide_eq_true_eq, decide_eq_false_iff_not, Bool.not_eq_true', Bool.not_eq_false', List.length_cons, List.length_nil]; first | assumption | omega) | (simp <;> done) | (simp <;> omega)) ?_
      refine Qw (i := 19) rfl rfl rfl (Rdo.move rfl) (Qw (i := 20) rfl rfl rfl (Rdo.move rfl) (Qw (i := 21) rfl rfl rfl (Rdo.move rfl) (Qw (i := 22) rfl rfl rfl (Rdo.move rfl) ?_)))
      refine Qw (i := 23) rfl rfl rfl (Rdo.indexSliceE (i := 0) rfl rfl rfl (by first | omega | (simp <;> omega))) ?_
      refine Qw (i := 24) rfl rfl rfl (Rdo.fieldAddr rfl) (Qw (i := 26) rfl rfl rfl (Rdo.move rfl) ?_)
      refine WpR.phaseT (m := 3) #[true, true, true, true, true, true, true, true, true, true, true, true, true, true, true, true, true, true, true, true, true, true, true, true, true, true, true, true, false, false, false] 2 _ (by kernel_rfl) (Tk.cons Pk.here (Tk.cons Pk.here Tk.nil)) ?_
      refine Aw (i := 25) rfl rfl rfl (Rdo.load rfl (Lds.next (Lds.fzFV (by assumption) (by first | rfl | assumption)))) ?_
      refine WpA.oneG (i := 27) rfl rfl rfl rfl (by kernel_rfl) (Sc (s1) rfl ?_)
      rintro _ _ ⟨rfl, rfl⟩
      refine WpA.lst (by simp only [List.cons_append, List.nil_append]; exact rfl) ?_
      refine WpA.stop (by kernel_rfl) ?_
      refine Ql ?_
      refine WpR.oneG (i := 28) rfl rfl rfl rfl (by kernel_rfl) (Sc (s2) rfl ?_)
      rintro _ _ ⟨rfl, rfl⟩
      refine Ql ?_
      refine Qw (i := 29) rfl rfl rfl (Rdo.not rfl) (Qt (i := 30) rfl (Rdo.pick_f rfl rfl) ?_)
      refine WpR.done (by kernel_rfl) ?_
      refine Thn.n ?_
      refine Wp.condT rfl ?_
      refine Wsr (Ls (Rdo.assign rfl) (Ls (Rdo.assign rfl) (Lnt (Wp.ret ?_))))
      refine Thn.r ?_
      refine Rt (ResV.tmp rfl (ResV.tmp rfl ResV.nil)) ⟨rfl, rfl⟩
    | true =>
      rw [if_neg (by simp; omega)] at e0
      rw [e0]
      refine Trip.of_body Tryz.func154 rfl Tryz.ntmps154 Tryz.results154 rfl ?_
      refine Wsr (Ls (Rdo.assign rfl) (Ls (Rdo.assign rfl) (Lnt (Wp.seq (Wp.seq ?_)))))
      refine Wp.draw (by kernel_rfl) ?_
      refine Qt (i := 0) rfl (Rdo.move rfl) (Qt (i := 1) rfl (Rdo.lenSlice rfl) (Qt (i := 2) rfl (Rdo.eqi rfl rfl) (Qt (i := 3) rfl (Rdo.move rfl) ?_)))
      refine WpR.tF 15 rfl (by first | rfl | assumption | (simp only [decide_eq_true_eq, decide_eq_false_iff_not, Bool.not_eq_true', Bool.not_eq_false', List.length_cons, List.length_nil]; first | assumption | omega) | (simp <;> done) | (simp <;> omega)) ?_
      refine Qw (i := 4) rfl rfl rfl (Rdo.move rfl) ?_
      refine Qw (i := 5) rfl rfl rfl (Rdo.indexSliceE (i := 0) rfl rfl rfl (by first | omega | (simp <;> omega))) ?_
      refine Qw (i := 6) rfl rfl rfl (Rdo.fieldAddr rfl) ?_
      refine WpR.oneG (i := 7) rfl rfl rfl rfl (by kernel_rfl) (Stp.rd (Rdo.load rfl (Lds.next (Lds.fzFV (by assumption) (by first | rfl | assumption)))) rfl ?_)
      refine Qw (i := 8) rfl rfl rfl (Rdo.lti rfl rfl) (Qt (i := 9) rfl (Rdo.pick_f rfl rfl) (Qt (i := 10) rfl (Rdo.move rfl) ?_))
      refine WpR.tF 22 rfl (by first | rfl | assumption | (simp only [decide_eq_true_eq, decide_eq_false_iff_not, Bool.not_eq_true', Bool.not_eq_false', List.length_cons, List.length_nil]; first | assumption | omega) | (simp <;> done) | (simp <;> omega)) ?_
      refine Qw (i := 11) rfl rfl rfl (Rdo.move rfl) ?_
      refine Qw (i := 12) rfl rfl rfl (Rdo.indexSliceE (i := 0) rfl rfl rfl (by first | omega | (simp <;> omega))) ?_
      refine Qw (i := 13) rfl rfl rfl (Rdo.fieldAddr rfl) (Qw (i := 15) rfl rfl rfl (Rdo.move rfl) ?_)
      refine WpR.oneG (i := 14) rfl rfl rfl rfl (by kernel_rfl) (Stp.rd (Rdo.load rfl (Lds.next (Lds.fzFV (by assumption) (by first | rfl | assumption)))) rfl ?_)
      refine Qw (i := 16) rfl rfl rfl (Rdo.gei rfl rfl) (Qt (i := 17) rfl (Rdo.pick_f rfl rfl) (Qt (i := 18) rfl (Rdo.move rfl) ?_))
      refine WpR.tF 30 rfl (by first | rfl | assumption | (simp only [decide_eq_true_eq, decide_eq_false_iff_not, Bool.not_eq_true', Bool.not_eq_false', List.length_cons, List.length_nil]; first | assumption | omega) | (simp <;> done) | (simp <;> omega)) ?_
      refine Qw (i := 19) rfl rfl rfl (Rdo.move rfl) (Qw (i := 20) rfl rfl rfl (Rdo.move rfl) (Qw (i := 21) rfl rfl rfl (Rdo.move rfl) (Qw (i := 22) rfl rfl rfl (Rdo.move rfl) ?_)))
      refine Qw (i := 23) rfl rfl rfl (Rdo.indexSliceE (i := 0) rfl rfl rfl (by first | omega | (simp <;> omega))) ?_
      refine Qw (i := 24) rfl rfl rfl (Rdo.fieldAddr rfl) (Qw (i := 26) rfl rfl rfl (Rdo.move rfl) ?_)
      refine WpR.phaseT (m := 3) #[true, true, true, true, true, true, true, true, true, true, true, true, true, true, true, true, true, true, true, true, true, true, true, true, true, true, true, true, false, false, false] 2 _ (by kernel_rfl) (Tk.cons Pk.here (Tk.cons Pk.here Tk.nil)) ?_
      refine Aw (i := 25) rfl rfl rfl (Rdo.load rfl (Lds.next (Lds.fzFV (by assumption) (by first | rfl | assumption)))) ?_
      refine WpA.oneG (i := 27) rfl rfl rfl rfl (by kernel_rfl) (Sc (s1) rfl ?_)
      rintro _ _ ⟨rfl, rfl⟩
      refine WpA.lst (by simp only [List.cons_append, List.nil_append]; exact rfl) ?_
      refine WpA.stop (by kernel_rfl) ?_
      refine Ql ?_
      refine WpR.oneG (i := 28) rfl rfl rfl rfl (by kernel_rfl) (Sc (s2) rfl ?_)
      rintro _ _ ⟨rfl, rfl⟩
      refine Ql ?_
      refine Qw (i := 29) rfl rfl rfl (Rdo.not rfl) (Qt (i := 30) rfl (Rdo.pick_f rfl rfl) ?_)
      refine WpR.done (by kernel_rfl) ?_
      refine Thn.n ?_
      refine Wp.condF rfl ?_
      refine Wp.skip (Thn.n (Wsr (Ls (Rdo.move rfl) ?_)))
      refine Ls (Rdo.indexSliceE (i := 0) rfl rfl rfl (by first | omega | (simp <;> omega))) ?_
      refine Ls (Rdo.fieldAddr rfl) ?_
      refine Ls (Rdo.load rfl (Lds.next (Lds.fzFV (by assumption) (by first | rfl | assumption)))) ?_
      refine Ls (Rdo.assign rfl) (Ls (Rdo.assign rfl) (Lnt (Wp.ret ?_)))
      refine Rt (ResV.tmp rfl (ResV.tmp rfl ResV.nil)) ⟨rfl, rfl⟩
theorem may_ok (rb : Nat) (keys : List Hash) (hk : keys.length ≤ 10) (k : LockS) (x : PX) (p q : Option Addr × Nat) (why : List Vote) (hn : why.length ≤ 1000000) (slot view : Int) (value : List UInt8) (hv : value.length ≤ 1000000) :
    Trip Tryz.prog 117 [vp rb 0, .agg (lockC k x).toArray, vi slot, vi view, .slice q.1 value.length q.2, .slice p.1 why.length p.2] [ringF rb keys, bsF x.1 k.value, bsF q value, vsF p why]
      (fun r l => r = vb (mayL keys k slot view value why) ∧ l = [ringF rb keys, bsF x.1 k.value, bsF q value, vsF p why]) := by
  have s1 := beq_ok x.1.1 q.1 x.1.2 q.2 k.value value
  have s2 := proves_ok rb keys hk p q why hn slot view value hv
  obtain ⟨a, c⟩ := p
  obtain ⟨a2, c2⟩ := q
  obtain ⟨⟨x1, x2⟩, ⟨x3, x4⟩⟩ := x
  simp only [vsF, bsF] at *
  unfold mayL
  generalize provesL keys why slot view value = w at *
  obtain ⟨w1, w2⟩ := w
  by_cases b1 : k.view = -1
  · rw [if_pos (.inl b1)]
    refine Trip.of_body Tryz.func117 rfl Tryz.ntmps117 Tryz.results117 rfl ?_
    refine Wsr ?_
    (refine WpL.step (Stp.boxV rfl (VC.ag _) rfl ?_); intro nb2)
    refine Ls (Rdo.assign rfl) (Lnt (Wp.seq (Wsr (Ls (Rdo.fieldAddr0 rfl) (Ls (Rdo.load rfl (Lds.one rfl)) (Ls (Rdo.eqi rfl rfl) (Ls (Rdo.move rfl) (Lg rfl rfl (Lp rfl rfl (Lp rfl rfl (Lp rfl rfl (Lp rfl rfl (Ls (Rdo.pick_t rfl rfl) ?_)))))))))))))
    refine Lnt ?_
    refine Wp.condT rfl ?_
    refine Wsr (Ls (Rdo.assign rfl) (Lnt (Wp.ret ?_)))
    refine Thn.r ?_
    refine Rt (ResV.tmp rfl ResV.nil) ⟨rfl, rfl⟩
  by_cases b2 : k.value = value
  · rw [if_pos (.inr b2)]
    refine Trip.of_body Tryz.func117 rfl Tryz.ntmps117 Tryz.results117 rfl ?_
    refine Wsr ?_
    (refine WpL.step (Stp.boxV rfl (VC.ag _) rfl ?_); intro nb2)
    refine Ls (Rdo.assign rfl) (Lnt (Wp.seq (Wsr (Ls (Rdo.fieldAddr0 rfl) (Ls (Rdo.load rfl (Lds.one rfl)) (Ls (Rdo.eqi rfl rfl) (Ls (Rdo.move rfl) (Lf rfl rfl (Lw rfl rfl (Rdo.fieldAddr0 rfl) (Lw rfl rfl (Rdo.load rfl (Lds.one rfl)) (Lw rfl rfl (Rdo.move rfl) ?_)))))))))))
    refine WpL.want rfl rfl rfl (Sc (s1) rfl ?_)
    rintro _ _ ⟨rfl, rfl⟩
    refine Ll ?_
    refine Ls (Rdo.pick_f rfl rfl) (Lnt (cK rfl (Wsr (Ls (Rdo.assign rfl) (Lnt (Wp.ret ?_))))))
    refine Thn.r ?_
    refine Rt (ResV.tmp rfl ResV.nil) ⟨rfl, rfl⟩
  · rw [if_neg (by simp [b1, b2])]
    cases w2 <;> simp only [Bool.false_and, Bool.true_and]
    · refine Trip.of_body Tryz.func117 rfl Tryz.ntmps117 Tryz.results117 rfl ?_
      refine Wsr ?_
      (refine WpL.step (Stp.boxV rfl (VC.ag _) rfl ?_); intro nb2)
      refine Ls (Rdo.assign rfl) (Lnt (Wp.seq (Wsr (Ls (Rdo.fieldAddr0 rfl) (Ls (Rdo.load rfl (Lds.one rfl)) (Ls (Rdo.eqi rfl rfl) (Ls (Rdo.move rfl) (Lf rfl rfl (Lw rfl rfl (Rdo.fieldAddr0 rfl) (Lw rfl rfl (Rdo.load rfl (Lds.one rfl)) (Lw rfl rfl (Rdo.move rfl) ?_)))))))))))
      refine WpL.want rfl rfl rfl (Sc (s1) rfl ?_)
      rintro _ _ ⟨rfl, rfl⟩
      refine Ll ?_
      refine Ls (Rdo.pick_f rfl rfl) (Lnt (cL rfl (Wp.skip (Thn.n (Wsr (Ls (Rdo.move rfl) (Ls (Rdo.move rfl) (Ls (Rdo.move rfl) (Ls (Rdo.move rfl) (Ls (Rdo.move rfl) ?_))))))))))
      refine WpL.step (Sc (s2) rfl ?_)
      rintro _ _ ⟨rfl, rfl⟩
      refine Ll ?_
      refine Ls (Rdo.move rfl) (Ls (Rdo.extract rfl rfl) (Ls (Rdo.extract rfl rfl) (Ls (Rdo.assign rfl) (Ls (Rdo.assign rfl) (Lnt (Wsr (Ls (Rdo.move rfl) (Ls (Rdo.move rfl) (Lp rfl rfl (Lp rfl rfl (Lp rfl rfl (Lp rfl rfl (Ls (Rdo.pick_f rfl rfl) ?_)))))))))))))
      refine Ls (Rdo.assign rfl) (Lnt (Wp.ret ?_))
      refine Rt (ResV.tmp rfl ResV.nil) ⟨rfl, rfl⟩
    · refine Trip.of_body Tryz.func117 rfl Tryz.ntmps117 Tryz.results117 rfl ?_
      refine Wsr ?_
      (refine WpL.step (Stp.boxV rfl (VC.ag _) rfl ?_); intro nb2)
      refine Ls (Rdo.assign rfl) (Lnt (Wp.seq (Wsr (Ls (Rdo.fieldAddr0 rfl) (Ls (Rdo.load rfl (Lds.one rfl)) (Ls (Rdo.eqi rfl rfl) (Ls (Rdo.move rfl) (Lf rfl rfl (Lw rfl rfl (Rdo.fieldAddr0 rfl) (Lw rfl rfl (Rdo.load rfl (Lds.one rfl)) (Lw rfl rfl (Rdo.move rfl) ?_)))))))))))
      refine WpL.want rfl rfl rfl (Sc (s1) rfl ?_)
      rintro _ _ ⟨rfl, rfl⟩
      refine Ll ?_
      refine Ls (Rdo.pick_f rfl rfl) (Lnt (cL rfl (Wp.skip (Thn.n (Wsr (Ls (Rdo.move rfl) (Ls (Rdo.move rfl) (Ls (Rdo.move rfl) (Ls (Rdo.move rfl) (Ls (Rdo.move rfl) ?_))))))))))
      refine WpL.step (Sc (s2) rfl ?_)
      rintro _ _ ⟨rfl, rfl⟩
      refine Ll ?_
      refine Ls (Rdo.move rfl) (Ls (Rdo.extract rfl rfl) (Ls (Rdo.extract rfl rfl) (Ls (Rdo.assign rfl) (Ls (Rdo.assign rfl) (Lnt (Wsr (Ls (Rdo.move rfl) (Ls (Rdo.move rfl) (Lw rfl rfl (Rdo.move rfl) (Lw rfl rfl (Rdo.fieldAddr0 rfl) (Lw rfl rfl (Rdo.load rfl (Lds.next (Lds.next (Lds.next (Lds.next (Lds.one rfl)))))) (Lw rfl rfl (Rdo.gti rfl rfl) (Ls (Rdo.pick_t rfl rfl) ?_)))))))))))))
      refine Ls (Rdo.assign rfl) (Lnt (Wp.ret ?_))
      refine Rt (ResV.tmp rfl ResV.nil) ⟨rfl, rfl⟩
end Go.Proofs.YtomijhgicennbaaGreat
namespace Go.Proofs.YtomijhgicennbaaGreat
open Go
set_option maxHeartbeats 4000000
set_option linter.unusedSimpArgs false
set_option linter.unusedVariables false
set_option maxRecDepth 20000
theorem proved_ok (rb : Nat) (keys : List Hash) (hk : keys.length ≤ 10) (k : LockS) (x : PX) (slot below : Int) (hn : k.votes.length ≤ 1000000) (hv : k.value.length ≤ 1000000) :
    Trip Tryz.prog 184 [vp rb 0, vi slot, vi below, .agg (lockC k x).toArray] [ringF rb keys, bsF x.1 k.value, vsF x.2 k.votes]
      (fun r l => ∃ y : PX, r = .agg (lockC (provedL keys slot below k) y).toArray ∧ l = [ringF rb keys, bsF y.1 (provedL keys slot below k).value, vsF y.2 (provedL keys slot below k).votes]) := by
  have s1 := proves_ok rb keys hk x.2 x.1 k.votes hn slot below k.value hv
  have s2 := bclone_ok x.1.1 x.1.2 k.value (by omega)
  obtain ⟨⟨x1, x2⟩, ⟨x3, x4⟩⟩ := x
  simp only [vsF, bsF] at *
  unfold provedL
  generalize provesL keys k.votes slot below k.value = w at *
  obtain ⟨w1, w2⟩ := w
  cases w2 with
  | false =>
    simp only [Bool.false_eq_true, if_false]
    refine Trip.of_body Tryz.func184 rfl Tryz.ntmps184 Tryz.results184 rfl ?_
    refine Wsr ?_
    (refine WpL.step (Stp.boxV rfl (VC.ag _) rfl ?_); intro nb2)
    (refine WpL.step (Stp.alloc rfl ?_); intro nb3)
    refine Lnt (Wsr (Ls (Rdo.move rfl) (Ls (Rdo.fieldAddr0 rfl) (Ls (Rdo.load rfl (Lds.next (Lds.one rfl))) (Ls (Rdo.move rfl) (Ls (Rdo.move rfl) (Ls (Rdo.fieldAddr0 rfl) (Ls (Rdo.load rfl (Lds.next (Lds.one rfl))) ?_))))))))
    refine WpL.step (Sc (s1) rfl ?_)
    rintro _ _ ⟨rfl, rfl⟩
    refine Ll ?_
    refine Ls (Rdo.move rfl) (Ls (Rdo.extract rfl rfl) (Ls (Rdo.extract rfl rfl) (Ls (Rdo.assign rfl) (Ls (Rdo.assign rfl) (Lnt (Wp.seq (Wsr (Ls (Rdo.move rfl) (Ls (Rdo.not rfl) (Lnt ?_))))))))))
    refine Wp.condT rfl ?_
    refine Wsr ?_
    refine WpL.step (Sc (free_ok) rfl ?_)
    rintro _ _ ⟨rfl, rfl⟩
    refine Ll ?_
    refine WpL.step (St rfl rfl (VC.ag _) ?_)
    refine Lnt (Wp.ret ?_)
    refine Thn.r ?_
    exact Ret.now (l' := [ringF rb keys, bsF (none, 0) [], vsF (none, 0) []]) (ResV.cell rfl (by repeat (first | exact Lds.one rfl | (apply Lds.all; (first | rfl | assumption | (simp <;> fail))) | exact Lds.ione0 | exact Lds.ione rfl | (apply Lds.iall; (first | rfl | assumption | (simp <;> fail))) | apply Lds.next)) ResV.nil) (Gh.trans (Gh.trans (Gh.noVotes (a := none) (c := 0)) (Gh.noBytes (a := none) (c := 0))) Gk) ⟨((none, 0), (none, 0)), rfl, rfl⟩
  | true =>
    simp only [if_true]
    refine Trip.of_body Tryz.func184 rfl Tryz.ntmps184 Tryz.results184 rfl ?_
    refine Wsr ?_
    (refine WpL.step (Stp.boxV rfl (VC.ag _) rfl ?_); intro nb2)
    (refine WpL.step (Stp.alloc rfl ?_); intro nb3)
    refine Lnt (Wsr (Ls (Rdo.move rfl) (Ls (Rdo.fieldAddr0 rfl) (Ls (Rdo.load rfl (Lds.next (Lds.one rfl))) (Ls (Rdo.move rfl) (Ls (Rdo.move rfl) (Ls (Rdo.fieldAddr0 rfl) (Ls (Rdo.load rfl (Lds.next (Lds.one rfl))) ?_))))))))
    refine WpL.step (Sc (s1) rfl ?_)
    rintro _ _ ⟨rfl, rfl⟩
    refine Ll ?_
    refine Ls (Rdo.move rfl) (Ls (Rdo.extract rfl rfl) (Ls (Rdo.extract rfl rfl) (Ls (Rdo.assign rfl) (Ls (Rdo.assign rfl) (Lnt (Wp.seq (Wsr (Ls (Rdo.move rfl) (Ls (Rdo.not rfl) (Lnt ?_))))))))))
    refine Wp.condF rfl ?_
    refine Wp.skip (Thn.n (Wp.seq ?_))
    refine Wp.draw (by kernel_rfl) ?_
    refine Qt (i := 0) rfl (Rdo.move rfl) (Qt (i := 1) rfl (Rdo.fieldAddr0 rfl) (Qt (i := 5) rfl (Rdo.fieldAddr0 rfl) ?_))
    refine WpR.phaseL (m := 0) #[true, true, true, true, true, true, true, true, true, true] 7 _ rfl (by kernel_rfl) (Tk.cons (Pk.next (Pk.next (Pk.next (Pk.next Pk.here)))) Tk.nil) ?_
    refine At (i := 2) rfl (Rdo.load rfl (Lds.one rfl)) (At (i := 6) rfl (Rdo.load rfl (Lds.one rfl)) ?_)
    refine PendA.start (i := 4) rfl ?_
    refine PendA.one (j := 3) rfl rfl (by kernel_rfl) (by kernel_rfl) (by kernel_rfl) rfl (by simp) rfl rfl (Sc (s2) rfl ?_)
    rintro _ _ ⟨v45_0, ⟨v45_1, ⟨rfl, rfl⟩⟩⟩
    refine PendA.lst (by simp only [List.cons_append, List.nil_append]; exact rfl) ?_
    refine PendA.made rfl (by kernel_rfl) rfl (fun nb47 => ?_)
    (refine WpA.one (i := 7) rfl (by kernel_rfl) (Stp.append0P rfl rfl Pk.here (Src.next (Src.next (Src.next Src.frozen))) (by first | rfl | assumption | (simp <;> done) | (simp <;> omega)) (by first | assumption | exact oneCells1 rfl | exact oneCells1 (by assumption) | exact oneCells_bytesC _ | exact oneCells_votesC _ | (simp [oneCells, Value.oneCell'] <;> done)) (by first | omega | (simp <;> omega)) (by first | omega | (simp <;> omega)) rfl (by first | rfl | (simp <;> done)) ?_); intro na48 nc48)
    refine At (i := 8) rfl (Rdo.bld rfl (BldL.cons rfl (VC.i _ _) (by first | rfl | assumption | (simp <;> done)) (by repeat (first | exact LPut.nil _ | (refine LPut.seg ?_; first | assumption | (simp <;> done)) | (refine LPut.segEnd ?_; first | assumption | (simp <;> done)) | (with_reducible apply LPut.here) | apply LPut.hereL | apply LPut.here | (apply LPut.over32; focus (first | assumption | (simp <;> done))) | (with_reducible apply LPut.next) | apply LPut.nextL | apply LPut.next)) (BldL.cons rfl (VC.sl _ _ _) (by first | rfl | assumption | (simp <;> done)) (by repeat (first | exact LPut.nil _ | (refine LPut.seg ?_; first | assumption | (simp <;> done)) | (refine LPut.segEnd ?_; first | assumption | (simp <;> done)) | (with_reducible apply LPut.here) | apply LPut.hereL | apply LPut.here | (apply LPut.over32; focus (first | assumption | (simp <;> done))) | (with_reducible apply LPut.next) | apply LPut.nextL | apply LPut.next)) (BldL.cons rfl (VC.sl _ _ _) (by first | rfl | assumption | (simp <;> done)) (by repeat (first | exact LPut.nil _ | (refine LPut.seg ?_; first | assumption | (simp <;> done)) | (refine LPut.segEnd ?_; first | assumption | (simp <;> done)) | (with_reducible apply LPut.here) | apply LPut.hereL | apply LPut.here | (apply LPut.over32; focus (first | assumption | (simp <;> done))) | (with_reducible apply LPut.next) | apply LPut.nextL | apply LPut.next)) (BldL.nil _))))) ?_
    refine WpA.one (i := 9) rfl (by kernel_rfl) (St rfl rfl (VC.ag _) ?_)
    refine WpA.stop (by kernel_rfl) ?_
    refine Ql ?_
    refine WpR.done (by kernel_rfl) ?_
    refine Thn.n (Wp.ret ?_)
    exact Ret.now (l' := [ringF rb keys, bsF (v45_0, v45_1) k.value, vsF (na48, nc48) k.votes]) (ResV.cell rfl (by repeat (first | exact Lds.one rfl | (apply Lds.all; (first | rfl | assumption | (simp <;> fail))) | exact Lds.ione0 | exact Lds.ione rfl | (apply Lds.iall; (first | rfl | assumption | (simp <;> fail))) | apply Lds.next)) ResV.nil) (Gh.trans (Gh.ice (Pk.next Pk.here)) Gk) ⟨((v45_0, v45_1), (na48, nc48)), rfl, rfl⟩
theorem higher_ok (rb : Nat) (keys : List Hash) (hk : keys.length ≤ 10) (a b : LockS) (x y : PX) (slot below : Int) (hn : a.votes.length ≤ 1000000) (hv : a.value.length ≤ 1000000) (hn2 : b.votes.length ≤ 1000000) (hv2 : b.value.length ≤ 1000000) :
    Trip Tryz.prog 159 [vp rb 0, vi slot, vi below, .agg (lockC a x).toArray, .agg (lockC b y).toArray] [ringF rb keys, bsF x.1 a.value, vsF x.2 a.votes, bsF y.1 b.value, vsF y.2 b.votes]
      (fun r l => ∃ z : PX, r = .agg (lockC (higherL keys slot below a b) z).toArray ∧ l = [ringF rb keys, bsF z.1 (higherL keys slot below a b).value, vsF z.2 (higherL keys slot below a b).votes]) := by
  have s1 := proved_ok rb keys hk a x slot below hn hv
  have s2 := proved_ok rb keys hk b y slot below hn2 hv2
  unfold higherL
  generalize provedL keys slot below a = p at *
  generalize provedL keys slot below b = q at *
  by_cases b1 : p.view < q.view
  · rw [if_pos b1]
    refine Trip.of_body Tryz.func159 rfl Tryz.ntmps159 Tryz.results159 rfl ?_
    refine Wsr ?_
    (refine WpL.step (Stp.boxV rfl (VC.ag _) rfl ?_); intro nb2)
    (refine WpL.step (Stp.boxV rfl (VC.ag _) rfl ?_); intro nb3)
    (refine WpL.step (Stp.alloc rfl ?_); intro nb4)
    refine Lnt (Wp.seq ?_)
    refine Wp.draw (by kernel_rfl) ?_
    refine Qt (i := 0) rfl (Rdo.move rfl) (Qt (i := 1) rfl (Rdo.move rfl) (Qt (i := 2) rfl (Rdo.move rfl) (Qt (i := 5) rfl (Rdo.move rfl) (Qt (i := 6) rfl (Rdo.move rfl) (Qt (i := 7) rfl (Rdo.move rfl) ?_)))))
    refine WpR.phaseT (m := 2) #[true, true, true, true, true, true, true, true, true, true, false, false] 4 _ (by kernel_rfl) (Tk.cons (Pk.next Pk.here) (Tk.cons (Pk.next Pk.here) Tk.nil)) ?_
    refine At (i := 3) rfl (Rdo.load rfl (Lds.next Ld)) ?_
    refine At (i := 8) rfl (Rdo.load rfl Ld) ?_
    refine WpA.one (i := 4) rfl (by kernel_rfl) (Sc (s1) rfl ?_)
    rintro _ _ ⟨v19_0, ⟨rfl, rfl⟩⟩
    refine WpA.lst (by simp only [List.cons_append, List.nil_append]; exact rfl) ?_
    refine WpA.one (i := 9) rfl (by kernel_rfl) (Sc (s2) rfl ?_)
    rintro _ _ ⟨v22_0, ⟨rfl, rfl⟩⟩
    refine WpA.lst (by simp only [List.cons_append, List.nil_append]; exact rfl) ?_
    refine WpA.stop (by kernel_rfl) ?_
    refine Ql ?_
    refine Qo (i := 10) rfl (St rfl rfl (VC.ag _) ?_)
    refine Qo (i := 11) rfl (St rfl rfl (VC.ag _) ?_)
    refine WpR.done (by kernel_rfl) ?_
    refine Thn.n (Wp.seq (Wsr (Ls (Rdo.fieldAddr0 rfl) (Ls (Rdo.load rfl (Lds.one rfl)) (Ls (Rdo.fieldAddr0 rfl) (Ls (Rdo.load rfl (Lds.next (Lds.one rfl))) (Ls (Rdo.gti rfl rfl) (Lnt (cK rfl (Wsr ?_))))))))))
    refine Ls (Rdo.load rfl Ld) ?_
    refine WpL.step (St rfl rfl (VC.ag _) ?_)
    refine Lnt (Wp.ret ?_)
    refine Thn.r ?_
    refine Rt (ResV.cell rfl (by repeat (first | exact Lds.one rfl | (apply Lds.all; (first | rfl | assumption | (simp <;> fail))) | exact Lds.ione0 | exact Lds.ione rfl | (apply Lds.iall; (first | rfl | assumption | (simp <;> fail))) | apply Lds.next)) ResV.nil) ⟨_, ⟨rfl, rfl⟩⟩
  · rw [if_neg b1]
    refine Trip.of_body Tryz.func159 rfl Tryz.ntmps159 Tryz.results159 rfl ?_
    refine Wsr ?_
    (refine WpL.step (Stp.boxV rfl (VC.ag _) rfl ?_); intro nb2)
    (refine WpL.step (Stp.boxV rfl (VC.ag _) rfl ?_); intro nb3)
    (refine WpL.step (Stp.alloc rfl ?_); intro nb4)
    refine Lnt (Wp.seq ?_)
    refine Wp.draw (by kernel_rfl) ?_
    refine Qt (i := 0) rfl (Rdo.move rfl) (Qt (i := 1) rfl (Rdo.move rfl) (Qt (i := 2) rfl (Rdo.move rfl) (Qt (i := 5) rfl (Rdo.move rfl) (Qt (i := 6) rfl (Rdo.move rfl) (Qt (i := 7) rfl (Rdo.move rfl) ?_)))))
    refine WpR.phaseT (m := 2) #[true, true, true, true, true, true, true, true, true, true, false, false] 4 _ (by kernel_rfl) (Tk.cons (Pk.next Pk.here) (Tk.cons (Pk.next Pk.here) Tk.nil)) ?_
    refine At (i := 3) rfl (Rdo.load rfl (Lds.next Ld)) ?_
    refine At (i := 8) rfl (Rdo.load rfl Ld) ?_
    refine WpA.one (i := 4) rfl (by kernel_rfl) (Sc (s1) rfl ?_)
    rintro _ _ ⟨v19_0, ⟨rfl, rfl⟩⟩
    refine WpA.lst (by simp only [List.cons_append, List.nil_append]; exact rfl) ?_
    refine WpA.one (i := 9) rfl (by kernel_rfl) (Sc (s2) rfl ?_)
    rintro _ _ ⟨v22_0, ⟨rfl, rfl⟩⟩
    refine WpA.lst (by simp only [List.cons_append, List.nil_append]; exact rfl) ?_
    refine WpA.stop (by kernel_rfl) ?_
    refine Ql ?_
    refine Qo (i := 10) rfl (St rfl rfl (VC.ag _) ?_)
    refine Qo (i := 11) rfl (St rfl rfl (VC.ag _) ?_)
    refine WpR.done (by kernel_rfl) ?_
    refine Thn.n (Wp.seq (Wsr (Ls (Rdo.fieldAddr0 rfl) (Ls (Rdo.load rfl (Lds.one rfl)) (Ls (Rdo.fieldAddr0 rfl) (Ls (Rdo.load rfl (Lds.next (Lds.one rfl))) (Ls (Rdo.gti rfl rfl) (Lnt (cL rfl (Wp.skip (Thn.n (Wsr ?_))))))))))))
    refine Ls (Rdo.load rfl (Lds.next Ld)) ?_
    refine WpL.step (St rfl rfl (VC.ag _) ?_)
    refine Lnt (Wp.ret ?_)
    refine Rt (ResV.cell rfl (by repeat (first | exact Lds.one rfl | (apply Lds.all; (first | rfl | assumption | (simp <;> fail))) | exact Lds.ione0 | exact Lds.ione rfl | (apply Lds.iall; (first | rfl | assumption | (simp <;> fail))) | apply Lds.next)) ResV.nil) ⟨_, ⟨rfl, rfl⟩⟩
end Go.Proofs.YtomijhgicennbaaGreat
namespace Go.Proofs.YtomijhgicennbaaGreat
open Go
set_option maxHeartbeats 4000000
set_option linter.unusedSimpArgs false
set_option linter.unusedVariables false
set_option maxRecDepth 20000
abbrev rT : TypeId := 100
theorem quorumR_ok (b rb : Nat) (keys : List Hash) (cs : List Value) (hk : keys.length ≤ 10) (h0 : cs[0]? = some (vp rb 0)) :
    Trip Tryz.prog 153 [vp b 0] [cel b rT cs, ringF rb keys] (fun r l => r = vi (quorum keys.length) ∧ l = [cel b rT cs, ringF rb keys]) := by
  have s1 := nodes_ok rb keys
  have s2 := quorum_ok keys.length (by omega)
  refine Trip.of_body Tryz.func153 rfl Tryz.ntmps153 Tryz.results153 rfl ?_
  refine Wsr (Ls (Rdo.assign rfl) (Lnt (Wsr (Ls (Rdo.move rfl) (Ls (Rdo.nilCheck rfl) (Ls (Rdo.fieldAddr0 rfl) ?_))))))
  refine Ls (Rdo.load rfl (Lds.one (by assumption))) ?_
  refine WpL.step (Sc (s1) rfl ?_)
  rintro _ _ ⟨rfl, rfl⟩
  refine Ll ?_
  refine WpL.step (Sc (s2) rfl ?_)
  rintro _ _ ⟨rfl, rfl⟩
  refine Ll ?_
  refine Ls (Rdo.assign rfl) (Lnt (Wp.ret ?_))
  refine Rt (ResV.tmp rfl ResV.nil) ⟨rfl, rfl⟩
theorem leads_ok (b rb : Nat) (keys : List Hash) (cs : List Value) (slot node view : Int) (hk : keys.length ≤ 10) (h0 : cs[0]? = some (vp rb 0)) (h2 : cs[2]? = some (vi slot)) :
    Trip Tryz.prog 81 [vp b 0, vi node, vi view] [cel b rT cs, ringF rb keys] (fun r l => r = vb (decide (node = leader slot view keys.length)) ∧ l = [cel b rT cs, ringF rb keys]) := by
  have s1 := nodes_ok rb keys
  have s2 := leader_ok slot view keys.length (by omega)
  refine Trip.of_body Tryz.func81 rfl Tryz.ntmps81 Tryz.results81 rfl ?_
  refine Wsr (Ls (Rdo.assign rfl) (Lnt (Wp.seq ?_)))
  refine Wp.draw (by kernel_rfl) ?_
  refine Qt (i := 0) rfl (Rdo.move rfl) (Qt (i := 1) rfl (Rdo.move rfl) (Qt (i := 2) rfl (Rdo.nilCheck rfl) (Qt (i := 3) rfl (Rdo.fieldAddr0 rfl) (Qt (i := 5) rfl (Rdo.move rfl) (Qt (i := 6) rfl (Rdo.move rfl) (Qt (i := 7) rfl (Rdo.nilCheck rfl) (Qt (i := 8) rfl (Rdo.fieldAddr0 rfl) ?_)))))))
  refine WpR.phaseL (m := 0) #[true, true, true, true, true, true, true, true, true, true, true, true, true, true] 6 _ rfl (by kernel_rfl) (Tk.cons Pk.here Tk.nil) ?_
  refine At (i := 4) rfl (Rdo.load rfl (Lds.one (by assumption))) ?_
  refine At (i := 9) rfl (Rdo.load rfl (Lds.one (by assumption))) ?_
  refine WpA.one (i := 10) rfl (by kernel_rfl) (Sc (s1) rfl ?_)
  rintro _ _ ⟨rfl, rfl⟩
  refine WpA.lst (by simp only [List.cons_append, List.nil_append]; exact rfl) ?_
  refine WpA.one (i := 11) rfl (by kernel_rfl) (Sc (s2) rfl ?_)
  rintro _ _ ⟨rfl, rfl⟩
  refine WpA.lst (by simp only [List.cons_append, List.nil_append]; exact rfl) ?_
  refine At (i := 12) rfl (Rdo.eqi rfl rfl) (At (i := 13) rfl (Rdo.assign rfl) ?_)
  refine WpA.stop (by kernel_rfl) ?_
  refine Ql ?_
  refine WpR.done (by kernel_rfl) ?_
  refine Thn.n (Wp.ret ?_)
  refine Rt (ResV.tmp rfl ResV.nil) ⟨rfl, rfl⟩
def sealedM (keys : List Hash) (me slot : Int) (m : Msg) (to : Int) : Msg := { m with from_ := me, to := to, slot := slot, tag := sealH keys me (msgBody { m with from_ := me, to := to, slot := slot }) }
theorem msgBody_len (m : Msg) (hv : m.value.length ≤ 100000) (hn : m.votes.length ≤ 1000) : (msgBody m).length ≤ 1000000 := by
  have k1 := numsB_len [4, m.kind, m.from_, m.slot, m.view]
  simp only [List.length_cons, List.length_nil] at k1
  have k2 : (rowB m.value).length ≤ 9 + m.value.length := by
    have := numB_len 8 m.value.length (by omega)
    simp only [rowB, List.length_append]
    omega
  have k3 : (votesB m.votes).length ≤ 9 + 100 * m.votes.length := by
    have h1 := numB_len 8 m.votes.length (by omega)
    have h2 := votesAll_len m.votes
    simp only [votesB, List.length_append]
    omega
  simp only [msgBody, List.length_append]
  omega
theorem sealed_ok (b rb : Nat) (keys : List Hash) (cs : List Value) (me slot to : Int) (m : Msg) (x : PX) (hk : keys.length ≤ 10) (h0 : cs[0]? = some (vp rb 0)) (h1 : cs[1]? = some (vi me)) (h2 : cs[2]? = some (vi slot)) (hv : m.value.length ≤ 100000) (hn : m.votes.length ≤ 1000) :
    Trip Tryz.prog 51 [vp b 0, .agg (msgCs m x).toArray, vi to] [cel b rT cs, ringF rb keys, bsF x.1 m.value, vsF x.2 m.votes]
      (fun r l => ∃ y : PX, r = .agg (msgCs (sealedM keys me slot m to) y).toArray ∧ l = [cel b rT cs, ringF rb keys, bsF x.1 m.value, vsF x.2 m.votes, msF y (sealedM keys me slot m to)]) := by
  obtain ⟨⟨x1, x2⟩, ⟨x3, x4⟩⟩ := x
  have s1 := bclone_ok x1 x2 m.value (by omega)
  have s2 := vclone_ok x3 x4 m.votes (by omega)
  have s3 := fun a c a' c' => bodyP_ok { m with from_ := me, to := to, slot := slot } ((a, c), (a', c')) hv hn
  have s4 := fun v => seal_ok rb keys me v (msgBody { m with from_ := me, to := to, slot := slot }) (by have := msgBody_len { m with from_ := me, to := to, slot := slot } hv hn; omega) hk
  have hz := hc_length m.tag
  obtain ⟨M, hM⟩ : ∃ M, M = sealedM keys me slot m to := ⟨_, rfl⟩
  rw [← hM]
  unfold sealedM at hM
  generalize hB : msgBody { m with from_ := me, to := to, slot := slot } = B at *
  have hz2 := hc_length (sealH keys me B)
  simp only [bsF, vsF] at *
  refine Trip.of_body Tryz.func51 rfl Tryz.ntmps51 Tryz.results51 rfl ?_
  refine Wsr ?_
  (refine WpL.step (Stp.boxV rfl (VC.ag _) rfl ?_); intro nb2)
  (refine WpL.step (Stp.alloc rfl ?_); intro nb3)
  refine Lnt (Wp.seq ?_)
  refine Wp.draw (by kernel_rfl) ?_
  refine Qt (i := 0) rfl (Rdo.move rfl) (Qt (i := 1) rfl (Rdo.nilCheck rfl) (Qt (i := 2) rfl (Rdo.fieldAddr0 rfl) (Qt (i := 4) rfl (Rdo.move rfl) (Qt (i := 5) rfl (Rdo.move rfl) (Qt (i := 6) rfl (Rdo.nilCheck rfl) (Qt (i := 7) rfl (Rdo.fieldAddr0 rfl) ?_))))))
  refine WpR.phaseL (m := 0) #[true, true, true, true, true, true, true, true, true, true, true, true, true, true, true] 8 _ rfl (by kernel_rfl) (Tk.cons (Pk.next (Pk.next Pk.here)) Tk.nil) ?_
  refine At (i := 3) rfl (Rdo.load rfl (Lds.one (by assumption))) ?_
  refine At (i := 8) rfl (Rdo.load rfl (Lds.one (by assumption))) ?_
  refine At (i := 9) rfl (Rdo.fieldAddr0 rfl) ?_
  refine WpA.one (i := 10) rfl (by kernel_rfl) (Stp.storeV rfl rfl (VC.i _ _) rfl (Sts.next (Sp (oneCells1 rfl))) ?_)
  refine At (i := 11) rfl (Rdo.fieldAddr0 rfl) ?_
  refine WpA.one (i := 12) rfl (by kernel_rfl) (Stp.storeV rfl rfl (VC.i _ _) rfl (Sts.next (Sp (oneCells1 rfl))) ?_)
  refine At (i := 13) rfl (Rdo.fieldAddr0 rfl) ?_
  refine WpA.one (i := 14) rfl (by kernel_rfl) (Stp.storeV rfl rfl (VC.i _ _) rfl (Sts.next (Sp (oneCells1 rfl))) ?_)
  refine WpA.stop (by kernel_rfl) ?_
  refine Ql ?_
  refine WpR.done (by kernel_rfl) ?_
  refine Thn.n (Wsr (Ls (Rdo.fieldAddr0 rfl) (Ls (Rdo.load rfl (Lds.next (Lds.next (Lds.one rfl)))) ?_)))
  refine WpL.step (Sc (s1) rfl ?_)
  rintro _ _ ⟨v33_0, ⟨v33_1, ⟨rfl, rfl⟩⟩⟩
  refine Ll ?_
  refine Ls (Rdo.fieldAddr0 rfl) ?_
  refine WpL.step (Stp.storeV rfl rfl (VC.sl _ _ _) rfl (Sts.next (Sts.next (Sts.next (Sts.next (Sp (oneCells1 rfl)))))) ?_)
  refine Lnt (Wsr (Ls (Rdo.fieldAddr0 rfl) (Ls (Rdo.load rfl (Lds.next (Lds.next (Lds.next (Lds.next (Lds.one rfl)))))) ?_)))
  refine WpL.step (Sc (s2) rfl ?_)
  rintro _ _ ⟨v44_0, ⟨v44_1, ⟨rfl, rfl⟩⟩⟩
  refine Ll ?_
  refine Ls (Rdo.fieldAddr0 rfl) ?_
  refine WpL.step (Stp.storeV rfl rfl (VC.sl _ _ _) rfl (Sts.next (Sts.next (Sts.next (Sts.next (Sts.next (Sts.next (Sp (oneCells1 rfl)))))))) ?_)
  refine Lnt (Wp.seq ?_)
  refine Wp.draw (by kernel_rfl) ?_
  refine Qt (i := 0) rfl (Rdo.move rfl) (Qt (i := 1) rfl (Rdo.nilCheck rfl) (Qt (i := 2) rfl (Rdo.fieldAddr0 rfl) (Qt (i := 4) rfl (Rdo.move rfl) (Qt (i := 5) rfl (Rdo.nilCheck rfl) (Qt (i := 6) rfl (Rdo.fieldAddr0 rfl) ?_)))))
  refine WpR.phaseL (m := 1) #[true, true, true, true, true, true, true, true, true, true, true, true, false] 6 _ rfl (by kernel_rfl) (Tk.cons (Pk.next (Pk.next (Pk.next (Pk.next Pk.here)))) (Tk.cons (Pk.next (Pk.next (Pk.next (Pk.next (Pk.next Pk.here))))) Tk.nil)) ?_
  refine At (i := 3) rfl (Rdo.load rfl (Lds.one (by assumption))) ?_
  refine At (i := 7) rfl (Rdo.load rfl (Lds.one (by assumption))) ?_
  refine At (i := 8) rfl (Rdo.load rfl (Lds.next Ld)) ?_
  refine WpA.one (i := 9) rfl (by kernel_rfl) (Sc (s3 _ _ _ _) rfl ?_)
  rintro _ _ ⟨v63_0, ⟨v63_1, ⟨rfl, rfl⟩⟩⟩
  refine WpA.lst (by simp only [List.cons_append, List.nil_append]; exact rfl) ?_
  refine WpA.one (i := 10) rfl (by kernel_rfl) (Sc (s4 _) rfl ?_)
  rintro _ _ ⟨rfl, rfl⟩
  refine WpA.lst (by simp only [List.cons_append, List.nil_append]; exact rfl) ?_
  refine At (i := 11) rfl (Rdo.fieldAddr0 rfl) ?_
  refine WpA.stop (by kernel_rfl) ?_
  refine Ql ?_
  refine Qo (i := 12) rfl (St rfl rfl (VC.ag _) ?_)
  refine WpR.done (by kernel_rfl) ?_
  refine Thn.n (Wsr ?_)
  refine Ls (Rdo.load rfl (Lds.next Ld)) ?_
  refine WpL.step (St rfl rfl (VC.ag _) ?_)
  refine Lnt (Wp.ret ?_)
  subst hM
  refine Ret.now (l' := [cel b rT cs, ringF rb keys, bsF (x1, x2) m.value, vsF (x3, x4) m.votes, msF ((v33_0, v33_1), (v44_0, v44_1)) _]) (ResV.cell rfl (by repeat (first | exact Lds.one rfl | (apply Lds.all; (first | rfl | assumption | (simp <;> fail))) | exact Lds.ione0 | exact Lds.ione rfl | (apply Lds.iall; (first | rfl | assumption | (simp <;> fail))) | apply Lds.next)) ResV.nil) ?_ ⟨((v33_0, v33_1), (v44_0, v44_1)), rfl, rfl⟩
  refine Gh.trans (Gh.tk (l' := [bsF (v33_0, v33_1) m.value, vsF (v44_0, v44_1) m.votes, cel b rT cs, ringF rb keys, bsF (x1, x2) m.value, vsF (x3, x4) m.votes]) (by repeat (first | exact Tk.nil | apply Tk.cons (by repeat (first | exact Pk.here | apply Pk.next))))) (Gh.trans (ms_make (x := ((v33_0, v33_1), (v44_0, v44_1))) (m := { m with from_ := me, to := to, slot := slot, tag := sealH keys me B }) Pk.here Pk.here) Gk)
abbrev allP (keys : List Hash) (me slot : Int) (m : Msg) (i : Nat) : List Msg := (((List.range i).map fun i : Nat => (i : Int)).filter fun i => decide (i ≠ me)).map fun to => sealedM keys me slot m to
theorem allP_yes {keys : List Hash} {me slot : Int} {m : Msg} {i : Nat} (h : (i : Int) ≠ me) : allP keys me slot m (i + 1) = allP keys me slot m i ++ [sealedM keys me slot m i] := by simp [allP, List.range_succ, h]
theorem allP_no {keys : List Hash} {me slot : Int} {m : Msg} {i : Nat} (h : (i : Int) = me) : allP keys me slot m (i + 1) = allP keys me slot m i := by simp [allP, List.range_succ, h]
theorem allP_len (keys : List Hash) (me slot : Int) (m : Msg) (i : Nat) : (allP keys me slot m i).length ≤ i := by
  have h := List.length_filter_le (fun i : Int => decide (i ≠ me)) ((List.range i).map fun i : Nat => (i : Int))
  simpa [allP] using h
abbrev alE (b nb : Nat) (v : Value) (n i : Nat) : Env := [(0, vp b 0), (3, vp nb 0), (5, v), (11, vi n), (12, vi i)]
theorem allR_ok (b rb : Nat) (keys : List Hash) (cs : List Value) (me slot : Int) (m : Msg) (x : PX) (hk : keys.length ≤ 10) (h0 : cs[0]? = some (vp rb 0)) (h1 : cs[1]? = some (vi me)) (h2 : cs[2]? = some (vi slot)) (hv : m.value.length ≤ 100000) (hn : m.votes.length ≤ 1000) :
    Trip Tryz.prog 121 [vp b 0, .agg (msgCs m x).toArray] [cel b rT cs, ringF rb keys, bsF x.1 m.value, vsF x.2 m.votes]
      (fun r l => ∃ p, r = .slice p.1 (allP keys me slot m keys.length).length p.2 ∧ l = [cel b rT cs, ringF rb keys, bsF x.1 m.value, vsF x.2 m.votes, mrF p (allP keys me slot m keys.length)]) := by
  have s1 := nodes_ok rb keys
  have s2 := fun to => sealed_ok b rb keys cs me slot to m x hk h0 h1 h2 hv hn
  refine Trip.of_body Tryz.func121 rfl Tryz.ntmps121 Tryz.results121 rfl ?_
  refine Wsr ?_
  (refine WpL.step (Stp.boxV rfl (VC.ag _) rfl ?_); intro nb2)
  refine Ls (Rdo.assign rfl) (Lnt (Wsr (Ls (Rdo.assign rfl) (Lnt (Wp.seq (Wsr (Ls (Rdo.move rfl) (Ls (Rdo.nilCheck rfl) (Ls (Rdo.fieldAddr0 rfl) ?_)))))))))
  refine Ls (Rdo.load rfl (Lds.next (Lds.one (by assumption)))) ?_
  refine WpL.step (Sc (s1) rfl ?_)
  rintro _ _ ⟨rfl, rfl⟩
  refine Ll ?_
  refine Ls (Rdo.move rfl) (Lnt (Wp.block ?_))
  refine Wp.loopE (fun k e h => ∃ (i : Nat) (v : Value) (css : List (List Value)), i + k = keys.length ∧ e = alE b nb2 v keys.length i ∧
      h = rowA 34 39 v (allP keys me slot m i).length css.flatten :: fz (fun g => RdRows g css (allP keys me slot m i)) :: cel b rT cs :: cel nb2 34 (msgCs m x) :: [ringF rb keys, bsF x.1 m.value, vsF x.2 m.votes]) keys.length
    (e0 := alE b nb2 vnil keys.length (0 : Nat)) (l0 := rowA 34 39 vnil 0 [] :: fz (fun g => RdRows g [] []) :: cel b rT cs :: cel nb2 34 (msgCs m x) :: [ringF rb keys, bsF x.1 m.value, vsF x.2 m.votes]) (by repeat (first | exact trivial | refine ⟨rfl, ?_⟩)) (by repeat (first | exact trivial | refine ⟨rfl, ?_⟩))
    (Gh.trans (Gh.trans rr_nil (Gh.nil 34 39)) Gk) ⟨0, vnil, [], by omega, rfl, rfl⟩ ?_
  rintro k e h ⟨i, v, css, hik, rfl, rfl⟩
  refine Wp.get Pk.here (fun r => rowA_shape) ?_
  rintro ⟨a0, c0, rfl⟩
  have hle := allP_len keys me slot m i
  by_cases hi : i < keys.length
  · by_cases hm : (i : Int) = me
    · have e1 := allP_no (keys := keys) (slot := slot) (m := m) hm
      refine Wsr (Ls (Rdo.lti rfl rfl) (Lnt (Wp.seq (cK rfl (Wp.skip (Thn.n (Wp.seq (Wp.block (Wsr (Ls (Rdo.move rfl) (Ls (Rdo.assign rfl) (Lnt (Wsr ?_)))))))))))))
      refine Ls (Rdo.move rfl) (Ls (Rdo.move rfl) (Ls (Rdo.nilCheck rfl) (Ls (Rdo.fieldAddr0 rfl) ?_)))
      refine Ls (Rdo.load rfl (Lds.next (Lds.next (Lds.one (by assumption))))) ?_
      refine Ls (Rdo.nei rfl rfl) (Lnt (cL rfl (Wp.skip (Blk.n (Thn.n (Wp.region ?_))))))
      refine Ls (Rdo.succ rfl rfl (by omega)) ?_
      refine Ls (Rdo.move rfl) (Lnt ?_)
      exact ⟨k - 1, _, _, by omega, ⟨i + 1, _, css, by omega, rfl, by rw [e1]⟩, (by repeat (first | exact trivial | refine ⟨rfl, ?_⟩)), Gk⟩
    · have e1 := allP_yes (keys := keys) (slot := slot) (m := m) hm
      have s3 := s2 i
      generalize sealedM keys me slot m i = M at *
      generalize allP keys me slot m i = ms at *
      refine Wsr (Ls (Rdo.lti rfl rfl) (Lnt (Wp.seq (cK rfl (Wp.skip (Thn.n (Wp.seq (Wp.block (Wsr (Ls (Rdo.move rfl) (Ls (Rdo.assign rfl) (Lnt (Wsr ?_)))))))))))))
      refine Ls (Rdo.move rfl) (Ls (Rdo.move rfl) (Ls (Rdo.nilCheck rfl) (Ls (Rdo.fieldAddr0 rfl) ?_)))
      refine Ls (Rdo.load rfl (Lds.next (Lds.next (Lds.one (by assumption))))) ?_
      refine Ls (Rdo.nei rfl rfl) (Lnt (cK rfl (Wp.region (Ls (Rdo.move rfl) (Ls (Rdo.move rfl) ?_)))))
      refine Ls (Rdo.load rfl (Lds.next (Lds.next (Lds.next Ld)))) ?_
      refine Ls (Rdo.move rfl) ?_
      refine WpL.step (Sc (s3) rfl ?_)
      rintro _ _ ⟨v34_0, ⟨rfl, rfl⟩⟩
      refine Ll ?_
      (refine WpL.step (Stp.sliceV rfl rfl (VCs.cons (VC.ag _) (by first | rfl | assumption | (simp <;> done)) VCs.nil) (by simp only [List.cons_append, List.nil_append, List.append_nil]; exact rfl) rfl rfl ?_); intro nb36)
      refine WpL.get (p := msF v34_0 M) (by repeat (first | exact Pk.here | apply Pk.next)) len_msgs ?_
      intro ho
      (refine WpL.step (Stp.appendP rfl rfl (Pk.next (Pk.next (Pk.next (Pk.next (Pk.next (Pk.next Pk.here)))))) (Src.cel (by first | rfl | (simp <;> done) | (simp <;> omega))) (by first | rfl | assumption | (simp <;> done) | (simp <;> omega)) (by first | assumption | exact oneCells1 rfl | exact oneCells1 (by assumption) | exact oneCells_bytesC _ | exact oneCells_votesC _ | (simp [oneCells, Value.oneCell'] <;> done)) (by first | omega | (simp <;> omega)) (by first | omega | (simp <;> omega)) rfl (by first | rfl | (simp <;> done)) ?_); intro na0 nc0)
      refine Ls (Rdo.assign rfl) (WpL.nil (Blk.n (Thn.n (Wp.region ?_))))
      refine Ls (Rdo.succ rfl rfl (by omega)) ?_
      refine Ls (Rdo.move rfl) (Lnt ?_)
      refine ⟨k - 1, _, _, by omega, ⟨i + 1, .slice na0 (ms.length + 1) nc0, css ++ [msgCs M v34_0], by omega, rfl, rfl⟩, (by repeat (first | exact trivial | refine ⟨rfl, ?_⟩)), ?_⟩
      rw [e1, show (css ++ [msgCs M v34_0]).flatten = css.flatten ++ msgCs M v34_0 by simp, List.length_append]
      exact Gh.trans (rr_one (x := v34_0) (m := M) (by repeat (first | exact Pk.here | apply Pk.next))) (Gh.trans (rr_app (css := css) (ms := ms) (by repeat (first | exact Pk.here | apply Pk.next)) Pk.here) Gk)
  · obtain rfl : i = keys.length := by omega
    refine Wsr (Ls (Rdo.lti rfl rfl) (Lnt (Wp.seq (cL rfl ?_))))
    refine Wp.exit ?_
    refine Thn.x ?_
    refine Thn.x ?_
    refine Blk.here ?_
    refine Thn.n (Wsr (Ls (Rdo.move rfl) (Ls (Rdo.assign rfl) (Lnt (Wp.ret ?_)))))
    exact Ret.now (l' := [cel b rT cs, ringF rb keys, bsF x.1 m.value, vsF x.2 m.votes, mrF (a0, c0) (allP keys me slot m keys.length)]) (ResV.tmp rfl ResV.nil) (Gh.trans (mr_shut (p := (a0, c0)) (css := css) rfl Pk.here Pk.here) Gk) ⟨(a0, c0), rfl, rfl⟩
end Go.Proofs.YtomijhgicennbaaGreat
namespace Go.Proofs.YtomijhgicennbaaGreat
open Go
set_option maxHeartbeats 4000000
set_option linter.unusedSimpArgs false
set_option linter.unusedVariables false
set_option maxRecDepth 20000
abbrev sumV (sum : Hash) (l : List Vote) : List Vote := l.filter fun v => decide (v.sum = sum)
abbrev boL (bv : Value) (sum : Hash) (c1 c2 : Nat) : List HP := [cel c1 97 [bv], cel c2 28 (hc sum)]
theorem boOn_ok (q : Option Addr) (sum : Hash) : Trip Tryz.prog 151 [.pointer q, .agg (hc sum).toArray] []
    (fun r l => ∃ c1 c2, r = .func (.func 181) #[] [vp c1 0, vp c2 0].toArray ∧ l = boL (.pointer q) sum c1 c2) := by
  have hz := hc_length sum
  refine Trip.of_body Tryz.func151 rfl Tryz.ntmps151 Tryz.results151 rfl ?_
  refine Wsr ?_
  (refine WpL.step (Stp.boxV rfl (VC.p _) rfl ?_); intro nb2)
  (refine WpL.step (Stp.boxV rfl (VC.ag _) rfl ?_); intro nb3)
  refine Ls (Rdo.assign rfl) (Lnt (Wsr (Ls (Rdo.makeFunc rfl) (Ls (Rdo.assign rfl) (Lnt (Wp.ret ?_))))))
  refine Rt (ResV.tmp rfl ResV.nil) ⟨_, ⟨_, ⟨rfl, rfl⟩⟩⟩
/-- No ballot: no votes. -/
theorem boIterN (sum : Hash) (c1 c2 : Nat) : IterOK Tryz.prog 181 [vp c1 0, vp c2 0] voteV [] (boL (.pointer none) sum c1 c2) (fun xs => xs = []) := by
  intro Y J Jx hY l0 h0 _
  refine Trip.gh (l' := boL (.pointer none) sum c1 c2 ++ l0) (Gh.perm List.perm_append_comm) ?_
  simp only [boL, List.cons_append, List.nil_append]
  refine Trip.of_body Tryz.func181 rfl Tryz.ntmps181 Tryz.results181 rfl ?_
  refine Wp.seq (Wsr (Ls (Rdo.load rfl (Lds.one rfl)) (Ls (Rdo.eqnil rfl rfl) (Lnt ?_))))
  refine Wp.condT rfl ?_
  refine Wp.ret ?_
  refine Thn.r ?_
  exact Ret.now ResV.nil (Gh.perm (List.perm_append_comm (l₁ := boL (.pointer none) sum c1 c2) (l₂ := l0))) (.inl ⟨[], l0, rfl, h0, rfl⟩)
theorem sumV_yes {sum : Hash} {vs : List Vote} {i : Nat} {v : Vote} (hv : vs[i]? = some v) (h : v.sum = sum) : sumV sum (vs.take (i + 1)) = sumV sum (vs.take i) ++ [v] := by
  unfold sumV
  rw [taken_eq hv, List.filter_append]
  simp [h]
theorem sumV_no {sum : Hash} {vs : List Vote} {i : Nat} {v : Vote} (hv : vs[i]? = some v) (h : ¬ v.sum = sum) : sumV sum (vs.take (i + 1)) = sumV sum (vs.take i) := by
  unfold sumV
  rw [taken_eq hv, List.filter_append]
  simp [h]
theorem sumV_rest {sum : Hash} {vs : List Vote} {i : Nat} {v : Vote} (hv : vs[i]? = some v) (h : v.sum = sum) : ∃ rest, sumV sum (vs.take i) ++ v :: rest = sumV sum vs := by
  refine ⟨sumV sum (vs.drop (i + 1)), ?_⟩
  have h1 : vs = vs.take i ++ v :: vs.drop (i + 1) := by
    obtain ⟨h4, h5⟩ := List.getElem?_eq_some_iff.1 hv
    rw [← h5, ← List.drop_eq_getElem_cons h4, List.take_append_drop]
  conv => rhs; rw [h1]
  unfold sumV
  rw [List.filter_append, List.filter_cons, if_pos (by simpa using h)]
abbrev boW (q : Nat) (s : Value) (vs : List Vote) (sum : Hash) (c1 c2 : Nat) : List HP := [cel c1 97 [vp q 0], cel c2 28 (hc sum), cel q 189 [s], rowA 44 68 s vs.length (votesC vs)]
abbrev boE (Y : Value) (c2 : Nat) (s : Value) (n i : Nat) : Env := [(0, Y), (2, vp c2 0), (11, s), (12, vi n), (13, vi i)]
/-- A ballot's votes on a digest, one after the other. -/
theorem boIterS (q : Nat) (s : Value) (vs : List Vote) (hn : vs.length ≤ 1000000) (sum : Hash) (c1 c2 : Nat) :
    IterOK Tryz.prog 181 [vp c1 0, vp c2 0] voteV [] (boW q s vs sum c1 c2) (fun xs => xs = sumV sum vs) := by
  intro Y J Jx hY l0 h0 _
  refine Trip.gh (l' := boW q s vs sum c1 c2 ++ l0) (Gh.perm List.perm_append_comm) ?_
  simp only [boW, List.cons_append, List.nil_append]
  refine Trip.get (Pk.next (Pk.next (Pk.next Pk.here))) (fun r => rowA_shape) ?_
  rintro ⟨a0, c0, rfl⟩
  refine Trip.of_body Tryz.func181 rfl Tryz.ntmps181 Tryz.results181 rfl ?_
  refine Wp.seq (Wsr (Ls (Rdo.load rfl (Lds.one rfl)) (Ls (Rdo.eqnil rfl rfl) (Lnt ?_))))
  refine Wp.condF rfl ?_
  refine Wp.skip (Thn.n (Wsr (Ls (Rdo.load rfl (Lds.one rfl)) (Ls (Rdo.nilCheck rfl) (Ls (Rdo.fieldAddr0 rfl) (Ls (Rdo.load rfl (Lds.next (Lds.next (Lds.one rfl)))) (Ls (Rdo.lenSlice rfl) (Ls (Rdo.move rfl) (Lnt (Wp.block ?_))))))))))
  generalize hN : vs.length = N at *
  refine Wp.loopE (fun k e h => ∃ (i : Nat) (l1 : List HP), i + k = N ∧ J (sumV sum (vs.take i)) l1 ∧ e = boE Y c2 (.slice a0 N c0) N i ∧
      h = cel c1 97 [vp q 0] :: cel c2 28 (hc sum) :: cel q 189 [.slice a0 N c0] :: rowA 44 68 (.slice a0 N c0) N (votesC vs) :: l1) N
    (e0 := boE Y c2 (.slice a0 N c0) N (0 : Nat)) (l0 := cel c1 97 [vp q 0] :: cel c2 28 (hc sum) :: cel q 189 [.slice a0 N c0] :: rowA 44 68 (.slice a0 N c0) N (votesC vs) :: l0) (by repeat (first | exact trivial | refine ⟨rfl, ?_⟩)) (by repeat (first | exact trivial | refine ⟨rfl, ?_⟩)) Gh.rfl_ ⟨0, l0, by omega, h0, rfl, rfl⟩ ?_
  rintro k e h ⟨i, l1, hik, hJ, rfl, rfl⟩
  by_cases hi : i < N
  · refine Wp.get (Pk.next (Pk.next (Pk.next Pk.here))) (fun r => rowA_at i hi) ?_
    rintro ⟨bb, oo, cap, he⟩
    simp only [Value.slice.injEq, true_and] at he
    obtain ⟨rfl, rfl⟩ := he
    obtain ⟨v, hv⟩ : ∃ v, vs[i]? = some v := ⟨vs[i], List.getElem?_eq_getElem (by omega)⟩
    have hd : (hc v.sum = hc sum) ↔ v.sum = sum := hc_iff
    by_cases b4 : v.sum = sum
    · have b4' : hc v.sum = hc sum := hd.2 b4
      obtain ⟨rest, hsplit⟩ := sumV_rest hv b4
      refine Wsr (Ls (Rdo.lti rfl rfl) (Lnt (Wp.seq (cK rfl (Wp.skip (Thn.n (Wp.seq (Wp.block (Wsr ?_)))))))))
      refine Ls (Rdo.indexSlice rfl rfl (by omega)) ?_
      refine Ls (Rdo.load rfl (Lds.next (Lds.next (Lds.next (Lds.rowV (by assumption)))))) ?_
      (refine WpL.step (Stp.alloc rfl ?_); intro nb15)
      refine WpL.step (St rfl rfl (VC.ag _) ?_)
      refine Lnt (Wsr (Ls (Rdo.fieldAddr0 rfl) ?_))
      refine Ls (Rdo.load rfl (Lds.part (by first | exact msgC_tag | exact voteC_sum | exact voteC_tag | assumption) (by first | rfl | assumption | (simp <;> done)) (by first | rfl | assumption | (simp <;> done)))) ?_
      refine Ls (Rdo.load rfl (Lds.next (Lds.next Ld))) ?_
      refine Ls (Rdo.eqagg rfl rfl (by first | rfl | exact oks_hc _ | exact oks_voteC _ | assumption) (by first | rfl | exact oks_hc _ | exact oks_voteC _ | assumption)) ?_
      refine Ls (Rdo.move rfl) (Lg rfl rfl (Lw rfl rfl (Rdo.move rfl) ?_))
      refine Lw rfl rfl (Rdo.load rfl Ld) ?_
      refine WpL.want rfl rfl rfl (Stp.callV rfl rfl (hY _ v rest l1 hsplit hJ) (Tk.tail (A := [_, _, _, _, _])) rfl ?_)
      rintro r l2 (⟨rfl, hJ2⟩ | ⟨rfl, hJ2⟩)
      · refine WpL.gh (Gh.perm List.perm_append_comm) ?_
        refine Ll ?_
        refine Lw rfl rfl (Rdo.not rfl) (Ls (Rdo.pick_t rfl rfl) (Lnt ?_))
        refine Wp.condF rfl ?_
        refine Wp.skip (Blk.n (Thn.n (Wp.region ?_)))
        refine Ls (Rdo.succ rfl rfl (by omega)) ?_
        refine Ls (Rdo.move rfl) (Lnt ?_)
        exact ⟨k - 1, _, _, by omega, ⟨i + 1, l2, by omega, by rw [sumV_yes hv b4]; exact hJ2, rfl, rfl⟩, (by repeat (first | exact trivial | refine ⟨rfl, ?_⟩)), Gh.drop Pk.here⟩
      · refine WpL.gh (Gh.perm List.perm_append_comm) ?_
        refine Ll ?_
        refine Lw rfl rfl (Rdo.not rfl) (Ls (Rdo.pick_t rfl rfl) (Lnt ?_))
        refine Wp.condT rfl ?_
        refine Wp.ret ?_
        refine Blk.r ?_
        refine Thn.r ?_
        refine Thn.r ?_
        refine Blk.r ?_
        exact Ret.now ResV.nil (l' := l2 ++ [_, _, _, _]) (Gh.trans (Gh.drop Pk.here) (Gh.perm (List.perm_append_comm (l₁ := [_, _, _, _]) (l₂ := l2)))) (.inr ⟨_, l2, hJ2, rfl⟩)
    · have b4' : ¬ hc v.sum = hc sum := fun h => b4 (hd.1 h)
      refine Wsr (Ls (Rdo.lti rfl rfl) (Lnt (Wp.seq (cK rfl (Wp.skip (Thn.n (Wp.seq (Wp.block (Wsr ?_)))))))))
      refine Ls (Rdo.indexSlice rfl rfl (by omega)) ?_
      refine Ls (Rdo.load rfl (Lds.next (Lds.next (Lds.next (Lds.rowV (by assumption)))))) ?_
      (refine WpL.step (Stp.alloc rfl ?_); intro nb15)
      refine WpL.step (St rfl rfl (VC.ag _) ?_)
      refine Lnt (Wsr (Ls (Rdo.fieldAddr0 rfl) ?_))
      refine Ls (Rdo.load rfl (Lds.part (by first | exact msgC_tag | exact voteC_sum | exact voteC_tag | assumption) (by first | rfl | assumption | (simp <;> done)) (by first | rfl | assumption | (simp <;> done)))) ?_
      refine Ls (Rdo.load rfl (Lds.next (Lds.next Ld))) ?_
      refine Ls (Rdo.eqagg rfl rfl (by first | rfl | exact oks_hc _ | exact oks_voteC _ | assumption) (by first | rfl | exact oks_hc _ | exact oks_voteC _ | assumption)) ?_
      refine Ls (Rdo.move rfl) (Lf rfl rfl (Lp rfl rfl (Lp rfl rfl (Lp rfl rfl (Lp rfl rfl (Ls (Rdo.pick_f rfl rfl) (Lnt ?_)))))))
      refine Wp.condF rfl ?_
      refine Wp.skip (Blk.n (Thn.n (Wp.region ?_)))
      refine Ls (Rdo.succ rfl rfl (by omega)) ?_
      refine Ls (Rdo.move rfl) (Lnt ?_)
      exact ⟨k - 1, _, _, by omega, ⟨i + 1, l1, by omega, by rw [sumV_no hv b4]; exact hJ, rfl, rfl⟩, (by repeat (first | exact trivial | refine ⟨rfl, ?_⟩)), Gh.drop Pk.here⟩
  · obtain rfl : i = N := by omega
    rw [List.take_of_length_le (by omega)] at hJ
    refine Wsr (Ls (Rdo.lti rfl rfl) (Lnt (Wp.seq (cL rfl ?_))))
    refine Wp.exit ?_
    refine Thn.x ?_
    refine Thn.x ?_
    refine Blk.here ?_
    exact Ret.end_ ResV.nil (Gh.perm (List.perm_append_comm (l₁ := [_, _, _, _]) (l₂ := l1))) (.inl ⟨_, l1, rfl, hJ, rfl⟩)
theorem hasV_eq (l : List Vote) (sum : Hash) (f : Int) : hasV l sum f = (sumV sum l).any fun v => decide (v.from_ = f) := by
  unfold hasV sumV
  rw [List.any_filter]
/-- Whether a node's vote on a digest is there: the votes come from an iterator. -/
theorem hasG (bv : Option Addr) (own : List HP) (L : List Vote) (sum : Hash) (f : Int) (hit : ∀ c1 c2, IterOK Tryz.prog 181 [vp c1 0, vp c2 0] voteV [] (boL (.pointer bv) sum c1 c2 ++ own) (fun xs => xs = L)) :
    Trip Tryz.prog 135 [.pointer bv, .agg (hc sum).toArray, vi f] own (fun r l => r = vb (L.any fun v => decide (v.from_ = f)) ∧ l = own) := by
  have s1 := boOn_ok bv sum
  have hz := hc_length sum
  refine Trip.of_body Tryz.func135 rfl Tryz.ntmps135 Tryz.results135 rfl ?_
  refine Wsr ?_
  (refine WpL.step (Stp.boxV rfl (VC.ag _) rfl ?_); intro nb2)
  (refine WpL.step (Stp.boxV rfl (VC.i _ _) rfl ?_); intro nb3)
  (refine WpL.step (Stp.alloc rfl ?_); intro nb4)
  refine Lnt (Wp.seq (Wsr (Ls (Rdo.move rfl) ?_)))
  refine Ls (Rdo.load rfl (Lds.next (Lds.next Ld))) ?_
  refine WpL.step (Sc (s1) rfl ?_)
  rintro _ _ ⟨v13_0, ⟨v13_1, ⟨rfl, rfl⟩⟩⟩
  refine Ll ?_
  refine Lnt (Wp.block ?_)
  refine Wp.rangeFunc (ps := [11]) rfl (by kernel_rfl) (hit v13_0 v13_1) (fun _ => rfl) rfl
    (fun pre l => (∀ v ∈ pre, v.from_ ≠ f) ∧ l = [cel nb4 4 [vb false], cel nb3 3 [vi f]])
    (fun j pre l => j = .ret ∧ (∃ rest, pre ++ rest = L) ∧ (∃ v ∈ pre, v.from_ = f) ∧ l = [cel nb4 4 [vb true], cel nb3 3 [vi f]])
    (l0 := [cel nb4 4 [vb false], cel nb3 3 [vi f]]) (Gh.trans (Gh.drop (Pk.next (Pk.next (Pk.next (Pk.next Pk.here))))) (Gh.frameL own (l := [cel v13_0 97 [.pointer bv], cel v13_1 28 (hc sum), cel nb4 4 [vb false], cel nb3 3 [vi f]])
      (l' := [cel nb4 4 [vb false], cel nb3 3 [vi f], cel v13_0 97 [.pointer bv], cel v13_1 28 (hc sum)]) Gk)) ⟨by simp, rfl⟩ (Bor.nil _) ?_ ?_ ?_
  · rintro lp rec pre x rest _ hs ⟨hpre, rfl⟩ st pe
    have h35 := voteC_from x
    refine Wp.region ?_
    (refine WpL.step (Stp.alloc rfl ?_); intro nb1)
    refine WpL.step (St rfl rfl (VC.ag _) ?_)
    refine WpL.nil ?_
    refine ⟨rfl, fun st pe => ?_⟩
    by_cases hx : x.from_ = f
    · refine Wp.block (Wsr (Ls (Rdo.fieldAddr0 rfl) ?_))
      refine Ls (Rdo.load rfl (Lds.one (by assumption))) ?_
      refine Ls (Rdo.load rfl (Lds.next (Lds.next (Lds.one rfl)))) (Ls (Rdo.eqi rfl rfl) (Lnt (cK rfl (Wsr ?_))))
      refine WpL.step (Stp.storeV rfl rfl (VC.b _) rfl (Sts.next (Sp (oneCells1 rfl))) ?_)
      refine Lnt (Wp.ret ?_)
      refine Blk.r ?_
      exact ⟨[cel nb4 4 [vb true], cel nb3 3 [vi f]], Gh.drop Pk.here, rfl, ⟨rest, by rw [← hs]; simp⟩, ⟨x, by simp, hx⟩, rfl⟩
    · refine Wp.block (Wsr (Ls (Rdo.fieldAddr0 rfl) ?_))
      refine Ls (Rdo.load rfl (Lds.one (by assumption))) ?_
      refine Ls (Rdo.load rfl (Lds.next (Lds.next (Lds.one rfl)))) (Ls (Rdo.eqi rfl rfl) (Lnt (cL rfl (Wp.skip (Blk.n ?_)))))
      refine ⟨_, Gh.drop Pk.here, fun v hv => ?_, rfl⟩
      rcases List.mem_append.1 hv with h | h
      · exact hpre v h
      · rw [List.mem_singleton.1 h]; exact hx
  · rintro xs _ rfl ⟨hpre, rfl⟩
    have e : (xs.any fun v => decide (v.from_ = f)) = false := by
      rw [List.any_eq_false]
      intro v hv
      simp [hpre v hv]
    rw [e]
    refine Blk.n (Thn.n (Wsr ?_))
    refine WpL.step (Stp.storeV rfl rfl (VC.b _) rfl (Sp (oneCells1 rfl)) ?_)
    refine Lnt (Wp.ret ?_)
    exact Ret.now (ResV.cell rfl (by repeat (first | exact Lds.one rfl | (apply Lds.all; (first | rfl | assumption | (simp <;> fail))) | exact Lds.ione0 | exact Lds.ione rfl | (apply Lds.iall; (first | rfl | assumption | (simp <;> fail))) | apply Lds.next)) ResV.nil) (Gh.trans (Gh.drop Pk.here) (Gh.trans (Gh.drop Pk.here) (Gh.trans (Gh.drop Pk.here) (Gh.drop Pk.here)))) ⟨rfl, rfl⟩
  · rintro j pre l' ⟨rfl, ⟨rest, rfl⟩, ⟨v, hv, hvf⟩, rfl⟩
    have e : ((pre ++ rest).any fun v => decide (v.from_ = f)) = true := by
      rw [List.any_eq_true]
      exact ⟨v, by simp [hv], by simp [hvf]⟩
    rw [e]
    simp only [Blk, Jump.ex, Thn]
    exact Ret.now (ResV.cell rfl (by repeat (first | exact Lds.one rfl | (apply Lds.all; (first | rfl | assumption | (simp <;> fail))) | exact Lds.ione0 | exact Lds.ione rfl | (apply Lds.iall; (first | rfl | assumption | (simp <;> fail))) | apply Lds.next)) ResV.nil) (Gh.trans (Gh.drop Pk.here) (Gh.trans (Gh.drop Pk.here) (Gh.trans (Gh.drop Pk.here) (Gh.drop Pk.here)))) ⟨rfl, rfl⟩
theorem boIterA (q : Nat) (s : Value) (vs : List Vote) (hn : vs.length ≤ 1000000) (sum : Hash) (c1 c2 : Nat) :
    IterOK Tryz.prog 181 [vp c1 0, vp c2 0] voteV [] (boL (vp q 0) sum c1 c2 ++ [cel q 189 [s], rowA 44 68 s vs.length (votesC vs)]) (fun xs => xs = sumV sum vs) := boIterS q s vs hn sum c1 c2
theorem hasB_ok (q : Nat) (s : Value) (vs : List Vote) (hn : vs.length ≤ 1000000) (sum : Hash) (f : Int) :
    Trip Tryz.prog 135 [vp q 0, .agg (hc sum).toArray, vi f] [cel q 189 [s], rowA 44 68 s vs.length (votesC vs)] (fun r l => r = vb (hasV vs sum f) ∧ l = [cel q 189 [s], rowA 44 68 s vs.length (votesC vs)]) := by
  rw [hasV_eq]
  exact hasG (some ⟨q, 0, none⟩) _ _ sum f (boIterA q s vs hn sum)
end Go.Proofs.YtomijhgicennbaaGreat
namespace Go.Proofs.YtomijhgicennbaaGreat
open Go
set_option maxHeartbeats 4000000
set_option linter.unusedSimpArgs false
set_option linter.unusedVariables false
set_option maxRecDepth 20000
theorem ballot_ok (b t mb : Nat) (cs : List Value) (kind view : Int) (es : List (Int × Value)) (hk : kind = 1 ∧ cs[10]? = some (vp t 0) ∨ kind = 2 ∧ cs[11]? = some (vp t 0)) :
    Trip Tryz.prog 119 [vp b 0, vi kind, vi view] (cel b rT cs :: Tabbal.tabA t mb es) (fun r l => r = mapVal es view (.pointer none) ∧ l = cel b rT cs :: Tabbal.tabA t mb es) := by
  have s1 := Tabbal.get_ok t mb es view
  simp only [Tabbal.tabA] at *
  rcases hk with ⟨rfl, h⟩ | ⟨rfl, h⟩
  · refine Trip.of_body Tryz.func119 rfl Tryz.ntmps119 Tryz.results119 rfl ?_
    refine Wsr (Ls (Rdo.assign rfl) (Lnt (Wsr (Ls (Rdo.move rfl) (Ls (Rdo.move rfl) ?_)))))
    refine Ls (Rdo.pred rfl rfl (by omega)) ?_
    refine Ls (Rdo.nilCheck rfl) (Ls (Rdo.fieldAddr0 rfl) ?_)
    refine Ls (Rdo.indexArrE (i := 0) rfl rfl rfl (by first | omega | (simp <;> omega))) ?_
    refine Ls (Rdo.load rfl (Lds.one (by assumption))) ?_
    refine Ls (Rdo.move rfl) ?_
    refine WpL.step (Sc (s1) rfl ?_)
    rintro _ _ ⟨rfl, rfl⟩
    refine Ll ?_
    refine Ls (Rdo.move rfl) (Ls (Rdo.extract rfl rfl) (Ls (Rdo.extract rfl rfl) (Ls (Rdo.assign rfl) (Ls (Rdo.assign rfl) (Lnt (Wsr (Ls (Rdo.move rfl) (Ls (Rdo.assign rfl) (Lnt (Wp.ret ?_))))))))))
    refine Rt (ResV.tmp rfl ResV.nil) ⟨rfl, rfl⟩
  · refine Trip.of_body Tryz.func119 rfl Tryz.ntmps119 Tryz.results119 rfl ?_
    refine Wsr (Ls (Rdo.assign rfl) (Lnt (Wsr (Ls (Rdo.move rfl) (Ls (Rdo.move rfl) ?_)))))
    refine Ls (Rdo.pred rfl rfl (by omega)) ?_
    refine Ls (Rdo.nilCheck rfl) (Ls (Rdo.fieldAddr0 rfl) ?_)
    refine Ls (Rdo.indexArrE (i := 1) rfl rfl rfl (by first | omega | (simp <;> omega))) ?_
    refine Ls (Rdo.load rfl (Lds.one (by assumption))) ?_
    refine Ls (Rdo.move rfl) ?_
    refine WpL.step (Sc (s1) rfl ?_)
    rintro _ _ ⟨rfl, rfl⟩
    refine Ll ?_
    refine Ls (Rdo.move rfl) (Ls (Rdo.extract rfl rfl) (Ls (Rdo.extract rfl rfl) (Ls (Rdo.assign rfl) (Ls (Rdo.assign rfl) (Lnt (Wsr (Ls (Rdo.move rfl) (Ls (Rdo.assign rfl) (Lnt (Wp.ret ?_))))))))))
    refine Rt (ResV.tmp rfl ResV.nil) ⟨rfl, rfl⟩
theorem balOf_none {ls : List (Int × List Vote)} {k : Int} (h : alook ls k = none) : balOf ls k = [] := by simp [balOf, h]
theorem balOf_some {ls : List (Int × List Vote)} {k : Int} {vs : List Vote} (h : alook ls k = some vs) : balOf ls k = vs := by simp [balOf, h]
theorem counts_ok (b t : Nat) (cs : List Value) (v : Vote) (ls : List (Int × List Vote)) (hk : v.kind = 1 ∧ cs[10]? = some (vp t 0) ∨ v.kind = 2 ∧ cs[11]? = some (vp t 0)) (hb : (balOf ls v.view).length ≤ 100000) :
    Trip Tryz.prog 92 [vp b 0, .agg (voteC v).toArray] [cel b rT cs, tbA t ls] (fun r l => r = .tuple #[] ∧ l = [cel b rT cs, tbA t (addV ls v)]) := by
  have h35 := voteC_from v
  have hv2 := voteC_view v
  have ho := oneCells_voteC v
  have hlv := voteC_length v
  have ho2 : oneCells (voteC v ++ []) := by rw [List.append_nil]; exact ho
  cases hlk : alook ls v.view with
  | none =>
    refine Trip.ghE (GhE.tpN (Pk.next Pk.here) hlk) ?_
    rintro ⟨mb, qs⟩ ⟨hno, hlen⟩
    simp only at hno hlen ⊢
    have hadd : addV ls v = aset ls v.view [v] := by
      unfold addV
      rw [balOf_none hlk, if_neg (by simp [hasV])]
      rfl
    rw [hadd]
    have s1 := ballot_ok b t mb cs v.kind v.view (ptrE ls qs) hk
    rw [show mapVal (ptrE ls qs) v.view (.pointer none) = .pointer none by unfold mapVal; rw [hno]; rfl] at s1
    have s2 : ∀ q, Trip Tryz.prog 135 [vp q 0, .agg (hc v.sum).toArray, vi v.from_] [cel q 189 [vnil], rowA 44 68 vnil 0 []] (fun r l => r = vb false ∧ l = [cel q 189 [vnil], rowA 44 68 vnil 0 []]) := fun q => hasB_ok q vnil [] (by simp) v.sum v.from_
    have s3 := Tabbal.set_ok t mb (ptrE ls qs) v.view
    simp only [Tabbal.tabA] at *
    rcases hk with ⟨hk, h⟩ | ⟨hk, h⟩
    · have hk1 : v.kind - 1 = ((0 : Nat) : Int) := by omega
      refine Trip.of_body Tryz.func92 rfl Tryz.ntmps92 Tryz.results92 rfl ?_
      refine Wsr ?_
      (refine WpL.step (Stp.boxV rfl (VC.ag _) rfl ?_); intro nb2)
      refine Lnt (Wsr (Ls (Rdo.move rfl) (Ls (Rdo.fieldAddr0 rfl) (Ls (Rdo.load rfl (Lds.one rfl)) (Ls (Rdo.fieldAddr0 rfl) (Ls (Rdo.load rfl (Lds.one rfl)) ?_))))))
      refine WpL.step (Sc (s1) rfl ?_)
      rintro _ _ ⟨rfl, rfl⟩
      refine Ll ?_
      refine Ls (Rdo.assign rfl) (Lnt (Wp.seq (Wsr (Ls (Rdo.move rfl) (Ls (Rdo.eqnil rfl rfl) (Lnt ?_))))))
      refine Wp.condT rfl ?_
      refine Wsr (Ls (Rdo.bld rfl (BldL.nil _)) ?_)
      (refine WpL.step (Stp.boxV rfl (VC.ag _) rfl ?_); intro nb29)
      refine Ls (Rdo.assign rfl) (Lnt ?_)
      refine Wp.draw (by kernel_rfl) ?_
      refine Qt (i := 0) rfl (Rdo.move rfl) (Qt (i := 1) rfl (Rdo.fieldAddr0 rfl) (Qt (i := 4) rfl (Rdo.nilCheck rfl) (Qt (i := 5) rfl (Rdo.fieldAddr0 rfl) (Qt (i := 8) rfl (Rdo.fieldAddr0 rfl) (Qt (i := 10) rfl (Rdo.move rfl) ?_)))))
      refine WpR.load (i := 2) [9] rfl (by kernel_rfl) (by kernel_rfl) (by kernel_rfl) (by kernel_rfl) (by kernel_rfl) rfl Tk.rfl_ (Harm.rd rfl (Rdo.load rfl (Lds.next (Lds.next (Lds.next (Lds.next (Lds.one rfl)))))) Harm.nil) (Rdo.load rfl (Lds.next (Lds.next (Lds.next (Lds.next (Lds.one rfl)))))) rfl ?_
      refine Qt (i := 3) rfl (Rdo.subE rfl rfl (by assumption) (by omega)) ?_
      refine Qt (i := 6) rfl (Rdo.indexArrE (i := 0) rfl rfl rfl (by first | omega | (simp <;> omega))) ?_
      refine WpR.phaseL (m := 1) #[true, true, true, true, true, true, true, true, true, true, true, false] 2 _ rfl (by kernel_rfl) Tk.rfl_ ?_
      refine At (i := 7) rfl (Rdo.load rfl (Lds.next (Lds.one (by assumption)))) ?_
      refine At (i := 9) rfl (Rdo.load rfl (Lds.next (Lds.next (Lds.next (Lds.next (Lds.one rfl)))))) ?_
      refine WpA.stop (by kernel_rfl) ?_
      refine WpR.lst (by simp only [List.cons_append, List.nil_append, List.append_nil]; exact rfl) ?_
      refine Qo (i := 11) rfl (Sc (s3 _) rfl ?_)
      rintro _ _ ⟨rfl, rfl⟩
      refine Ql ?_
      refine WpR.done (by kernel_rfl) ?_
      refine Thn.n (Wsr (Ls (Rdo.move rfl) (Ls (Rdo.fieldAddr0 rfl) ?_)))
      refine Ls (Rdo.load rfl (Lds.next (Lds.next (Lds.next (Lds.next (Lds.part (by first | exact msgC_tag | exact voteC_sum | exact voteC_tag | assumption) (by first | rfl | assumption | (simp <;> done)) (by first | rfl | assumption | (simp <;> done)))))))) ?_
      refine Ls (Rdo.fieldAddr0 rfl) ?_
      refine Ls (Rdo.load rfl (Lds.next (Lds.next (Lds.next (Lds.next (Lds.one (by assumption))))))) ?_
      refine WpL.gh (Gh.nil 44 68) ?_
      refine WpL.step (Sc (s2 _) rfl ?_)
      rintro _ _ ⟨rfl, rfl⟩
      refine Ll ?_
      refine Ls (Rdo.not rfl) (Lnt ?_)
      refine Wp.condT rfl ?_
      refine Wp.draw (by kernel_rfl) ?_
      refine Qt (i := 0) rfl (Rdo.move rfl) (Qt (i := 1) rfl (Rdo.move rfl) (Qt (i := 2) rfl (Rdo.nilCheck rfl) (Qt (i := 3) rfl (Rdo.fieldAddr0 rfl) ?_)))
      refine WpR.load (i := 5) [4] rfl (by kernel_rfl) (by kernel_rfl) (by kernel_rfl) (by kernel_rfl) (by kernel_rfl) rfl Tk.rfl_ (Harm.rd rfl (Rdo.load rfl (Lds.one rfl)) Harm.nil) (Rdo.load rfl (Lds.next (Lds.next (Lds.next (Lds.next (Lds.next Ld)))))) rfl ?_
      refine Pend.start (hz := MK.sl rfl rfl (VCs.cons (VC.ag _) (by first | rfl | assumption | (simp <;> done)) VCs.nil) (by first | exact rfl | (simp only [List.cons_append, List.nil_append, List.append_nil]; exact rfl)) rfl) (i := 6) rfl ?_
      refine Pend.one (hz := MK.sl rfl rfl (VCs.cons (VC.ag _) (by first | rfl | assumption | (simp <;> done)) VCs.nil) (by first | exact rfl | (simp only [List.cons_append, List.nil_append, List.append_nil]; exact rfl)) rfl) (j := 4) rfl rfl (by kernel_rfl) (by kernel_rfl) (by kernel_rfl) rfl (by simp) rfl rfl (Stp.rd (Rdo.load rfl (Lds.one rfl)) rfl ?_)
      refine Pend.made (hz := MK.sl rfl rfl (VCs.cons (VC.ag _) (by first | rfl | assumption | (simp <;> done)) VCs.nil) (by first | exact rfl | (simp only [List.cons_append, List.nil_append, List.append_nil]; exact rfl)) rfl) rfl (by kernel_rfl) rfl (fun nb15 => ?_)
      (refine Qo (i := 7) rfl (Stp.append0P rfl rfl (Pk.next (Pk.next Pk.here)) (Src.cel (by first | rfl | (simp <;> done) | (simp <;> omega))) (by first | rfl | assumption | (simp <;> done) | (simp <;> omega)) (by first | assumption | exact oneCells1 rfl | exact oneCells1 (by assumption) | exact oneCells_bytesC _ | exact oneCells_votesC _ | (simp [oneCells, Value.oneCell'] <;> done)) (by first | omega | (simp <;> omega)) (by first | omega | (simp <;> omega)) rfl (by first | rfl | (simp <;> done)) ?_); intro na16 nc16)
      refine Qt (i := 8) rfl (Rdo.nilCheck rfl) (Qt (i := 9) rfl (Rdo.fieldAddr0 rfl) ?_)
      refine Qo (i := 10) rfl (Stp.storeV rfl rfl (VC.sl _ _ _) rfl (Sts.next (Sts.next (Sp (oneCells1 rfl)))) ?_)
      refine WpR.done (by kernel_rfl) ?_
      refine Ret.end_ (l' := [cel b rT cs, tbA t (aset ls v.view [v])]) ResV.nil ?_ ⟨rfl, rfl⟩
      rw [show voteC v ++ [] = votesC [v] by simp [votesC]]
      refine Gh.trans (Gh.tk (l' := [cel nb29 189 [.slice na16 1 nc16], rowA 44 68 (.slice na16 1 nc16) 1 (votesC [v]), cel t tbT [.map (some mb)], mapA i64 mb (aset (ptrE ls qs) v.view (vp nb29 0)), starH (ownE balA ls qs), cel b rT cs]) (by repeat (first | exact Tk.nil | apply Tk.cons (by repeat (first | exact Pk.here | apply Pk.next))))) ?_
      refine Gh.trans (bal_shut (vs := [v]) rfl) ?_
      refine Gh.trans (Gh.tk (l' := [cel t tbT [.map (some mb)], mapA i64 mb (aset (ptrE ls qs) v.view (vp nb29 0)), balA nb29 [v], starH (ownE balA ls qs), cel b rT cs]) (by repeat (first | exact Tk.nil | apply Tk.cons (by repeat (first | exact Pk.here | apply Pk.next))))) ?_
      exact Gh.trans (tp_new (A := balA) hlen hlk) Gk
    · have hk1 : v.kind - 1 = ((1 : Nat) : Int) := by omega
      refine Trip.of_body Tryz.func92 rfl Tryz.ntmps92 Tryz.results92 rfl ?_
      refine Wsr ?_
      (refine WpL.step (Stp.boxV rfl (VC.ag _) rfl ?_); intro nb2)
      refine Lnt (Wsr (Ls (Rdo.move rfl) (Ls (Rdo.fieldAddr0 rfl) (Ls (Rdo.load rfl (Lds.one rfl)) (Ls (Rdo.fieldAddr0 rfl) (Ls (Rdo.load rfl (Lds.one rfl)) ?_))))))
      refine WpL.step (Sc (s1) rfl ?_)
      rintro _ _ ⟨rfl, rfl⟩
      refine Ll ?_
      refine Ls (Rdo.assign rfl) (Lnt (Wp.seq (Wsr (Ls (Rdo.move rfl) (Ls (Rdo.eqnil rfl rfl) (Lnt ?_))))))
      refine Wp.condT rfl ?_
      refine Wsr (Ls (Rdo.bld rfl (BldL.nil _)) ?_)
      (refine WpL.step (Stp.boxV rfl (VC.ag _) rfl ?_); intro nb29)
      refine Ls (Rdo.assign rfl) (Lnt ?_)
      refine Wp.draw (by kernel_rfl) ?_
      refine Qt (i := 0) rfl (Rdo.move rfl) (Qt (i := 1) rfl (Rdo.fieldAddr0 rfl) (Qt (i := 4) rfl (Rdo.nilCheck rfl) (Qt (i := 5) rfl (Rdo.fieldAddr0 rfl) (Qt (i := 8) rfl (Rdo.fieldAddr0 rfl) (Qt (i := 10) rfl (Rdo.move rfl) ?_)))))
      refine WpR.load (i := 2) [9] rfl (by kernel_rfl) (by kernel_rfl) (by kernel_rfl) (by kernel_rfl) (by kernel_rfl) rfl Tk.rfl_ (Harm.rd rfl (Rdo.load rfl (Lds.next (Lds.next (Lds.next (Lds.next (Lds.one rfl)))))) Harm.nil) (Rdo.load rfl (Lds.next (Lds.next (Lds.next (Lds.next (Lds.one rfl)))))) rfl ?_
      refine Qt (i := 3) rfl (Rdo.subE rfl rfl (by assumption) (by omega)) ?_
      refine Qt (i := 6) rfl (Rdo.indexArrE (i := 1) rfl rfl rfl (by first | omega | (simp <;> omega))) ?_
      refine WpR.phaseL (m := 1) #[true, true, true, true, true, true, true, true, true, true, true, false] 2 _ rfl (by kernel_rfl) Tk.rfl_ ?_
      refine At (i := 7) rfl (Rdo.load rfl (Lds.next (Lds.one (by assumption)))) ?_
      refine At (i := 9) rfl (Rdo.load rfl (Lds.next (Lds.next (Lds.next (Lds.next (Lds.one rfl)))))) ?_
      refine WpA.stop (by kernel_rfl) ?_
      refine WpR.lst (by simp only [List.cons_append, List.nil_append, List.append_nil]; exact rfl) ?_
      refine Qo (i := 11) rfl (Sc (s3 _) rfl ?_)
      rintro _ _ ⟨rfl, rfl⟩
      refine Ql ?_
      refine WpR.done (by kernel_rfl) ?_
      refine Thn.n (Wsr (Ls (Rdo.move rfl) (Ls (Rdo.fieldAddr0 rfl) ?_)))
      refine Ls (Rdo.load rfl (Lds.next (Lds.next (Lds.next (Lds.next (Lds.part (by first | exact msgC_tag | exact voteC_sum | exact voteC_tag | assumption) (by first | rfl | assumption | (simp <;> done)) (by first | rfl | assumption | (simp <;> done)))))))) ?_
      refine Ls (Rdo.fieldAddr0 rfl) ?_
      refine Ls (Rdo.load rfl (Lds.next (Lds.next (Lds.next (Lds.next (Lds.one (by assumption))))))) ?_
      refine WpL.gh (Gh.nil 44 68) ?_
      refine WpL.step (Sc (s2 _) rfl ?_)
      rintro _ _ ⟨rfl, rfl⟩
      refine Ll ?_
      refine Ls (Rdo.not rfl) (Lnt ?_)
      refine Wp.condT rfl ?_
      refine Wp.draw (by kernel_rfl) ?_
      refine Qt (i := 0) rfl (Rdo.move rfl) (Qt (i := 1) rfl (Rdo.move rfl) (Qt (i := 2) rfl (Rdo.nilCheck rfl) (Qt (i := 3) rfl (Rdo.fieldAddr0 rfl) ?_)))
      refine WpR.load (i := 5) [4] rfl (by kernel_rfl) (by kernel_rfl) (by kernel_rfl) (by kernel_rfl) (by kernel_rfl) rfl Tk.rfl_ (Harm.rd rfl (Rdo.load rfl (Lds.one rfl)) Harm.nil) (Rdo.load rfl (Lds.next (Lds.next (Lds.next (Lds.next (Lds.next Ld)))))) rfl ?_
      refine Pend.start (hz := MK.sl rfl rfl (VCs.cons (VC.ag _) (by first | rfl | assumption | (simp <;> done)) VCs.nil) (by first | exact rfl | (simp only [List.cons_append, List.nil_append, List.append_nil]; exact rfl)) rfl) (i := 6) rfl ?_
      refine Pend.one (hz := MK.sl rfl rfl (VCs.cons (VC.ag _) (by first | rfl | assumption | (simp <;> done)) VCs.nil) (by first | exact rfl | (simp only [List.cons_append, List.nil_append, List.append_nil]; exact rfl)) rfl) (j := 4) rfl rfl (by kernel_rfl) (by kernel_rfl) (by kernel_rfl) rfl (by simp) rfl rfl (Stp.rd (Rdo.load rfl (Lds.one rfl)) rfl ?_)
      refine Pend.made (hz := MK.sl rfl rfl (VCs.cons (VC.ag _) (by first | rfl | assumption | (simp <;> done)) VCs.nil) (by first | exact rfl | (simp only [List.cons_append, List.nil_append, List.append_nil]; exact rfl)) rfl) rfl (by kernel_rfl) rfl (fun nb15 => ?_)
      (refine Qo (i := 7) rfl (Stp.append0P rfl rfl (Pk.next (Pk.next Pk.here)) (Src.cel (by first | rfl | (simp <;> done) | (simp <;> omega))) (by first | rfl | assumption | (simp <;> done) | (simp <;> omega)) (by first | assumption | exact oneCells1 rfl | exact oneCells1 (by assumption) | exact oneCells_bytesC _ | exact oneCells_votesC _ | (simp [oneCells, Value.oneCell'] <;> done)) (by first | omega | (simp <;> omega)) (by first | omega | (simp <;> omega)) rfl (by first | rfl | (simp <;> done)) ?_); intro na16 nc16)
      refine Qt (i := 8) rfl (Rdo.nilCheck rfl) (Qt (i := 9) rfl (Rdo.fieldAddr0 rfl) ?_)
      refine Qo (i := 10) rfl (Stp.storeV rfl rfl (VC.sl _ _ _) rfl (Sts.next (Sts.next (Sp (oneCells1 rfl)))) ?_)
      refine WpR.done (by kernel_rfl) ?_
      refine Ret.end_ (l' := [cel b rT cs, tbA t (aset ls v.view [v])]) ResV.nil ?_ ⟨rfl, rfl⟩
      rw [show voteC v ++ [] = votesC [v] by simp [votesC]]
      refine Gh.trans (Gh.tk (l' := [cel nb29 189 [.slice na16 1 nc16], rowA 44 68 (.slice na16 1 nc16) 1 (votesC [v]), cel t tbT [.map (some mb)], mapA i64 mb (aset (ptrE ls qs) v.view (vp nb29 0)), starH (ownE balA ls qs), cel b rT cs]) (by repeat (first | exact Tk.nil | apply Tk.cons (by repeat (first | exact Pk.here | apply Pk.next))))) ?_
      refine Gh.trans (bal_shut (vs := [v]) rfl) ?_
      refine Gh.trans (Gh.tk (l' := [cel t tbT [.map (some mb)], mapA i64 mb (aset (ptrE ls qs) v.view (vp nb29 0)), balA nb29 [v], starH (ownE balA ls qs), cel b rT cs]) (by repeat (first | exact Tk.nil | apply Tk.cons (by repeat (first | exact Pk.here | apply Pk.next))))) ?_
      exact Gh.trans (tp_new (A := balA) hlen hlk) Gk
  | some vs =>
    refine Trip.ghE (GhE.tpS (Pk.next Pk.here) hlk) ?_
    rintro ⟨mb, qs, q, R⟩ ⟨hyes, hlen, hR, hback⟩
    simp only at hyes hlen hR hback
    refine Trip.gh (Gh.front (Pk.next (Pk.next Pk.here))) ?_
    have s1 := ballot_ok b t mb cs v.kind v.view (ptrE ls qs) hk
    rw [show mapVal (ptrE ls qs) v.view (.pointer none) = vp q 0 by unfold mapVal; rw [hyes]; rfl] at s1
    rw [balOf_some hlk] at hb
    refine Trip.ghE (bal_open (q := q) (vs := vs) Pk.here) ?_
    rintro s -
    refine Trip.get (Pk.next Pk.here) (fun r => rowA_shape) ?_
    rintro ⟨a0, c0, rfl⟩
    have s2 := hasB_ok q (.slice a0 vs.length c0) vs (by omega) v.sum v.from_
    simp only [Tabbal.tabA] at *
    by_cases hh : hasV vs v.sum v.from_ = true
    · have hadd : addV ls v = aset ls v.view vs := by
        unfold addV
        rw [balOf_some hlk, if_pos hh]
      rw [hadd]
      refine Trip.of_body Tryz.func92 rfl Tryz.ntmps92 Tryz.results92 rfl ?_
      refine Wsr ?_
      (refine WpL.step (Stp.boxV rfl (VC.ag _) rfl ?_); intro nb2)
      refine Lnt (Wsr (Ls (Rdo.move rfl) (Ls (Rdo.fieldAddr0 rfl) (Ls (Rdo.load rfl (Lds.one rfl)) (Ls (Rdo.fieldAddr0 rfl) (Ls (Rdo.load rfl (Lds.one rfl)) ?_))))))
      refine WpL.step (Sc (s1) rfl ?_)
      rintro _ _ ⟨rfl, rfl⟩
      refine Ll ?_
      refine Ls (Rdo.assign rfl) (Lnt (Wp.seq (Wsr (Ls (Rdo.move rfl) (Ls (Rdo.eqnil rfl rfl) (Lnt ?_))))))
      refine Wp.condF rfl ?_
      refine Wp.skip (Thn.n (Wsr (Ls (Rdo.move rfl) (Ls (Rdo.fieldAddr0 rfl) ?_))))
      refine Ls (Rdo.load rfl (Lds.next (Lds.next (Lds.next (Lds.part (by first | exact msgC_tag | exact voteC_sum | exact voteC_tag | assumption) (by first | rfl | assumption | (simp <;> done)) (by first | rfl | assumption | (simp <;> done))))))) ?_
      refine Ls (Rdo.fieldAddr0 rfl) ?_
      refine Ls (Rdo.load rfl (Lds.next (Lds.next (Lds.next (Lds.one (by assumption)))))) ?_
      refine WpL.step (Sc (s2) rfl ?_)
      rintro _ _ ⟨rfl, rfl⟩
      refine Ll ?_
      refine Ls (Rdo.not rfl) (Lnt (cL rfl (Wp.skip ?_)))
      refine Ret.end_ (l' := [cel b rT cs, tbA t (aset ls v.view vs)]) ResV.nil ?_ ⟨rfl, rfl⟩
      refine Gh.trans (bal_shut (vs := vs) rfl) ?_
      rw [← (hback vs).1]
      refine Gh.trans (Gh.tk (l' := [cel t tbT [.map (some mb)], mapA i64 mb (ptrE (aset ls v.view vs) qs), balA q vs, starH R, cel b rT cs]) (by repeat (first | exact Tk.nil | apply Tk.cons (by repeat (first | exact Pk.here | apply Pk.next))))) ?_
      exact Gh.trans (tp_back (ls' := aset ls v.view vs) (by rw [aset_length, hlk]; exact hlen) (hback vs).2) Gk
    · have hh' : hasV vs v.sum v.from_ = false := by simpa using hh
      have hadd : addV ls v = aset ls v.view (vs ++ [v]) := by
        unfold addV
        rw [balOf_some hlk, if_neg hh]
      rw [hadd]
      refine Trip.of_body Tryz.func92 rfl Tryz.ntmps92 Tryz.results92 rfl ?_
      refine Wsr ?_
      (refine WpL.step (Stp.boxV rfl (VC.ag _) rfl ?_); intro nb2)
      refine Lnt (Wsr (Ls (Rdo.move rfl) (Ls (Rdo.fieldAddr0 rfl) (Ls (Rdo.load rfl (Lds.one rfl)) (Ls (Rdo.fieldAddr0 rfl) (Ls (Rdo.load rfl (Lds.one rfl)) ?_))))))
      refine WpL.step (Sc (s1) rfl ?_)
      rintro _ _ ⟨rfl, rfl⟩
      refine Ll ?_
      refine Ls (Rdo.assign rfl) (Lnt (Wp.seq (Wsr (Ls (Rdo.move rfl) (Ls (Rdo.eqnil rfl rfl) (Lnt ?_))))))
      refine Wp.condF rfl ?_
      refine Wp.skip (Thn.n (Wsr (Ls (Rdo.move rfl) (Ls (Rdo.fieldAddr0 rfl) ?_))))
      refine Ls (Rdo.load rfl (Lds.next (Lds.next (Lds.next (Lds.part (by first | exact msgC_tag | exact voteC_sum | exact voteC_tag | assumption) (by first | rfl | assumption | (simp <;> done)) (by first | rfl | assumption | (simp <;> done))))))) ?_
      refine Ls (Rdo.fieldAddr0 rfl) ?_
      refine Ls (Rdo.load rfl (Lds.next (Lds.next (Lds.next (Lds.one (by assumption)))))) ?_
      refine WpL.step (Sc (s2) rfl ?_)
      rintro _ _ ⟨rfl, rfl⟩
      refine Ll ?_
      refine Ls (Rdo.not rfl) (Lnt (cK rfl ?_))
      refine Wp.draw (by kernel_rfl) ?_
      refine Qt (i := 0) rfl (Rdo.move rfl) (Qt (i := 1) rfl (Rdo.move rfl) (Qt (i := 2) rfl (Rdo.nilCheck rfl) (Qt (i := 3) rfl (Rdo.fieldAddr0 rfl) ?_)))
      refine WpR.load (i := 5) [4] rfl (by kernel_rfl) (by kernel_rfl) (by kernel_rfl) (by kernel_rfl) (by kernel_rfl) rfl Tk.rfl_ (Harm.rd rfl (Rdo.load rfl (Lds.one rfl)) Harm.nil) (Rdo.load rfl (Lds.next (Lds.next (Lds.next (Lds.next (Lds.next Ld)))))) rfl ?_
      refine Pend.start (hz := MK.sl rfl rfl (VCs.cons (VC.ag _) (by first | rfl | assumption | (simp <;> done)) VCs.nil) (by first | exact rfl | (simp only [List.cons_append, List.nil_append, List.append_nil]; exact rfl)) rfl) (i := 6) rfl ?_
      refine Pend.one (hz := MK.sl rfl rfl (VCs.cons (VC.ag _) (by first | rfl | assumption | (simp <;> done)) VCs.nil) (by first | exact rfl | (simp only [List.cons_append, List.nil_append, List.append_nil]; exact rfl)) rfl) (j := 4) rfl rfl (by kernel_rfl) (by kernel_rfl) (by kernel_rfl) rfl (by simp) rfl rfl (Stp.rd (Rdo.load rfl (Lds.one rfl)) rfl ?_)
      refine Pend.made (hz := MK.sl rfl rfl (VCs.cons (VC.ag _) (by first | rfl | assumption | (simp <;> done)) VCs.nil) (by first | exact rfl | (simp only [List.cons_append, List.nil_append, List.append_nil]; exact rfl)) rfl) rfl (by kernel_rfl) rfl (fun nb50 => ?_)
      (refine Qo (i := 7) rfl (Stp.appendP rfl rfl (Pk.next (Pk.next Pk.here)) (Src.cel (by first | rfl | (simp <;> done) | (simp <;> omega))) (by first | rfl | assumption | (simp <;> done) | (simp <;> omega)) (by first | assumption | exact oneCells1 rfl | exact oneCells1 (by assumption) | exact oneCells_bytesC _ | exact oneCells_votesC _ | (simp [oneCells, Value.oneCell'] <;> done)) (by first | omega | (simp <;> omega)) (by first | omega | (simp <;> omega)) rfl (by first | rfl | (simp <;> done)) ?_); intro na51 nc51)
      refine Qt (i := 8) rfl (Rdo.nilCheck rfl) (Qt (i := 9) rfl (Rdo.fieldAddr0 rfl) ?_)
      refine Qo (i := 10) rfl (Stp.storeV rfl rfl (VC.sl _ _ _) rfl (Sts.next (Sts.next (Sp (oneCells1 rfl)))) ?_)
      refine WpR.done (by kernel_rfl) ?_
      refine Ret.end_ (l' := [cel b rT cs, tbA t (aset ls v.view (vs ++ [v]))]) ResV.nil ?_ ⟨rfl, rfl⟩
      rw [show votesC vs ++ (voteC v ++ []) = votesC (vs ++ [v]) by rw [votesC_app, votesC_one, List.append_nil]]
      refine Gh.trans (Gh.tk (l' := [cel q 189 [.slice na51 (vs.length + 1) nc51], rowA 44 68 (.slice na51 (vs.length + 1) nc51) (vs.length + 1) (votesC (vs ++ [v])), cel t tbT [.map (some mb)], mapA i64 mb (ptrE ls qs), starH R, cel b rT cs]) (by repeat (first | exact Tk.nil | apply Tk.cons (by repeat (first | exact Pk.here | apply Pk.next))))) ?_
      refine Gh.trans (bal_shut (vs := vs ++ [v]) (by simp)) ?_
      rw [← (hback (vs ++ [v])).1]
      refine Gh.trans (Gh.tk (l' := [cel t tbT [.map (some mb)], mapA i64 mb (ptrE (aset ls v.view (vs ++ [v])) qs), balA q (vs ++ [v]), starH R, cel b rT cs]) (by repeat (first | exact Tk.nil | apply Tk.cons (by repeat (first | exact Pk.here | apply Pk.next))))) ?_
      exact Gh.trans (tp_back (ls' := aset ls v.view (vs ++ [v])) (by rw [aset_length, hlk]; exact hlen) (hback (vs ++ [v])).2) Gk
end Go.Proofs.YtomijhgicennbaaGreat
namespace Go.Proofs.YtomijhgicennbaaGreat
open Go
set_option maxHeartbeats 4000000
set_option linter.unusedSimpArgs false
set_option linter.unusedVariables false
set_option maxRecDepth 20000
theorem vals_at {l rest : List HP} {es : List Value} {vs : List (List UInt8)} {i : Nat} {bs : List UInt8} (hp : Pk l (fz (fun g => RdVals g es vs)) rest) (h : vs[i]? = some bs) :
    GhE l (fun p : Option Addr × Nat => es[i]? = some (.slice p.1 bs.length p.2)) (fun p => bsF p bs :: fz (fun g => RdVals g es vs) :: rest) := by
  have key : ∀ g, RdVals g es vs → ∃ p : Option Addr × Nat, es[i]? = some (.slice p.1 bs.length p.2) ∧ RdBytes g (.slice p.1 bs.length p.2) bs := by
    clear hp
    intro g hg
    unfold RdVals at hg
    induction hg generalizing i with
    | nil => simp at h
    | @cons e b es' vs' h1 _ ih =>
      cases i with
      | zero =>
        simp only [List.getElem?_cons_zero, Option.some.injEq] at h
        subst h
        obtain ⟨a, c, rfl⟩ := h1.shape
        exact ⟨(a, c), rfl, h1⟩
      | succ i =>
        simp only [List.getElem?_cons_succ] at h ⊢
        exact ih h
  have h1 := GhE.part (l := fz (fun g => RdVals g es vs) :: fz (fun g => RdVals g es vs) :: rest) (φ := fun p : Option Addr × Nat => es[i]? = some (.slice p.1 bs.length p.2)) (Ψ := fun p g => RdBytes g (.slice p.1 bs.length p.2) bs) Pk.here key
  refine GhE.mk fun F w hl => ?_
  exact h1.use ((Gh.fzAlso (Ψ := fun g => RdVals g es vs) hp fun g h => h).use hl)
theorem vals_snoc {l rest rest' : List HP} {es : List Value} {vs : List (List UInt8)} {p : Option Addr × Nat} {bs : List UInt8} (h1 : Pk l (fz (fun g => RdVals g es vs)) rest) (h2 : Pk rest (bsF p bs) rest') :
    Gh l (fz (fun g => RdVals g (es ++ [.slice p.1 bs.length p.2]) (vs ++ [bs])) :: rest') :=
  Gh.trans (Gh.fzAnd (RdVals.mono _ _) (RdRow.mono _ _ _ _) h1 h2) (Gh.fzImp Pk.here fun g h => All2.append h.1 (.cons h.2 .nil))
theorem knows1_ok (c : Nat) (p q : Option Addr × Nat) (x y : List UInt8) : Trip Tryz.prog 131 [.slice p.1 x.length p.2, vp c 0] [cel c 22 [.slice q.1 y.length q.2], bsF p x, bsF q y]
    (fun r l => r = vb (decide (x = y)) ∧ l = [cel c 22 [.slice q.1 y.length q.2], bsF p x, bsF q y]) := by
  have s1 := beq_ok p.1 q.1 p.2 q.2 x y
  refine Trip.of_body Tryz.func131 rfl Tryz.ntmps131 Tryz.results131 rfl ?_
  refine Wsr (Ls (Rdo.assign rfl) (Lnt (Wsr (Ls (Rdo.move rfl) (Ls (Rdo.load rfl (Lds.one rfl)) ?_)))))
  refine WpL.step (Sc (s1) rfl ?_)
  rintro _ _ ⟨rfl, rfl⟩
  refine Ll ?_
  refine Ls (Rdo.assign rfl) (Lnt (Wp.ret ?_))
  refine Rt (ResV.tmp rfl ResV.nil) ⟨rfl, rfl⟩
abbrev kfE (s : Value) (c : Nat) (n i : Nat) : Env := [(0, s), (1, .func (.func 131) #[] [vp c 0].toArray), (7, vi n), (8, vi i)]
theorem indexB_ok (a : Option Addr) (cap c : Nat) (q : Option Addr × Nat) (es : List Value) (vs : List (List UInt8)) (y : List UInt8) (hn : vs.length ≤ 1000000) :
    Trip Tryz.prog 165 [.slice a vs.length cap, .func (.func 131) #[] [vp c 0].toArray] [rowA 22 1 (.slice a vs.length cap) vs.length es, fz (fun g => RdVals g es vs), cel c 22 [.slice q.1 y.length q.2], bsF q y]
    (fun r l => ∃ z : {z : Int // 0 ≤ z ↔ y ∈ vs}, r = vi z.1 ∧ l = [rowA 22 1 (.slice a vs.length cap) vs.length es, fz (fun g => RdVals g es vs), cel c 22 [.slice q.1 y.length q.2], bsF q y]) := by
  generalize hN : vs.length = N at *
  refine Trip.of_body Tryz.func165 rfl Tryz.ntmps165 Tryz.results165 rfl ?_
  refine Wsr (Ls (Rdo.assign rfl) (Lnt (Wp.seq (Wsr (Ls (Rdo.move rfl) (Ls (Rdo.lenSlice rfl) (Ls (Rdo.move rfl) (Lnt (Wp.block ?_)))))))))
  refine Wp.loopE (fun k e h => ∃ i : Nat, i + k = N ∧ y ∉ vs.take i ∧ e = kfE (.slice a N cap) c N i ∧ h = [rowA 22 1 (.slice a N cap) N es, fz (fun g => RdVals g es vs), cel c 22 [.slice q.1 y.length q.2], bsF q y]) N
    (e0 := kfE (.slice a N cap) c N (0 : Nat)) (l0 := [rowA 22 1 (.slice a N cap) N es, fz (fun g => RdVals g es vs), cel c 22 [.slice q.1 y.length q.2], bsF q y]) (by repeat (first | exact trivial | refine ⟨rfl, ?_⟩)) (by repeat (first | exact trivial | refine ⟨rfl, ?_⟩)) Gk ⟨0, by omega, by simp, rfl, rfl⟩ ?_
  rintro k e h ⟨i, hik, hno, rfl, rfl⟩
  by_cases hi : i < N
  · refine Wp.get Pk.here (fun r => rowA_at i hi) ?_
    rintro ⟨bb, oo, cap', he⟩
    simp only [Value.slice.injEq, true_and] at he
    obtain ⟨rfl, rfl⟩ := he
    obtain ⟨x, hx⟩ : ∃ x, vs[i]? = some x := ⟨vs[i], List.getElem?_eq_getElem (by omega)⟩
    have hmem : x ∈ vs := List.mem_of_getElem? hx
    have htk : vs.take (i + 1) = vs.take i ++ [x] := by
      obtain ⟨h1, rfl⟩ := List.getElem?_eq_some_iff.1 hx
      exact List.take_succ_eq_append_getElem h1
    refine Wp.ghE (vals_at (Pk.next Pk.here) hx) ?_
    intro p hp
    have s1 := knows1_ok c p q x y
    by_cases hxy : x = y
    · refine Wsr (Ls (Rdo.lti rfl rfl) (Lnt (Wp.seq (cK rfl (Wp.skip (Thn.n (Wp.seq (Wp.block (Wsr (Ls (Rdo.move rfl) (Ls (Rdo.assign rfl) (Lnt (Wsr ?_)))))))))))))
      refine Ls (Rdo.move rfl) (Ls (Rdo.move rfl) (Ls (Rdo.move rfl) ?_))
      refine Ls (Rdo.indexSlice rfl rfl (by omega)) ?_
      refine Ls (Rdo.load rfl (Lds.next (Lds.next (Lds.row1 (by assumption))))) ?_
      refine WpL.step (Stp.callv rfl (by kernel_rfl) rfl (s1) (by repeat (first | exact Tk.nil | apply Tk.cons (by repeat (first | exact Pk.here | apply Pk.next)))) rfl ?_)
      rintro _ _ ⟨rfl, rfl⟩
      refine Ll ?_
      refine Lnt (cK rfl (Wsr (Ls (Rdo.move rfl) (Ls (Rdo.assign rfl) (Lnt (Wp.ret ?_))))))
      refine Blk.r ?_
      refine Thn.r ?_
      refine Thn.r ?_
      refine Blk.r ?_
      refine Thn.r ?_
      exact Rt (by repeat (first | exact ResV.nil | apply ResV.tmp rfl | apply ResV.cell rfl (by repeat (first | exact Lds.one rfl | (apply Lds.all; (first | rfl | assumption | (simp <;> fail))) | exact Lds.ione0 | exact Lds.ione rfl | (apply Lds.iall; (first | rfl | assumption | (simp <;> fail))) | apply Lds.next)))) ⟨⟨i, by constructor; (intro _; rw [← hxy]; exact hmem); (intro _; omega)⟩, rfl, rfl⟩
    · refine Wsr (Ls (Rdo.lti rfl rfl) (Lnt (Wp.seq (cK rfl (Wp.skip (Thn.n (Wp.seq (Wp.block (Wsr (Ls (Rdo.move rfl) (Ls (Rdo.assign rfl) (Lnt (Wsr ?_)))))))))))))
      refine Ls (Rdo.move rfl) (Ls (Rdo.move rfl) (Ls (Rdo.move rfl) ?_))
      refine Ls (Rdo.indexSlice rfl rfl (by omega)) ?_
      refine Ls (Rdo.load rfl (Lds.next (Lds.next (Lds.row1 (by assumption))))) ?_
      refine WpL.step (Stp.callv rfl (by kernel_rfl) rfl (s1) (by repeat (first | exact Tk.nil | apply Tk.cons (by repeat (first | exact Pk.here | apply Pk.next)))) rfl ?_)
      rintro _ _ ⟨rfl, rfl⟩
      refine Ll ?_
      refine Lnt (cL rfl (Wp.skip (Blk.n (Thn.n (Wp.region ?_)))))
      refine Ls (Rdo.succ rfl rfl (by omega)) ?_
      refine Ls (Rdo.move rfl) (Lnt ?_)
      exact ⟨k - 1, _, _, by omega, ⟨i + 1, by omega, by rw [htk, List.mem_append, List.mem_singleton]; rintro (h | h); exact hno h; exact hxy h.symm, rfl, rfl⟩, (by repeat (first | exact trivial | refine ⟨rfl, ?_⟩)), Gk⟩
  · obtain rfl : i = N := by omega
    rw [List.take_of_length_le (by omega)] at hno
    refine Wsr (Ls (Rdo.lti rfl rfl) (Lnt (Wp.seq (cL rfl ?_))))
    refine Wp.exit ?_
    refine Thn.x ?_
    refine Thn.x ?_
    refine Blk.here ?_
    refine Thn.n (Wsr (Ls (Rdo.assign rfl) (Lnt (Wp.ret ?_))))
    exact Rt (by repeat (first | exact ResV.nil | apply ResV.tmp rfl | apply ResV.cell rfl (by repeat (first | exact Lds.one rfl | (apply Lds.all; (first | rfl | assumption | (simp <;> fail))) | exact Lds.ione0 | exact Lds.ione rfl | (apply Lds.iall; (first | rfl | assumption | (simp <;> fail))) | apply Lds.next)))) ⟨⟨-1, by constructor; (intro h; omega); (intro h; exact absurd h hno)⟩, rfl, rfl⟩
theorem containsB_ok (a : Option Addr) (cap c : Nat) (q : Option Addr × Nat) (es : List Value) (vs : List (List UInt8)) (y : List UInt8) (hn : vs.length ≤ 1000000) :
    Trip Tryz.prog 130 [.slice a vs.length cap, .func (.func 131) #[] [vp c 0].toArray] [rowA 22 1 (.slice a vs.length cap) vs.length es, fz (fun g => RdVals g es vs), cel c 22 [.slice q.1 y.length q.2], bsF q y]
    (fun r l => r = vb (decide (y ∈ vs)) ∧ l = [rowA 22 1 (.slice a vs.length cap) vs.length es, fz (fun g => RdVals g es vs), cel c 22 [.slice q.1 y.length q.2], bsF q y]) := by
  have s1 := indexB_ok a cap c q es vs y hn
  refine Trip.of_body Tryz.func130 rfl Tryz.ntmps130 Tryz.results130 rfl ?_
  refine Wsr (Ls (Rdo.assign rfl) (Lnt (Wsr (Ls (Rdo.move rfl) (Ls (Rdo.move rfl) ?_)))))
  refine WpL.step (Sc (s1) rfl ?_)
  rintro _ _ ⟨v10_0, ⟨rfl, rfl⟩⟩
  refine Ll ?_
  refine Ls (Rdo.gei rfl rfl) (Ls (Rdo.assign rfl) (Lnt (Wp.ret ?_)))
  have e : decide (0 ≤ v10_0.1) = decide (y ∈ vs) := decide_eq_decide.2 v10_0.2
  exact Rt (by repeat (first | exact ResV.nil | apply ResV.tmp rfl | apply ResV.cell rfl (by repeat (first | exact Lds.one rfl | (apply Lds.all; (first | rfl | assumption | (simp <;> fail))) | exact Lds.ione0 | exact Lds.ione rfl | (apply Lds.iall; (first | rfl | assumption | (simp <;> fail))) | apply Lds.next)))) ⟨by rw [← e]; rfl, rfl⟩
/-- A value is known. -/
theorem knows_ok (b : Nat) (x : RouS) (m : RouM) (p : Option Addr × Nat) (v : List UInt8) (hv : v.length ≤ 1000000) (hn : x.values.length ≤ 1000) :
    Trip Tryz.prog 90 [vp b 0, .slice p.1 v.length p.2] [cel b rT (rouX x m), rowA 22 1 (.slice m.vl.1 x.values.length m.vl.2) x.values.length m.es, fz (fun g => RdVals g m.es x.values), bsF p v]
      (fun r l => r = .tuple #[] ∧ ∃ vl es, l = [cel b rT (rouX (x.knows v) { m with vl := vl, es := es }), rowA 22 1 (.slice vl.1 (x.knows v).values.length vl.2) (x.knows v).values.length es, fz (fun g => RdVals g es (x.knows v).values), bsF p v]) := by
  have s1 := fun c => containsB_ok m.vl.1 m.vl.2 c p m.es x.values v (by omega)
  have s2 := bclone_ok p.1 p.2 v (by omega)
  unfold RouS.knows
  by_cases hk : v ∈ x.values
  · rw [if_pos hk]
    refine Trip.of_body Tryz.func90 rfl Tryz.ntmps90 Tryz.results90 rfl ?_
    refine Wsr ?_
    (refine WpL.step (Stp.boxV rfl (VC.sl _ _ _) rfl ?_); intro nb2)
    refine Lnt (Wsr (Ls (Rdo.move rfl) (Ls (Rdo.nilCheck rfl) (Ls (Rdo.fieldAddr0 rfl) (Ls (Rdo.load rfl (Lds.next (Lds.one rfl))) (Ls (Rdo.makeFunc rfl) ?_))))))
    refine WpL.step (Sc (s1 _) rfl ?_)
    rintro _ _ ⟨rfl, rfl⟩
    refine Ll ?_
    refine Ls (Rdo.not rfl) (Lnt (cL rfl (Wp.skip ?_)))
    refine Ret.end_ ResV.nil Gk ⟨rfl, ⟨_, ⟨_, rfl⟩⟩⟩
  · rw [if_neg hk]
    refine Trip.of_body Tryz.func90 rfl Tryz.ntmps90 Tryz.results90 rfl ?_
    refine Wsr ?_
    (refine WpL.step (Stp.boxV rfl (VC.sl _ _ _) rfl ?_); intro nb2)
    refine Lnt (Wsr (Ls (Rdo.move rfl) (Ls (Rdo.nilCheck rfl) (Ls (Rdo.fieldAddr0 rfl) (Ls (Rdo.load rfl (Lds.next (Lds.one rfl))) (Ls (Rdo.makeFunc rfl) ?_))))))
    refine WpL.step (Sc (s1 _) rfl ?_)
    rintro _ _ ⟨rfl, rfl⟩
    refine Ll ?_
    refine Ls (Rdo.not rfl) (Lnt (cK rfl ?_))
    refine Wp.draw (by kernel_rfl) ?_
    refine Qt (i := 0) rfl (Rdo.move rfl) (Qt (i := 1) rfl (Rdo.move rfl) (Qt (i := 2) rfl (Rdo.nilCheck rfl) (Qt (i := 3) rfl (Rdo.fieldAddr0 rfl) ?_)))
    refine WpR.phaseT (m := 1) #[true, true, true, true, true, true, true, true, true, true, true, false] 7 _ (by kernel_rfl) (Tk.cons (Pk.next (Pk.next Pk.here)) (Tk.cons (Pk.next (Pk.next (Pk.next Pk.here))) Tk.nil)) ?_
    refine At (i := 4) rfl (Rdo.load rfl (Lds.next (Lds.one rfl))) (At (i := 5) rfl (Rdo.load rfl (Lds.one rfl)) ?_)
    refine WpA.one (i := 6) rfl (by kernel_rfl) (Sc (s2) rfl ?_)
    rintro _ _ ⟨v28_0, ⟨v28_1, ⟨rfl, rfl⟩⟩⟩
    refine WpA.lst (by simp only [List.cons_append, List.nil_append]; exact rfl) ?_
    (refine WpA.one (i := 7) rfl (by kernel_rfl) (Stp.sliceV rfl rfl (VCs.cons (VC.sl _ _ _) (by first | rfl | assumption | (simp <;> done)) VCs.nil) (by simp only [List.cons_append, List.nil_append, List.append_nil]; exact rfl) rfl rfl ?_); intro nb30)
    (refine WpA.one (i := 8) rfl (by kernel_rfl) (Stp.appendP rfl rfl (Pk.next (Pk.next (Pk.next Pk.here))) (Src.cel (by first | rfl | (simp <;> done) | (simp <;> omega))) (by first | rfl | assumption | (simp <;> done) | (simp <;> omega)) (by first | assumption | exact oneCells1 rfl | exact oneCells1 (by assumption) | exact oneCells_bytesC _ | exact oneCells_votesC _ | (simp [oneCells, Value.oneCell'] <;> done)) (by first | omega | (simp <;> omega)) (by first | omega | (simp <;> omega)) rfl (by first | rfl | (simp <;> done)) ?_); intro na31 nc31)
    refine At (i := 9) rfl (Rdo.nilCheck rfl) (At (i := 10) rfl (Rdo.fieldAddr0 rfl) ?_)
    refine WpA.stop (by kernel_rfl) ?_
    refine Ql ?_
    refine Qo (i := 11) rfl (Stp.storeV rfl rfl (VC.sl _ _ _) rfl (Sts.next (Sp (oneCells1 rfl))) ?_)
    refine WpR.done (by kernel_rfl) ?_
    have e : (x.values ++ [v]).length = x.values.length + 1 := by simp
    refine Ret.end_ (l' := [cel b rT (rouX { x with values := x.values ++ [v] } { m with vl := (na31, nc31), es := m.es ++ [.slice v28_0 v.length v28_1] }), rowA 22 1 (.slice na31 (x.values ++ [v]).length nc31) (x.values ++ [v]).length (m.es ++ [.slice v28_0 v.length v28_1]), fz (fun g => RdVals g (m.es ++ [.slice v28_0 v.length v28_1]) (x.values ++ [v])), bsF p v]) ResV.nil ?_ ⟨rfl, (na31, nc31), _, rfl⟩
    simp only [rouX, e]
    exact Gh.trans (vals_snoc (es := m.es) (vs := x.values) (p := (v28_0, v28_1)) (bs := v) (by repeat (first | exact Pk.here | apply Pk.next)) (by repeat (first | exact Pk.here | apply Pk.next))) Gk
end Go.Proofs.YtomijhgicennbaaGreat
