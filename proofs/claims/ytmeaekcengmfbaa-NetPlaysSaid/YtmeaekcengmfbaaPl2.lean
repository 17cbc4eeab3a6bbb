/- NetPlays: an act, in both: Put. -/
import Derived.Test.YtmeaekcengmfbaaPl1
namespace Go.Proofs.Ytmeaekcengmfbaa
open Go
set_option maxHeartbeats 4000000
set_option linter.unusedSimpArgs false
set_option linter.unusedVariables false
set_option maxRecDepth 20000

theorem and255 (n : Int) : 0 ≤ bits .and .i64 n 255 ∧ bits .and .i64 n 255 ≤ 255 := by
  have h : (BitVec.ofInt 64 n &&& BitVec.ofInt 64 255).toNat ≤ 255 := by
    rw [BitVec.toNat_and]
    exact Nat.le_trans Nat.and_le_right (by decide)
  have e : bits .and .i64 n 255 = IntKind.i64.wrap ((BitVec.ofInt 64 n &&& BitVec.ofInt 64 255).toNat : Int) := rfl
  rw [e]
  generalize (BitVec.ofInt 64 n &&& BitVec.ofInt 64 255).toNat = q at h
  have h1 : IntKind.i64.min = -9223372036854775808 := by decide
  have h2 : IntKind.i64.max = 9223372036854775807 := by decide
  rw [wrap_in (by omega) (by omega)]
  omega
def BagOk (ms : List Msg) (lost : Int) (top : Int) : Prop := ms.length ≤ 512 ∧ (∀ m ∈ ms, okMsg m) ∧ 0 ≤ lost ∧ lost ≤ top
theorem all2_rep {α β : Type} {R : α → β → Prop} {a : α} {b : β} (h : R a b) : ∀ n, All2 R (List.replicate n a) (List.replicate n b)
  | 0 => .nil
  | n + 1 => .cons h (all2_rep h n)
theorem RdMsgs.rep {g : FH} {v : Value} {cs : List Value} {m : Msg} {n : Nat} (h : RdRow g 39 v n (List.replicate n cs).flatten) (hm : RdMsg g cs m) : RdMsgs g v (List.replicate n m) :=
  ⟨List.replicate n cs, by rwa [List.length_replicate], fun c hc => by rw [List.eq_of_mem_replicate hc]; exact hm.len, all2_rep hm n⟩
abbrev putL (y : PX) (a : Act) (nb b x : Nat) (ms : List Msg) (lost : Int) (p : Option Addr) (c i : Nat) : List HP :=
  [cel nb 45 (actC a y), rowA 30 39 (.slice p i c) i (List.replicate i (msgCs a.m y)).flatten, bagA b ms lost, rbA x ms lost, fz (fun g => RdMsg g (msgCs a.m y) a.m)]
abbrev plE (b x nb : Nat) (p : Option Addr) (c i : Nat) : Env := [(0, vp b 0), (1, vp x 0), (5, vp nb 0), (6, vb false), (7, .slice p i c), (8, vi i)]
theorem actPut_ok (b x : Nat) (ms : List Msg) (lost top : Int) (a : Act) (y : PX) (hB : BagOk ms lost top) (htop : top ≤ 1000000) (hok : okMsg a.m) (h1 : a.kind = 1) :
    Trip Try.prog 15 [vp b 0, vp x 0, .agg (actC a y).toArray] [bagA b ms lost, rbA x ms lost, fz (fun g => RdMsg g (msgCs a.m y) a.m)]
      (fun r l => ∃ z : List Msg × Int, (r = vb true ∧ BagOk z.1 z.2 (top + 256)) ∧ l = [bagA b z.1 z.2, rbA x z.1 z.2]) := by
  obtain ⟨hl, hall, hlo, hlt⟩ := hB
  obtain ⟨hq0, hq1⟩ := and255 a.times
  obtain ⟨T, hT⟩ : ∃ T : Nat, (T : Int) = 1 + bits .and .i64 a.times 255 := ⟨(1 + bits .and .i64 a.times 255).toNat, by omega⟩
  have hone : ∀ y, oneCells (msgCs a.m y) := fun y => oneCells_msgC rfl rfl
  have hlen : ∀ y, (msgCs a.m y).length = 39 := fun y => msgC_length _ _ _ _ _ _ _ _
  have hm : actC a y = [vi a.kind] ++ (msgCs a.m y ++ [vi a.n, vi a.times]) := rfl
  have htm : (actC a y)[41]? = some (vi a.times) := by
    rw [hm, List.getElem?_append_right (by simp), List.getElem?_append_right (by rw [hlen]; simp), hlen]
    rfl
  have hone1 := hone y
  have hlen1 := hlen y
  have s1 := fun lv => netPut_ok b ms lost lv (List.replicate T a.m) hl (fun m hm => by rw [List.eq_of_mem_replicate hm]; exact hok) (by simp; omega) ⟨hlo, by omega⟩
  have s2 := fun lv => rput_ok x ms lost lv (List.replicate T a.m) hl (by simp; omega) ⟨hlo, by omega⟩
  refine Trip.of_body Try.func15 rfl Try.ntmps15 Try.results15 rfl ?_
  refine Wp.seq ?_
  refine Wp.region ?_
  (refine WpL.step (Stp.boxV rfl (VC.ag _) rfl ?_); intro nb2)
  refine WpL.step (Stp.rd (Rdo.assign rfl) rfl ?_)
  refine WpL.nil ?_
  refine Thn.n ?_
  refine Wp.seq ?_
  refine Wp.seq ?_
  refine Wp.region ?_
  refine WpL.step (Stp.rd (Rdo.fieldAddr0 rfl) rfl ?_)
  refine WpL.step (Stp.rd (Rdo.load rfl (Lds.one rfl)) rfl ?_)
  refine WpL.nil ?_
  refine Thn.n ?_
  refine Wp.block ?_
  refine Wp.seq ?_
  refine Wp.region ?_
  refine WpL.step (Stp.rd (Rdo.eqi rfl rfl) rfl ?_)
  refine WpL.step (Stp.rd (Rdo.assign rfl) rfl ?_)
  refine WpL.nil ?_
  refine Thn.n ?_
  refine Wp.condK rfl (by first | rfl | assumption | (simp only [decide_eq_true_eq, decide_eq_false_iff_not, Bool.not_eq_true', Bool.not_eq_false', List.length_cons, List.length_nil]; first | assumption | omega) | (simp <;> done) | (simp <;> omega)) ?_
  refine Wp.seq ?_
  refine Wp.region ?_
  refine WpL.step (Stp.rd (Rdo.assign rfl) rfl ?_)
  refine WpL.nil ?_
  refine Thn.n ?_
  refine Wp.seq ?_
  refine Wp.seq ?_
  refine Wp.region ?_
  refine WpL.step (Stp.rd (Rdo.assign rfl) rfl ?_)
  refine WpL.nil ?_
  refine Thn.n ?_
  refine Wp.block ?_
  refine Wp.gh (Gh.nil 30 39) ?_
  refine Wp.loopE (fun k e h => ∃ (i : Nat) (p : Option Addr) (c : Nat), i + k = T ∧ e = plE b x nb2 p c i ∧ h = putL y a nb2 b x ms lost p c i) T
    (e0 := plE b x nb2 none 0 0) (l0 := putL y a nb2 b x ms lost none 0 0) (by repeat (first | exact trivial | refine ⟨rfl, ?_⟩)) (by repeat (first | exact trivial | refine ⟨rfl, ?_⟩)) (Gh.tk (by repeat (first | exact Tk.nil | apply Tk.cons (by repeat (first | exact Pk.here | apply Pk.next))))) ⟨0, none, 0, by omega, rfl, rfl⟩ ?_
  rintro k e h ⟨i, p, c, hik, rfl, rfl⟩
  by_cases hi : i < T
  · have hi' : (i : Int) < 1 + bits .and .i64 a.times 255 := by omega
    refine Wp.seq ?_
    refine Wp.seq ?_
    refine Wp.region ?_
    refine WpL.step (Stp.rd (Rdo.move rfl) rfl ?_)
    refine WpL.step (Stp.rd (Rdo.fieldAddr0 rfl) rfl ?_)
    refine WpL.step (Stp.rd (Rdo.load rfl (Lds.one (by assumption))) rfl ?_)
    refine WpL.step (Stp.rd (Rdo.and rfl rfl) rfl ?_)
    refine WpL.step (Stp.rd (Rdo.add64 rfl rfl (by first | omega | (dsimp only; omega))) rfl ?_)
    refine WpL.step (Stp.rd (Rdo.lti rfl rfl) rfl ?_)
    refine WpL.nil ?_
    refine Thn.n ?_
    refine Wp.condK rfl (by first | rfl | assumption | (simp only [decide_eq_true_eq, decide_eq_false_iff_not, Bool.not_eq_true', Bool.not_eq_false', List.length_cons, List.length_nil]; first | assumption | omega) | (simp <;> done) | (simp <;> omega)) ?_
    refine Wp.skip ?_
    refine Thn.n ?_
    refine Wp.seq ?_
    refine Wp.block ?_
    refine Wp.region ?_
    refine WpL.step (Stp.rd (Rdo.move rfl) rfl ?_)
    refine WpL.step (Stp.rd (Rdo.fieldAddr0 rfl) rfl ?_)
    refine WpL.step (Stp.rd (Rdo.load rfl (Lds.part (by first | exact msgC_tag | exact voteC_sum | exact voteC_tag | assumption) (by first | rfl | assumption | (simp <;> done)) (by first | rfl | assumption | (simp <;> done)))) rfl ?_)
    (refine WpL.step (Stp.sliceV rfl rfl (VCs.cons (VC.ag _) (by first | rfl | assumption | (simp <;> done)) VCs.nil) (by simp only [List.cons_append, List.nil_append, List.append_nil]; exact rfl) rfl rfl ?_); intro nb20)
    (refine WpL.step (Stp.appendP rfl rfl (Pk.next (Pk.next Pk.here)) (Src.cel (by first | rfl | (simp <;> done) | (simp <;> omega))) (by first | rfl | (simp <;> done) | (simp <;> omega)) (by first | assumption | exact oneCells1 rfl | exact oneCells1 (by assumption) | exact oneCells_bytesC _ | exact oneCells_votesC _ | (simp [oneCells, Value.oneCell'] <;> done)) (by first | omega | (simp <;> omega)) (by first | omega | (simp <;> omega)) rfl (by first | rfl | (simp <;> done)) ?_); intro na21 nc21)
    refine WpL.step (Stp.rd (Rdo.assign rfl) rfl ?_)
    refine WpL.nil ?_
    refine Blk.n ?_
    refine Thn.n ?_
    refine Wp.region ?_
    refine WpL.step (Stp.rd (Rdo.move rfl) rfl ?_)
    refine WpL.step (Stp.rd (Rdo.succ rfl rfl (by omega)) rfl ?_)
    refine WpL.step (Stp.rd (Rdo.assign rfl) rfl ?_)
    refine WpL.nil ?_
    refine Thn.n ?_
    refine ⟨k - 1, _, _, by omega, ⟨i + 1, na21, nc21, by omega, rfl, rfl⟩, (by repeat (first | exact trivial | refine ⟨rfl, ?_⟩)), ?_⟩
    simp only [putL, List.replicate_succ', List.flatten_append, List.flatten_singleton]
    exact Gh.tk (by repeat (first | exact Tk.nil | apply Tk.cons (by repeat (first | exact Pk.here | apply Pk.next))))
  · have hi' : i = T := by omega
    subst hi'
    have hi' : ¬ (i : Int) < 1 + bits .and .i64 a.times 255 := by omega
    refine Wp.gh (Gh.front (Pk.next Pk.here)) (Wp.gh (Gh.ice Pk.here) ?_)
    refine Wp.gh (Gh.fzAnd (RdRow.mono _ _ _ _) (RdMsg.mono _ _) Pk.here (by repeat (first | exact Pk.here | apply Pk.next))) ?_
    refine Wp.gh (Gh.fzImp (Ψ := fun g => RdMsgs g (.slice p i c) (List.replicate i a.m)) Pk.here fun g h => RdMsgs.rep h.1 h.2) ?_
    refine Wp.seq ?_
    refine Wp.seq ?_
    refine Wp.region ?_
    refine WpL.step (Stp.rd (Rdo.move rfl) rfl ?_)
    refine WpL.step (Stp.rd (Rdo.fieldAddr0 rfl) rfl ?_)
    refine WpL.step (Stp.rd (Rdo.load rfl (Lds.next (Lds.one (by assumption)))) rfl ?_)
    refine WpL.step (Stp.rd (Rdo.and rfl rfl) rfl ?_)
    refine WpL.step (Stp.rd (Rdo.add64 rfl rfl (by first | omega | (dsimp only; omega))) rfl ?_)
    refine WpL.step (Stp.rd (Rdo.lti rfl rfl) rfl ?_)
    refine WpL.nil ?_
    refine Thn.n ?_
    refine Wp.condL rfl (by first | rfl | assumption | (simp only [decide_eq_true_eq, decide_eq_false_iff_not, Bool.not_eq_true', Bool.not_eq_false', List.length_cons, List.length_nil]; first | assumption | omega) | (simp <;> done) | (simp <;> omega)) ?_
    refine Wp.exit ?_
    refine Thn.x ?_
    refine Thn.x ?_
    refine Blk.here ?_
    refine Thn.n ?_
    refine Wp.seq ?_
    refine Wp.region ?_
    refine WpL.step (Stp.rd (Rdo.move rfl) rfl ?_)
    refine WpL.step (Stp.rd (Rdo.move rfl) rfl ?_)
    refine WpL.step (Stp.call (s1 _) (by kernel_rfl) rfl (by repeat (first | exact Tk.nil | apply Tk.cons (by repeat (first | exact Pk.here | apply Pk.next)))) rfl ?_)
    rintro _ _ ⟨rfl, rfl⟩
    refine WpL.lst (by simp only [List.cons_append, List.nil_append]; exact rfl) ?_
    refine WpL.step (Stp.rd (Rdo.move rfl) rfl ?_)
    refine WpL.step (Stp.rd (Rdo.move rfl) rfl ?_)
    refine WpL.step (Stp.call (s2 _) (by kernel_rfl) rfl (by repeat (first | exact Tk.nil | apply Tk.cons (by repeat (first | exact Pk.here | apply Pk.next)))) rfl ?_)
    rintro _ _ ⟨rfl, rfl⟩
    refine WpL.lst (by simp only [List.cons_append, List.nil_append]; exact rfl) ?_
    refine WpL.step (Stp.rd (Rdo.eqi rfl rfl) rfl ?_)
    refine WpL.step (Stp.rd (Rdo.assign rfl) rfl ?_)
    refine WpL.nil ?_
    refine Thn.n ?_
    refine Wp.ret ?_
    refine Blk.r ?_
    refine Thn.r ?_
    refine Ret.now (by repeat (first | exact ResV.nil | apply ResV.tmp rfl | apply ResV.cell rfl (by repeat (first | exact Lds.one rfl | (apply Lds.all; (first | rfl | assumption | (simp <;> fail))) | exact Lds.ione0 | exact Lds.ione rfl | (apply Lds.iall; (first | rfl | assumption | (simp <;> fail))) | apply Lds.next)))) (Gh.tk (by repeat (first | exact Tk.nil | apply Tk.cons (by repeat (first | exact Pk.here | apply Pk.next))))) ⟨(ms ++ (List.replicate i a.m).take (512 - ms.length), lost + ((List.replicate i a.m).length - min (List.replicate i a.m).length (512 - ms.length) : Nat)), ⟨by simp [packed], ?_⟩, rfl⟩
    refine ⟨by simp; omega, fun m hm => ?_, by simp only; omega, by simp only [List.length_replicate]; omega⟩
    rcases List.mem_append.1 hm with h | h
    · exact hall m h
    · rw [List.eq_of_mem_replicate (List.mem_of_mem_take h)]; exact hok
end Go.Proofs.Ytmeaekcengmfbaa
