/- Slices of arrays; copies into owned memory; pieces of frozen bytes. -/
import Derived.Test.YtccgdnocldmjeaaDoorDig4
import Derived.Laws.Slices
namespace Go.Proofs.YtccgdnocldmjeaaDoor
open Go
set_option maxHeartbeats 4000000
set_option linter.unusedSimpArgs false
set_option linter.unusedVariables false
set_option maxRecDepth 20000

theorem AR.at {P : Program} {t n e' : Nat} (h : AR P t n e') : P.underlying t = some (.array (P.arrayLen t) (P.elem t)) ∧ P.arrayLen t = n ∧ P.elem t = e' := by
  have h1 := h.pf
  have h2 : P.arrayLen t = n := by simp [Program.arrayLen, h1]
  have h3 : P.elem t = e' := by simp [Program.elem, h1]
  exact ⟨by rw [h2, h3]; exact h1, h2, h3⟩
section
variable {P : Program} {e : Env} {C : List HP} {t ty n e' s : Nat} {x lo : Operand} {b o : Nat} {k : IntKind} {li : Int}
theorem Rdo.slArr [ht : AR P t n e'] [hs : SZ P e' s] (hx : evl e x = some (.pointer (some ⟨b, o, none⟩))) : Rdo P e C (.slice t x none none none) ty (.slice (some ⟨b, o, none⟩) n n) := by
  unfold Rdo
  intro G w a n' dst pos after g hG he
  obtain ⟨h1, h2, h3⟩ := ht.at
  have hsz := hs.run (w := w)
  rw [← h3] at hsz
  simp only [execOp, he.eval hx, Option.map_none, Sem.run_bind]
  rw [run_sliceAt_array_all w t ⟨b, o, none⟩ h1, hsz]
  simp [slicedAt, h2, addr_add]
theorem Rdo.slArr_l (l : Nat) [ht : AR P t n e'] [hs : SZ P e' s] (hx : evl e x = some (.pointer (some ⟨b, o, none⟩))) (hl : evl e lo = some (.int k li)) (hli : li = l) (h : l ≤ n) : Rdo P e C (.slice t x (some lo) none none) ty (.slice (some (slA b o l n s)) (n - l) (n - l)) := by
  unfold Rdo
  intro G w a n' dst pos after g hG he
  subst hli
  obtain ⟨h1, h2, h3⟩ := ht.at
  have hsz := hs.run (w := w)
  rw [← h3] at hsz
  simp only [execOp, he.eval hx, he.eval hl, Option.map_some, Option.map_none, Sem.run_bind]
  rw [run_sliceAt_array_l w t ⟨b, o, none⟩ h1 k (l : Int) (by omega) (by omega), hsz]
  simp only [Result.andThen_ok, Sem.run_pure, Int.toNat_natCast, slicedAt, slA, h2, addr_add]
end
/-- An element of an array that is a value. -/
theorem Rdo.indexAgg1 {P : Program} {e : Env} {C : List HP} {t ty n e' i : Nat} {x y : Operand} {k : IntKind} {cs : List Value} {v : Value} [h : AR P t n e'] [hs : SZ P e' 1] [ha : AG P e' false] (hx : evl e x = some (.agg cs.toArray)) (hy : evl e y = some (.int k i)) (hi : i < n) (hv : cs[i]? = some v) : Rdo P e C (.index t x y) ty v := by
  have key : ∀ w, (Instr.index t (.agg cs.toArray) (.int k i)).run P w = .ok v w := by
    intro w
    have h0 : (0 : Int) ≤ (i : Int) ∧ (i : Int) < n := by omega
    simp [Instr.index, asIntOf, run_underlying h.pf, h0, hs.run, part, ha.run, hv]
    omega
  unfold Rdo
  intro G w a n' dst pos after g hl he
  simp [execOp, he.eval hx, he.eval hy, key]
/-- copy of a whole source. -/
theorem Stp.copyAll {P : Program} {n d : Nat} {x y : Operand} {t xt ty e' m dLen dCap : Nat} {pos : String} {after : Array Edge} {g : Option (Nat × Bool)} {e : Env} {l l' : List HP} {Φ : Env → List HP → Prop} {a : Addr} {u : Value} {news : List Value}
    [ht : EL P t e'] [hz : SZ P e' 1] (hx : evl e x = some (.slice (some a) dLen dCap)) (hy : evl e y = some u) (hs : Src P l 1 u m news) (hm : m ≤ dLen) (hst : Sts P l a news l') (hd : Nat.blt d n = true)
    (hk : Φ (eset e d (.int .i64 m)) l') :
    Stp P n ⟨some d, .call { callee := .builtin .copy, args := [x, y].toArray, argTypes := [t, xt].toArray }, ty, pos, after, g⟩ e l Φ := by
  unfold Stp
  intro F w a' ds hl he K Q0 hK
  unfold Src at hs
  unfold Sts at hst
  obtain ⟨h1, h2⟩ := hs F w hl
  obtain ⟨w', hr, hh, hxt⟩ := hst F w hl
  unfold OpW
  have hmin : Nat.min m dLen = m := Nat.min_eq_left hm
  have hrun : (Builtin.copy_ #[t, xt] ty #[.slice (some a) dLen dCap, u]).run P w = .ok (goInt m) w' := by
    simp [Builtin.copy_, run_underlying ht.pf, h1, hmin, hz.run, h2, hr]
  have e1 : (execOp a'.eval ⟨some d, .call { callee := .builtin .copy, args := [x, y].toArray, argTypes := [t, xt].toArray }, ty, pos, after, g⟩).run P w = .ok (.value (goInt m)) w' := by
    simp [execOp, resolve, invoke, builtin, he.eval hx, he.eval hy, hrun]
  rw [e1]
  exact hK _ _ _ _ (he.put _ hd) hh hxt hk
end Go.Proofs.YtccgdnocldmjeaaDoor
