/- SHA-256: its small functions, as the program computes them. -/
import Derived.Test.YtccgdnocldmjeaaDoorOct
import Derived.Laws.Unary
namespace Go.Proofs.YtccgdnocldmjeaaDoor
open Go
set_option maxHeartbeats 4000000
set_option linter.unusedSimpArgs false
set_option linter.unusedVariables false
set_option maxRecDepth 20000

section
variable {P : Program} {e : Env} {C : List HP} {ty : TypeId}
theorem Rdo.mulE {x y : Operand} {xt yt : TypeId} {p q r : Int} (hx : evl e x = some (.int .i64 p)) (hy : evl e y = some (.int .i64 q)) (h : p * q = r) (hr : -9223372036854775808 ≤ r ∧ r ≤ 9223372036854775807) : Rdo P e C (.binOp .mul xt x y yt) ty (.int .i64 r) := by
  subst h; exact Rdo.mul64 hx hy hr
theorem Rdo.compl {x : Operand} {xt : TypeId} {k : IntKind} {p : Int} (hx : evl e x = some (.int k p)) : Rdo P e C (.unOp .xor xt x) ty (.int k (bits .xor k (if k.signed then -1 else k.max) p)) := by
  unfold Rdo
  intro G w a n dst pos after g hl he
  simp [execOp, he.eval hx, unary_xor, intBits_xor]
end

/-- The cells of an array that is written out, one cell an element. -/
def bldA1 (e : Env) (n : Nat) : List (Nat × Operand) → List Value → Option (List Value)
  | [], cs => some cs
  | (f, x) :: r, cs => match evl e x with
    | some v => if v.oneCell' = true ∧ f < n then bldA1 e n r (cs.set f v) else none
    | none => none
theorem bldA1_fill {e : Env} {n m : Nat} {a : Act} (he : EnvAt m e a) : ∀ {ps : List (Nat × Operand)} {cs cs' : List Value}, cs.length = n → bldA1 e n ps cs = some cs' →
    Instr.fill (fun i => some (i * 1, 1)) cs.toArray (ps.map fun p => (p.1, a.eval p.2)) = some cs'.toArray
  | [], cs, cs', _, h => by
    simp only [bldA1, Option.some.injEq] at h
    subst h
    simp [Instr.fill]
  | (f, x) :: r, cs, cs', hl, h => by
    unfold bldA1 at h
    cases hx : evl e x with
    | none => rw [hx] at h; cases h
    | some v =>
      rw [hx] at h
      simp only at h
      by_cases hc : v.oneCell' = true ∧ f < n
      · rw [if_pos hc] at h
        have ih := bldA1_fill he (by simpa using hl) h
        have hcells : v.cells = #[v] := (VC.one hc.1).cells
        simp only [List.map_cons, Instr.fill, he.eval hx, hcells]
        rw [if_neg (by simp; omega)]
        simpa using ih
      · rw [if_neg hc] at h; cases h
theorem Rdo.bldArr1 {P : Program} {e : Env} {C : List HP} {t ty n e' : Nat} {ps : List (Nat × Operand)} {zs cs : List Value} [hz : ZV P t zs] [ha : AR P t n e'] [hs : SZ P e' 1] (hl : zs.length = n) (hb : bldA1 e n ps zs = some cs) : Rdo P e C (.build t ps.toArray) ty (.agg cs.toArray) := by
  unfold Rdo
  intro G w a m dst pos after g hl' he
  obtain ⟨x, hzr, hzc⟩ := hz.run (w := w)
  have h1 := bldA1_fill he hl hb
  simp only [Nat.mul_one] at h1
  simp [execOp, Instr.build, hzr, run_underlying ha.pf, hs.run, hzc, h1]

abbrev v32 (x : Int) : Value := .int .u32 x
def dTurn (x n : Int) : Int := bits .or .u32 (x / 2 ^ Min.min n.toNat IntKind.u32.bits) (IntKind.u32.wrap (x * 2 ^ Min.min (IntKind.u64.wrap (32 - n)).toNat IntKind.u32.bits))
def dShr (x n : Int) : Int := x / 2 ^ Min.min n.toNat IntKind.u32.bits
def dS0 (x : Int) : Int := bits .xor .u32 (bits .xor .u32 (dTurn x 7) (dTurn x 18)) (dShr x 3)
def dS1 (x : Int) : Int := bits .xor .u32 (bits .xor .u32 (dTurn x 17) (dTurn x 19)) (dShr x 10)
def dB0 (x : Int) : Int := bits .xor .u32 (bits .xor .u32 (dTurn x 2) (dTurn x 13)) (dTurn x 22)
def dB1 (x : Int) : Int := bits .xor .u32 (bits .xor .u32 (dTurn x 6) (dTurn x 11)) (dTurn x 25)
def dNot (x : Int) : Int := bits .xor .u32 (if IntKind.u32.signed then -1 else IntKind.u32.max) x
def dChoose (x y z : Int) : Int := bits .xor .u32 (bits .and .u32 x y) (bits .and .u32 (dNot x) z)
def dMost (x y z : Int) : Int := bits .xor .u32 (bits .xor .u32 (bits .and .u32 x y) (bits .and .u32 x z)) (bits .and .u32 y z)
theorem turn_ok (x n : Int) (hn : 0 ≤ n ∧ n ≤ 32) : Trip Tryd.prog 88 [v32 x, .int .u64 n] [] (fun r l => r = v32 (dTurn x n) ∧ l = []) := by
  have hw : 0 ≤ IntKind.u64.wrap (32 - n) := wrap_u64_nonneg _
  unfold dTurn
  refine Trip.of_body Tryd.func88 rfl Tryd.ntmps88 Tryd.results88 rfl ?_
  refine Wp.seq ?_
  refine Wp.region ?_
  refine WpL.step (Stp.rd (Rdo.assign rfl) rfl ?_)
  refine WpL.nil ?_
  refine Thn.n ?_
  refine Wp.seq ?_
  refine Wp.region ?_
  refine WpL.step (Stp.rd (Rdo.move rfl) rfl ?_)
  refine WpL.step (Stp.rd (Rdo.move rfl) rfl ?_)
  refine WpL.step (Stp.rd (Rdo.shr rfl rfl (by omega)) rfl ?_)
  refine WpL.step (Stp.rd (Rdo.move rfl) rfl ?_)
  refine WpL.step (Stp.rd (Rdo.move rfl) rfl ?_)
  refine WpL.step (Stp.rd (Rdo.sub rfl rfl) rfl ?_)
  refine WpL.step (Stp.rd (Rdo.shl rfl rfl (by omega)) rfl ?_)
  refine WpL.step (Stp.rd (Rdo.or rfl rfl) rfl ?_)
  refine WpL.step (Stp.rd (Rdo.assign rfl) rfl ?_)
  refine WpL.nil ?_
  refine Thn.n ?_
  refine Wp.ret ?_
  refine Ret.now (ResV.tmp rfl ResV.nil) (Gh.tk (by repeat (first | exact Tk.nil | apply Tk.cons (by repeat (first | exact Pk.here | apply Pk.next))))) ⟨rfl, rfl⟩
end Go.Proofs.YtccgdnocldmjeaaDoor
