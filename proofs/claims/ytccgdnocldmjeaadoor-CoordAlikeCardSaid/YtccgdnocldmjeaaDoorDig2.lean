/- SHA-256: the rounds' numbers; what a block is turned into. -/
import Derived.Test.YtccgdnocldmjeaaDoorDig1
namespace Go.Proofs.YtccgdnocldmjeaaDoor
open Go
set_option maxHeartbeats 4000000
set_option linter.unusedSimpArgs false
set_option linter.unusedVariables false
set_option maxRecDepth 20000

def dK : List Int := [1116352408, 1899447441, 3049323471, 3921009573, 961987163, 1508970993, 2453635748, 2870763221, 3624381080, 310598401, 607225278, 1426881987, 1925078388, 2162078206, 2614888103, 3248222580, 3835390401, 4022224774, 264347078, 604807628, 770255983, 1249150122, 1555081692, 1996064986, 2554220882, 2821834349, 2952996808, 3210313671, 3336571891, 3584528711, 113926993, 338241895, 666307205, 773529912, 1294757372, 1396182291, 1695183700, 1986661051, 2177026350, 2456956037, 2730485921, 2820302411, 3259730800, 3345764771, 3516065817, 3600352804, 4094571909, 275423344, 430227734, 506948616, 659060556, 883997877, 958139571, 1322822218, 1537002063, 1747873779, 1955562222, 2024104815, 2227730452, 2361852424, 2428436474, 2756734187, 3204031479, 3329325298]
theorem numbers_ok : Trip Tryd.prog 45 [] [] (fun r l => r = .agg (dK.map v32).toArray ∧ l = []) := by
  refine Trip.of_body Tryd.func45 rfl Tryd.ntmps45 Tryd.results45 rfl ?_
  refine Wp.seq ?_
  refine Wp.region ?_
  (refine WpL.step (Stp.alloc rfl ?_); intro nb2)
  refine WpL.nil ?_
  refine Thn.n ?_
  refine Wp.seq ?_
  refine Wp.region ?_
  refine WpL.step (Stp.rd (Rdo.bldArr1 rfl rfl) rfl ?_)
  refine WpL.step (Stp.storeV rfl rfl (VC.ag _) (by first | rfl | assumption | (simp <;> done)) (by repeat (first | (apply Sts.all; (focus (first | rfl | assumption | (simp <;> done))); (focus (first | exact oneCells1 rfl | assumption | exact oneCells1 (by assumption) | ((repeat (first | assumption | exact oneCells_nil | exact oneCells_bytesC _ | (apply oneCells_cons; (focus (first | rfl | assumption))) | apply oneCells_append)); done) | (simp [oneCells, Value.oneCell'] <;> done)))) | (apply Sts.lp (by repeat (first | exact LPut.nil _ | apply LPut.here | apply LPut.next)); (focus (first | exact oneCells1 rfl | assumption | exact oneCells1 (by assumption) | ((repeat (first | assumption | exact oneCells_nil | exact oneCells_bytesC _ | (apply oneCells_cons; (focus (first | rfl | assumption))) | apply oneCells_append)); done) | (simp [oneCells, Value.oneCell'] <;> done)))) | (refine Sts.row1 (by first | assumption | omega | (simp <;> omega)) (by first | rfl | assumption)) | (refine Sts.rowP (by assumption) (by first | rfl | assumption | (simp <;> done)) (by rfl) (by (first | exact oneCells1 rfl | assumption | exact oneCells1 (by assumption) | ((repeat (first | assumption | exact oneCells_nil | exact oneCells_bytesC _ | (apply oneCells_cons; (focus (first | rfl | assumption))) | apply oneCells_append)); done) | (simp [oneCells, Value.oneCell'] <;> done)))) | apply Sts.next)) ?_)
  refine WpL.nil ?_
  refine Thn.n ?_
  refine Wp.ret ?_
  refine Ret.now (ResV.cell rfl (by repeat (first | exact Lds.one rfl | (apply Lds.all; (first | rfl | assumption | (simp <;> fail))) | exact Lds.ione0 | exact Lds.ione rfl | (apply Lds.iall; (first | rfl | assumption | (simp <;> fail))) | apply Lds.next)) ResV.nil) (Gh.tk (by repeat (first | exact Tk.nil | apply Tk.cons (by repeat (first | exact Pk.here | apply Pk.next))))) ⟨rfl, rfl⟩
/-- A word of a block. -/
def dWord (b0 b1 b2 b3 : Int) : Int :=
  bits .or .u32 (bits .or .u32 (bits .or .u32 (IntKind.u32.wrap (IntKind.u32.wrap b0 * 2 ^ Min.min (24 : Int).toNat IntKind.u32.bits)) (IntKind.u32.wrap (IntKind.u32.wrap b1 * 2 ^ Min.min (16 : Int).toNat IntKind.u32.bits))) (IntKind.u32.wrap (IntKind.u32.wrap b2 * 2 ^ Min.min (8 : Int).toNat IntKind.u32.bits))) (IntKind.u32.wrap b3)
def byteI (bs : List UInt8) (i : Nat) : Int := ((bs.getD i 0).toNat : Int)
def dSet1 (bs : List UInt8) (W : List Int) (i : Nat) : List Int := W.set i (dWord (byteI bs (4 * i)) (byteI bs (4 * i + 1)) (byteI bs (4 * i + 2)) (byteI bs (4 * i + 3)))
def dSet2 (W : List Int) (i : Nat) : List Int :=
  W.set i (IntKind.u32.wrap (IntKind.u32.wrap (IntKind.u32.wrap (W.getD (i - 16) 0 + dS0 (W.getD (i - 15) 0)) + W.getD (i - 7) 0) + dS1 (W.getD (i - 2) 0)))
/-- The words so far. -/
def dW1 (bs : List UInt8) : Nat → List Int
  | 0 => List.replicate 64 0
  | i + 1 => dSet1 bs (dW1 bs i) i
def dW2 (bs : List UInt8) : Nat → List Int
  | 0 => dW1 bs 16
  | i + 1 => dSet2 (dW2 bs i) (16 + i)
theorem dW1_len (bs : List UInt8) (i : Nat) : (dW1 bs i).length = 64 := by
  induction i with
  | zero => simp [dW1]
  | succ i ih => simp [dW1, dSet1, ih]
theorem dW2_len (bs : List UInt8) (i : Nat) : (dW2 bs i).length = 64 := by
  induction i with
  | zero => exact dW1_len bs 16
  | succ i ih => simp [dW2, dSet2, ih]
/-- Eight words. -/
structure V8 where
  a : Int
  b : Int
  c : Int
  d : Int
  e : Int
  f : Int
  g : Int
  h : Int
abbrev V8.l (v : V8) : List Int := [v.a, v.b, v.c, v.d, v.e, v.f, v.g, v.h]
abbrev V8.C (v : V8) : List Value := [v32 v.a, v32 v.b, v32 v.c, v32 v.d, v32 v.e, v32 v.f, v32 v.g, v32 v.h]
def dT (v : V8) (k w : Int) : Int := IntKind.u32.wrap (IntKind.u32.wrap (IntKind.u32.wrap (IntKind.u32.wrap (v.h + dB1 v.e) + dChoose v.e v.f v.g) + k) + w)
def dU (v : V8) : Int := IntKind.u32.wrap (dB0 v.a + dMost v.a v.b v.c)
def dRound (v : V8) (k w : Int) : V8 := ⟨IntKind.u32.wrap (dT v k w + dU v), v.a, v.b, v.c, IntKind.u32.wrap (v.d + dT v k w), v.e, v.f, v.g⟩
def dRounds (K W : List Int) (s : V8) : Nat → V8
  | 0 => s
  | i + 1 => dRound (dRounds K W s i) (K.getD i 0) (W.getD i 0)
def dAdd (s v : V8) : V8 := ⟨IntKind.u32.wrap (s.a + v.a), IntKind.u32.wrap (s.b + v.b), IntKind.u32.wrap (s.c + v.c), IntKind.u32.wrap (s.d + v.d), IntKind.u32.wrap (s.e + v.e), IntKind.u32.wrap (s.f + v.f), IntKind.u32.wrap (s.g + v.g), IntKind.u32.wrap (s.h + v.h)⟩
/-- What a block is turned into. -/
def dBlock (K : List Int) (s : V8) (bs : List UInt8) : V8 := dAdd s (dRounds K (dW2 bs 48) s 64)
theorem dW1_zero (bs : List UInt8) : dW1 bs 0 = List.replicate 64 0 := rfl
theorem dW1_succ (bs : List UInt8) (i : Nat) : dW1 bs (i + 1) = dSet1 bs (dW1 bs i) i := rfl
theorem dW2_zero (bs : List UInt8) : dW2 bs 0 = dW1 bs 16 := rfl
theorem dW2_succ (bs : List UInt8) (i : Nat) : dW2 bs (i + 1) = dSet2 (dW2 bs i) (16 + i) := rfl
theorem dRounds_zero (K W : List Int) (s : V8) : dRounds K W s 0 = s := rfl
theorem dRounds_succ (K W : List Int) (s : V8) (i : Nat) : dRounds K W s (i + 1) = dRound (dRounds K W s i) (K.getD i 0) (W.getD i 0) := rfl
attribute [irreducible] dW1 dW2 dRounds
end Go.Proofs.YtccgdnocldmjeaaDoor
