/- SHA-256 as a plain function; pieces of frozen bytes. -/
import Derived.Test.YtccgdnocldmjeaaDoorDig5
namespace Go.Proofs.YtccgdnocldmjeaaDoor
open Go
set_option maxHeartbeats 4000000
set_option linter.unusedSimpArgs false
set_option linter.unusedVariables false
set_option maxRecDepth 20000

/-- A piece of frozen bytes. -/
theorem RdBytes.drop_ {g : FH} {b o n cap l : Nat} {bs : List UInt8} (h : RdBytes g (.slice (some ⟨b, o, none⟩) n cap) bs) (hl : l ≤ n) (hc : n ≤ cap) : RdBytes g (.slice (some (slA b o l cap 1)) (n - l) (cap - l)) (bs.drop l) := by
  obtain ⟨h1, a, c, h2, h3⟩ := h
  simp only [Value.slice.injEq] at h2
  obtain ⟨h21, h22, h23⟩ := h2
  subst h21 h22 h23
  refine ⟨by simp [bytesC], some (slA b o l cap 1), cap - l, by simp, ?_⟩
  by_cases h0 : (bs.drop l).length = 0
  · exact .inl h0
  right
  rcases h3 with h3 | ⟨b', o', h4, arr, t, fr, h5, h6⟩
  · exfalso
    simp at h0
    omega
  simp only [Option.some.injEq, Addr.mk.injEq, and_true] at h4
  obtain ⟨rfl, rfl⟩ := h4
  have hne : cap ≠ l := by simp at h0; omega
  refine ⟨b, o + l * 1, by rw [slA_ne hne], arr, t, fr, h5, fun j v hj => ?_⟩
  have h7 : (bytesC bs)[l + j]? = some v := by
    rw [bytesC, List.map_drop, List.getElem?_drop] at hj
    exact hj
  have := h6 (l + j) v h7
  rwa [show o + l * 1 + j = o + (l + j) by omega]
/-- Blocks of bytes taken, one after the other. -/
def dBlocks (K : List Int) (s : V8) (bs : List UInt8) : Nat → V8
  | 0 => s
  | j + 1 => dBlock K (dBlocks K s bs j) (bs.drop (64 * j))
theorem dBlocks_zero (K : List Int) (s : V8) (bs : List UInt8) : dBlocks K s bs 0 = s := rfl
theorem dBlocks_succ (K : List Int) (s : V8) (bs : List UInt8) (j : Nat) : dBlocks K s bs (j + 1) = dBlock K (dBlocks K s bs j) (bs.drop (64 * j)) := rfl
def dS8 : V8 := ⟨0x6a09e667, 0xbb67ae85, 0x3c6ef372, 0xa54ff53a, 0x510e527f, 0x9b05688c, 0x1f83d9ab, 0x5be0cd19⟩
/-- What is left, laid out; and its end. -/
def dLast (rest : List UInt8) : List UInt8 := (rest ++ List.replicate (128 - rest.length) 0).set rest.length 128
def dEnd (rest : List UInt8) : Nat := if 56 ≤ rest.length then 128 else 64
def dBits (n : Nat) : Int := IntKind.u64.wrap (IntKind.u64.wrap (n : Int) * 2 ^ Min.min (3 : Int).toNat IntKind.u64.bits)
def dDigit (n i : Nat) : Int := IntKind.u8.wrap (dBits n / 2 ^ Min.min ((8 * i : Nat) : Int).toNat IntKind.u64.bits)
def dTail (n : Nat) (rest : List UInt8) : Nat → List UInt8
  | 0 => dLast rest
  | i + 1 => (dTail n rest i).set (dEnd rest - 1 - i) (UInt8.ofNat (dDigit n i).toNat)
def dByte (x : Int) (sh : Int) : Int := IntKind.u8.wrap (x / 2 ^ Min.min sh.toNat IntKind.u32.bits)
def dOut (s : List Int) : Nat → List Int
  | 0 => List.replicate 32 0
  | i + 1 => ((((dOut s i).set (4 * i) (dByte (s.getD i 0) 24)).set (4 * i + 1) (dByte (s.getD i 0) 16)).set (4 * i + 2) (dByte (s.getD i 0) 8)).set (4 * i + 3) (IntKind.u8.wrap (s.getD i 0))
/-- SHA-256, as the program computes it. -/
def dSum (bs : List UInt8) : List Int :=
  let q := bs.length / 64
  let rest := bs.drop (64 * q)
  let s := dBlocks dK dS8 bs q
  dOut (dBlocks dK s (dTail bs.length rest 8) (dEnd rest / 64)).l 8
theorem dTail_len (n : Nat) (rest : List UInt8) (h : rest.length ≤ 128) (i : Nat) : (dTail n rest i).length = 128 := by
  induction i with
  | zero => simp [dTail, dLast]; omega
  | succ i ih => simp [dTail, ih]
theorem dOut_len (s : List Int) (i : Nat) : (dOut s i).length = 32 := by
  induction i with
  | zero => simp [dOut]
  | succ i ih => simp [dOut, ih]
theorem u8w (x : Int) : IntKind.u8.wrap x = ((UInt8.ofNat (IntKind.u8.wrap x).toNat).toNat : Int) := by
  have h0 := wrap_u8_nonneg x
  have h1 : IntKind.u8.wrap x < 256 := by simp [IntKind.wrap, IntKind.bits, IntKind.signed]; omega
  rw [UInt8.toNat_ofNat']
  omega
end Go.Proofs.YtccgdnocldmjeaaDoor
