/- Numbers as bytes: what a Writer lays. -/
import Derived.Test.YtccgdnocldmjeaaDoorByt
import Derived.Laws.Shifts
namespace Go.Proofs.YtccgdnocldmjeaaDoor
open Go
set_option maxHeartbeats 4000000
set_option linter.unusedSimpArgs false
set_option linter.unusedVariables false
set_option maxRecDepth 20000

section
variable {P : Program} {e : Env} {C : List HP} {ty : TypeId}
theorem Rdo.shr {x y : Operand} {xt yt : TypeId} {k yk : IntKind} {p s : Int} (hx : evl e x = some (.int k p)) (hy : evl e y = some (.int yk s)) (hs : 0 ≤ s) : Rdo P e C (.binOp .shr xt x y yt) ty (.int k (p / 2 ^ Min.min s.toNat k.bits)) := by
  unfold Rdo
  intro G w a n dst pos after g hl he
  simp [execOp, he.eval hx, he.eval hy, eqGuard_shr, binOp, shift_shr_any _ _ _ _ hs]
theorem Rdo.shrE {x y : Operand} {xt yt : TypeId} {k yk : IntKind} {p s r : Int} (hx : evl e x = some (.int k p)) (hy : evl e y = some (.int yk s)) (hs : 0 ≤ s) (hr : p / 2 ^ Min.min s.toNat k.bits = r) : Rdo P e C (.binOp .shr xt x y yt) ty (.int k r) := hr ▸ Rdo.shr hx hy hs
theorem Rdo.shl {x y : Operand} {xt yt : TypeId} {k yk : IntKind} {p s : Int} (hx : evl e x = some (.int k p)) (hy : evl e y = some (.int yk s)) (hs : 0 ≤ s) : Rdo P e C (.binOp .shl xt x y yt) ty (.int k (k.wrap (p * 2 ^ Min.min s.toNat k.bits))) := by
  unfold Rdo
  intro G w a n dst pos after g hl he
  simp [execOp, he.eval hx, he.eval hy, eqGuard_shl, binOp, shift_shl_any _ _ _ _ hs]
theorem Rdo.shlE {x y : Operand} {xt yt : TypeId} {k yk : IntKind} {p s r : Int} (hx : evl e x = some (.int k p)) (hy : evl e y = some (.int yk s)) (hs : 0 ≤ s) (hr : k.wrap (p * 2 ^ Min.min s.toNat k.bits) = r) : Rdo P e C (.binOp .shl xt x y yt) ty (.int k r) := hr ▸ Rdo.shl hx hy hs
end

/-- A number's bytes. -/
def numB (n : Nat) : List UInt8 := if n < 128 then [UInt8.ofNat n] else UInt8.ofNat (n % 128 + 128) :: numB (n / 128)
theorem numB_lt {n : Nat} (h : n < 128) : numB n = [UInt8.ofNat n] := by rw [numB, if_pos h]
theorem numB_ge {n : Nat} (h : ¬ n < 128) : numB n = UInt8.ofNat (n % 128 + 128) :: numB (n / 128) := by rw [numB, if_neg h]
theorem numB_len (k n : Nat) (h : n < 128 ^ (k + 1)) : (numB n).length ≤ k + 1 := by
  induction k generalizing n with
  | zero => rw [numB_lt (by simpa using h)]; simp
  | succ k ih =>
    by_cases h2 : n < 128
    · rw [numB_lt h2]; simp
    · rw [numB_ge h2]
      have := ih (n / 128) (by rw [Nat.div_lt_iff_lt_mul (by omega)]; rw [Nat.pow_succ] at h; omega)
      simp; omega
theorem numB_pos (n : Nat) : 1 ≤ (numB n).length := by
  by_cases h : n < 128
  · rw [numB_lt h]; simp
  · rw [numB_ge h]; simp
/-- The number that is laid for a number. -/
def clampN (n : Int) : Nat := if n < 0 then 0 else if 4611686018427387904 < n then 4611686018427387904 else n.toNat
def numsB (ns : List Int) : List UInt8 := (ns.map fun n => numB (clampN n)).flatten
theorem clampN_lt (n : Int) : clampN n < 128 ^ 9 := by unfold clampN; split <;> (try split) <;> omega
theorem numB_clamp_len (n : Int) : (numB (clampN n)).length ≤ 9 := numB_len 8 _ (clampN_lt n)
theorem numsB_len (ns : List Int) : (numsB ns).length ≤ 9 * ns.length := by
  induction ns with
  | nil => simp [numsB]
  | cons n ns ih =>
    have := numB_clamp_len n
    simp only [numsB, List.map_cons, List.flatten_cons, List.length_append, List.length_cons] at ih ⊢
    omega
theorem or128 (m : Nat) (h : m < 256) : bits .or .u8 (m : Int) 128 = ((m % 128 + 128 : Nat) : Int) := by
  have : ((List.range 256).all fun m => bits .or .u8 (m : Int) 128 == ((m % 128 + 128 : Nat) : Int)) = true := by kernel_rfl
  have h2 := List.all_eq_true.1 this m (List.mem_range.2 h)
  simpa using h2
theorem wrap8 (n : Nat) : IntKind.u8.wrap (n : Int) = ((n % 256 : Nat) : Int) := by
  simp [IntKind.wrap, IntKind.bits, IntKind.signed]
theorem lay_hi (n : Nat) : bits .or .u8 (IntKind.u8.wrap (n : Int)) 128 = ((UInt8.ofNat (n % 128 + 128)).toNat : Int) := by
  rw [wrap8, or128 _ (by omega)]
  have : (UInt8.ofNat (n % 128 + 128)).toNat = n % 128 + 128 := by
    rw [UInt8.toNat_ofNat']
    omega
  rw [this]
  omega
theorem lay_lo (n : Nat) (h : n < 128) : IntKind.u8.wrap (n : Int) = ((UInt8.ofNat n).toNat : Int) := by
  rw [wrap8]
  have : (UInt8.ofNat n).toNat = n := by
    rw [UInt8.toNat_ofNat']
    omega
  rw [this]
  omega
theorem shr7 (n : Nat) : (n : Int) / 2 ^ min (7 : Int).toNat IntKind.u64.bits = ((n / 128 : Nat) : Int) := by
  have : min (7 : Int).toNat IntKind.u64.bits = 7 := by rfl
  rw [this]
  omega

/-- A Writer that has laid bytes. -/
def wrA (w : Nat) (bs : List UInt8) : HP := exH fun x : Option Addr × Nat => starH [cel w 85 [.slice x.1 bs.length x.2], rowA 5 1 (.slice x.1 bs.length x.2) bs.length (bytesC bs)]
theorem wrA_open {w : Nat} {bs : List UInt8} {l : List HP} : GhE (wrA w bs :: l) (fun _ : Option Addr × Nat => True) (fun x => cel w 85 [.slice x.1 bs.length x.2] :: rowA 5 1 (.slice x.1 bs.length x.2) bs.length (bytesC bs) :: l) := by
  unfold wrA
  exact GhE.open_ Pk.here
theorem wrA_shut {w : Nat} {bs : List UInt8} {a : Option Addr} {c : Nat} {l : List HP} : Gh (cel w 85 [.slice a bs.length c] :: rowA 5 1 (.slice a bs.length c) bs.length (bytesC bs) :: l) (wrA w bs :: l) := by
  unfold wrA
  exact Gh.shut (f := fun x : Option Addr × Nat => [cel w 85 [.slice x.1 bs.length x.2], rowA 5 1 (.slice x.1 bs.length x.2) bs.length (bytesC bs)]) (a, c) (Tk.cons Pk.here (Tk.cons Pk.here (Tk.mk fun F w h => h)))
theorem clamp_wrap (x : Int) : IntKind.u64.wrap (if (if 4611686018427387904 < x then 4611686018427387904 else x) > 0 then if 4611686018427387904 < x then 4611686018427387904 else x else 0) = (clampN x : Int) := by
  have hw : ∀ y : Int, 0 ≤ y → y < 18446744073709551616 → IntKind.u64.wrap y = y := by
    intro y h1 h2
    simp [IntKind.wrap, IntKind.bits, IntKind.signed]
    omega
  unfold clampN
  by_cases h1 : x < 0
  · rw [if_neg (show ¬ 4611686018427387904 < x by omega), if_neg (show ¬ x > 0 by omega), if_pos h1, hw _ (by omega) (by omega)]; rfl
  · rw [if_neg h1]
    by_cases h2 : 4611686018427387904 < x
    · rw [if_pos h2, if_pos h2, if_pos (by omega), hw _ (by omega) (by omega)]; rfl
    · rw [if_neg h2, if_neg h2]
      by_cases h3 : x > 0
      · rw [if_pos h3, hw _ (by omega) (by omega)]; omega
      · rw [if_neg h3, hw _ (by omega) (by omega)]; omega
abbrev octL (w nb : Nat) (a : Option Addr) (c : Nat) (bs : List UInt8) (ns : List Int) : List HP := [cel w 85 [.slice a bs.length c], rowA 5 1 (.slice a bs.length c) bs.length (bytesC bs), cel nb 3 (ns.map vi)]
abbrev octE (w nb i : Nat) (ns : List Int) : Env := [(0, vp w 0), (9, .slice (some ⟨nb, 0, none⟩) ns.length ns.length), (10, vi ns.length), (11, vi i)]
theorem bytesC_snoc (bs : List UInt8) (b : UInt8) : bytesC (bs ++ [b]) = bytesC bs ++ [.int .u8 b.toNat] := by simp [bytesC, u8c]
theorem nums_ok (w nb : Nat) (bs : List UInt8) (ns : List Int) (hl : bs.length + 9 * ns.length ≤ 1099511627776) :
    Trip Tryd.prog 33 [vp w 0, .slice (some ⟨nb, 0, none⟩) ns.length ns.length] [wrA w bs, cel nb 3 (ns.map vi)]
      (fun r l => r = .tuple #[] ∧ l = [wrA w (bs ++ numsB ns)]) := by
  refine Trip.ghE wrA_open ?_
  rintro ⟨a0, c0⟩ _
  refine Trip.of_body Tryd.func33 rfl Tryd.ntmps33 Tryd.results33 rfl ?_
  refine Wp.seq ?_
  refine Wp.seq ?_
  refine Wp.region ?_
  refine WpL.step (Stp.rd (Rdo.move rfl) rfl ?_)
  refine WpL.step (Stp.rd (Rdo.eqnil rfl rfl) rfl ?_)
  refine WpL.nil ?_
  refine Thn.n ?_
  refine Wp.condF rfl ?_
  refine Wp.skip ?_
  refine Thn.n ?_
  refine Wp.seq ?_
  refine Wp.region ?_
  refine WpL.step (Stp.rd (Rdo.move rfl) rfl ?_)
  refine WpL.step (Stp.rd (Rdo.lenSlice rfl) rfl ?_)
  refine WpL.step (Stp.rd (Rdo.move rfl) rfl ?_)
  refine WpL.nil ?_
  refine Thn.n ?_
  refine Wp.block ?_
  refine Wp.loopE (fun k e h => ∃ (i : Nat) (a : Option Addr) (c : Nat), i + k = ns.length ∧ e = octE w nb i ns ∧ h = octL w nb a c (bs ++ numsB (ns.take i)) ns) ns.length
    (e0 := octE w nb 0 ns) (l0 := octL w nb a0 c0 (bs ++ numsB (ns.take 0)) ns) (by repeat (first | exact trivial | refine ⟨rfl, ?_⟩)) (by repeat (first | exact trivial | refine ⟨rfl, ?_⟩)) ?_ ⟨0, a0, c0, by omega, rfl, rfl⟩ ?_
  · simp only [List.take_zero, numsB, List.map_nil, List.flatten_nil, List.append_nil]
    exact Gh.rfl_
  rintro k e h ⟨i, a, c, hik, rfl, rfl⟩
  by_cases hi : i < ns.length
  · have h1 : ns[i]? = some ns[i] := List.getElem?_eq_getElem hi
    have h2 : (ns.map vi)[0 + i * 1]? = some (vi ns[i]) := by rw [show 0 + i * 1 = i by omega, List.getElem?_map, h1]; rfl
    refine Wp.seq ?_
    refine Wp.region ?_
    refine WpL.step (Stp.rd (Rdo.lti rfl rfl) rfl ?_)
    refine WpL.nil ?_
    refine Thn.n ?_
    refine Wp.seq ?_
    refine Wp.condK rfl (by first | rfl | assumption | (simp only [decide_eq_true_eq, decide_eq_false_iff_not, Bool.not_eq_true', Bool.not_eq_false', List.length_cons, List.length_nil]; first | assumption | omega) | (simp <;> done) | (simp <;> omega)) ?_
    refine Wp.skip ?_
    refine Thn.n ?_
    refine Wp.seq ?_
    refine Wp.block ?_
    refine Wp.seq ?_
    refine Wp.region ?_
    refine WpL.step (Stp.rd (Rdo.indexSlice rfl rfl (by omega)) rfl ?_)
    refine WpL.step (Stp.rd (Rdo.load rfl (Lds.next (Lds.next (Lds.one (by assumption))))) rfl ?_)
    refine WpL.step (Stp.rd (Rdo.assign rfl) rfl ?_)
    refine WpL.nil ?_
    refine Thn.n ?_
    refine Wp.seq ?_
    refine Wp.region ?_
    refine WpL.step (Stp.rd (Rdo.move rfl) rfl ?_)
    refine WpL.step (Stp.rd (Rdo.min rfl rfl) rfl ?_)
    refine WpL.step (Stp.rd (Rdo.max rfl rfl) rfl ?_)
    refine WpL.step (Stp.rd (Rdo.convInt rfl) rfl ?_)
    refine WpL.step (Stp.rd (Rdo.assign rfl) rfl ?_)
    refine WpL.nil ?_
    refine Thn.n ?_
    refine Wp.seq ?_
    refine Wp.block ?_
    generalize hx : ns[i] = x at *
    have hB : (bs ++ numsB (ns.take i)).length ≤ bs.length + 9 * i := by
      have := numsB_len (ns.take i)
      rw [List.length_take, Nat.min_eq_left (by omega)] at this
      simp; omega
    have hnext : bs ++ numsB (ns.take (i + 1)) = (bs ++ numsB (ns.take i)) ++ numB (clampN x) := by
      simp [numsB, List.take_add_one, h1]
    generalize hBB : bs ++ numsB (ns.take i) = B at *
    have hc9 := numB_clamp_len x
    have hcl := clampN_lt x
    refine Wp.loopE (fun k e h => ∃ (pre : List UInt8) (a : Option Addr) (c : Nat), pre ++ numB k = numB (clampN x) ∧ k ≤ clampN x ∧ e = [(0, vp w 0), (6, .int .u64 k), (9, .slice (some ⟨nb, 0, none⟩) ns.length ns.length), (10, vi ns.length), (11, vi i)] ∧ h = octL w nb a c (B ++ pre) ns) (clampN x)
      (e0 := [(0, vp w 0), (6, .int .u64 (clampN x)), (9, .slice (some ⟨nb, 0, none⟩) ns.length ns.length), (10, vi ns.length), (11, vi i)]) (l0 := octL w nb a c (B ++ []) ns) (by rw [clamp_wrap]; exact (by repeat (first | exact trivial | refine ⟨rfl, ?_⟩))) (by repeat (first | exact trivial | refine ⟨rfl, ?_⟩)) ?_ ⟨[], a, c, rfl, Nat.le_refl _, rfl, rfl⟩ ?_
    · rw [List.append_nil]; exact Gh.rfl_
    rintro m e h ⟨pre, a, c, hpre, hle, rfl, rfl⟩
    have hnp := numB_pos m
    have hp9 : pre.length + (numB m).length ≤ 9 := by rw [← List.length_append, hpre]; exact hc9
    have hBl : (B ++ pre).length ≤ 1099511627776 - 1 := by rw [List.length_append]; omega
    by_cases hm : 128 ≤ m
    · have hsh := shr7 m
      have hm' : (128 : Int) ≤ m := by omega
      have hlay := lay_hi m
      refine Wp.seq ?_
      refine Wp.seq ?_
      refine Wp.region ?_
      refine WpL.step (Stp.rd (Rdo.move rfl) rfl ?_)
      refine WpL.step (Stp.rd (Rdo.gei rfl rfl) rfl ?_)
      refine WpL.nil ?_
      refine Thn.n ?_
      refine Wp.condK rfl (by first | rfl | assumption | (simp only [decide_eq_true_eq, decide_eq_false_iff_not, Bool.not_eq_true', Bool.not_eq_false', List.length_cons, List.length_nil]; first | assumption | omega) | (simp <;> done) | (simp <;> omega)) ?_
      refine Wp.skip ?_
      refine Thn.n ?_
      refine Wp.seq ?_
      refine Wp.block ?_
      refine Wp.region ?_
      refine WpL.step (Stp.rd (Rdo.move rfl) rfl ?_)
      refine WpL.step (Stp.rd (Rdo.move rfl) rfl ?_)
      refine WpL.step (Stp.rd (Rdo.nilCheck rfl) rfl ?_)
      refine WpL.step (Stp.rd (Rdo.fieldAddr0 rfl) rfl ?_)
      refine WpL.step (Stp.rd (Rdo.load rfl (Lds.one rfl)) rfl ?_)
      refine WpL.step (Stp.rd (Rdo.move rfl) rfl ?_)
      refine WpL.step (Stp.rd (Rdo.convInt rfl) rfl ?_)
      refine WpL.step (Stp.rd (Rdo.or rfl rfl) rfl ?_)
      (refine WpL.step (Stp.sliceV rfl rfl (VCs.cons (VC.i _ _) (by first | rfl | assumption | (simp <;> done)) VCs.nil) (by simp only [List.cons_append, List.nil_append, List.append_nil]; exact rfl) rfl rfl ?_); intro nb21)
      (refine WpL.step (Stp.appendP rfl rfl (Pk.next (Pk.next Pk.here)) (Src.cel (by first | rfl | (simp <;> done) | (simp <;> omega))) (by first | rfl | (simp <;> done) | (simp <;> omega)) (by first | assumption | exact oneCells1 rfl | exact oneCells1 (by assumption) | exact oneCells_bytesC _ | exact oneCells_votesC _ | (simp [oneCells, Value.oneCell'] <;> done)) (by first | omega | (simp <;> omega)) (by first | omega | (simp <;> omega)) rfl (by first | rfl | (simp <;> done)) ?_); intro na22 nc22)
      refine WpL.step (Stp.rd (Rdo.nilCheck rfl) rfl ?_)
      refine WpL.step (Stp.rd (Rdo.fieldAddr0 rfl) rfl ?_)
      refine WpL.step (Stp.storeV rfl rfl (VC.sl _ _ _) rfl (Sts.next (Sts.next (Sts.lp (by repeat (first | exact LPut.nil _ | apply LPut.here | apply LPut.next)) (oneCells1 rfl)))) ?_)
      refine WpL.nil ?_
      refine Blk.n ?_
      refine Thn.n ?_
      refine Wp.region ?_
      refine WpL.step (Stp.rd (Rdo.move rfl) rfl ?_)
      refine WpL.step (Stp.rd (Rdo.shrE rfl rfl (by omega) (by assumption)) rfl ?_)
      refine WpL.step (Stp.rd (Rdo.assign rfl) rfl ?_)
      refine WpL.nil ?_
      refine Thn.n ?_
      rw [hlay, ← bytesC_snoc]
      have e1 : (B ++ pre).length + 1 = (B ++ (pre ++ [UInt8.ofNat (m % 128 + 128)])).length := by simp [Nat.add_assoc]
      rw [e1, List.append_assoc]
      exact ⟨m / 128, _, _, by omega, ⟨pre ++ [UInt8.ofNat (m % 128 + 128)], na22, nc22, by rw [← hpre, numB_ge (n := m) (by omega)]; simp, by omega, rfl, rfl⟩, (by repeat (first | exact trivial | refine ⟨rfl, ?_⟩)), Gh.tk (by repeat (first | exact Tk.nil | apply Tk.cons (by repeat (first | exact Pk.here | apply Pk.next))))⟩
    · have hm' : ¬ (128 : Int) ≤ m := by omega
      have hlay := lay_lo m (by omega)
      refine Wp.seq ?_
      refine Wp.seq ?_
      refine Wp.region ?_
      refine WpL.step (Stp.rd (Rdo.move rfl) rfl ?_)
      refine WpL.step (Stp.rd (Rdo.gei rfl rfl) rfl ?_)
      refine WpL.nil ?_
      refine Thn.n ?_
      refine Wp.condL rfl (by first | rfl | assumption | (simp only [decide_eq_true_eq, decide_eq_false_iff_not, Bool.not_eq_true', Bool.not_eq_false', List.length_cons, List.length_nil]; first | assumption | omega) | (simp <;> done) | (simp <;> omega)) ?_
      refine Wp.exit ?_
      refine Thn.x ?_
      refine Thn.x ?_
      refine Blk.here ?_
      refine Thn.n ?_
      refine Wp.region ?_
      refine WpL.step (Stp.rd (Rdo.move rfl) rfl ?_)
      refine WpL.step (Stp.rd (Rdo.move rfl) rfl ?_)
      refine WpL.step (Stp.rd (Rdo.nilCheck rfl) rfl ?_)
      refine WpL.step (Stp.rd (Rdo.fieldAddr0 rfl) rfl ?_)
      refine WpL.step (Stp.rd (Rdo.load rfl (Lds.one rfl)) rfl ?_)
      refine WpL.step (Stp.rd (Rdo.move rfl) rfl ?_)
      refine WpL.step (Stp.rd (Rdo.convInt rfl) rfl ?_)
      (refine WpL.step (Stp.sliceV rfl rfl (VCs.cons (VC.i _ _) (by first | rfl | assumption | (simp <;> done)) VCs.nil) (by simp only [List.cons_append, List.nil_append, List.append_nil]; exact rfl) rfl rfl ?_); intro nb21)
      (refine WpL.step (Stp.appendP rfl rfl (Pk.next (Pk.next Pk.here)) (Src.cel (by first | rfl | (simp <;> done) | (simp <;> omega))) (by first | rfl | (simp <;> done) | (simp <;> omega)) (by first | assumption | exact oneCells1 rfl | exact oneCells1 (by assumption) | exact oneCells_bytesC _ | exact oneCells_votesC _ | (simp [oneCells, Value.oneCell'] <;> done)) (by first | omega | (simp <;> omega)) (by first | omega | (simp <;> omega)) rfl (by first | rfl | (simp <;> done)) ?_); intro na22 nc22)
      refine WpL.step (Stp.rd (Rdo.nilCheck rfl) rfl ?_)
      refine WpL.step (Stp.rd (Rdo.fieldAddr0 rfl) rfl ?_)
      refine WpL.step (Stp.storeV rfl rfl (VC.sl _ _ _) rfl (Sts.next (Sts.next (Sts.lp (by repeat (first | exact LPut.nil _ | apply LPut.here | apply LPut.next)) (oneCells1 rfl)))) ?_)
      refine WpL.nil ?_
      refine Blk.n ?_
      refine Thn.n ?_
      refine Wp.region ?_
      refine WpL.step (Stp.rd (Rdo.succ rfl rfl (by omega)) rfl ?_)
      refine WpL.step (Stp.rd (Rdo.move rfl) rfl ?_)
      refine WpL.nil ?_
      refine Thn.n ?_
      rw [hlay, ← bytesC_snoc]
      have e1 : (B ++ pre).length + 1 = (B ++ (pre ++ [UInt8.ofNat m])).length := by simp [Nat.add_assoc]
      have e2 : pre ++ [UInt8.ofNat m] = numB (clampN x) := by rw [← hpre, numB_lt (n := m) (by omega)]
      rw [e1, List.append_assoc, e2, ← hnext]
      exact ⟨k - 1, _, _, by omega, ⟨i + 1, na22, nc22, by omega, rfl, rfl⟩, (by repeat (first | exact trivial | refine ⟨rfl, ?_⟩)), Gh.tk (by repeat (first | exact Tk.nil | apply Tk.cons (by repeat (first | exact Pk.here | apply Pk.next))))⟩
  ·
    have hfull : ns.take i = ns := List.take_of_length_le (by omega)
    rw [hfull]
    have hsh := @wrA_shut w (bs ++ numsB ns) a c
    generalize bs ++ numsB ns = B at *
    refine Wp.seq ?_
    refine Wp.region ?_
    refine WpL.step (Stp.rd (Rdo.lti rfl rfl) rfl ?_)
    refine WpL.nil ?_
    refine Thn.n ?_
    refine Wp.seq ?_
    refine Wp.condL rfl (by first | rfl | assumption | (simp only [decide_eq_true_eq, decide_eq_false_iff_not, Bool.not_eq_true', Bool.not_eq_false', List.length_cons, List.length_nil]; first | assumption | omega) | (simp <;> done) | (simp <;> omega)) ?_
    refine Wp.exit ?_
    refine Thn.x ?_
    refine Thn.x ?_
    refine Blk.here ?_
    exact Ret.end_ ResV.nil (Gh.trans (Gh.drop (Pk.next (Pk.next Pk.here))) hsh) ⟨rfl, rfl⟩
end Go.Proofs.YtccgdnocldmjeaaDoor
