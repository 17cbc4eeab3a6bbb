/- SHA-256, walked. -/
import Derived.Test.YtccgdnocldmjeaaDoorDig6
import Derived.Test.YtccgdnocldmjeaaDoorBrw
namespace Go.Proofs.YtccgdnocldmjeaaDoor
open Go
set_option maxHeartbeats 4000000
set_option linter.unusedSimpArgs false
set_option linter.unusedVariables false
set_option maxRecDepth 20000

theorem dK_len : dK.length = 64 := rfl
abbrev v8 (x : Int) : Value := .int .u8 x
theorem put8v (L : List Int) (i : Nat) (x : Int) (h : i < L.length) : lput (L.map v8) (0 + i * 1) [v8 x] = (L.set i x).map v8 := by
  rw [show 0 + i * 1 = i by omega, lput_step _ _ _ _ (by simpa using h), lput_nil, List.map_set]
theorem dOut_zero (s : List Int) : dOut s 0 = List.replicate 32 0 := rfl
theorem dOut_succ (s : List Int) (i : Nat) : dOut s (i + 1) = ((((dOut s i).set (4 * i) (dByte (s.getD i 0) 24)).set (4 * i + 1) (dByte (s.getD i 0) 16)).set (4 * i + 2) (dByte (s.getD i 0) 8)).set (4 * i + 3) (IntKind.u8.wrap (s.getD i 0)) := rfl
theorem lput_bytes (R : List UInt8) (h : R.length ≤ 128) : lput (List.replicate 128 (.int .u8 0)) 0 (bytesC R) = bytesC (R ++ List.replicate (128 - R.length) 0) := by
  have h1 : (bytesC R).length = R.length := bytesC_length R
  rw [lput_eq _ _ _ (by rw [h1, List.length_replicate]; omega), h1]
  simp only [List.take_zero, List.nil_append, Nat.zero_add, List.drop_replicate, bytesC, List.map_append, List.map_replicate]
  rfl
theorem put8 (L : List UInt8) (i : Nat) (b : UInt8) (h : i < L.length) : lput (bytesC L) (0 + i * 1) [.int .u8 b.toNat] = bytesC (L.set i b) := by
  rw [show 0 + i * 1 = i by omega, lput_step _ _ _ _ (by rw [bytesC_length]; exact h), lput_nil]
  simp [bytesC, u8c, List.map_set]
theorem dTail_zero (n : Nat) (R : List UInt8) : dTail n R 0 = dLast R := rfl
theorem dTail_succ (n : Nat) (R : List UInt8) (i : Nat) : dTail n R (i + 1) = (dTail n R i).set (dEnd R - 1 - i) (UInt8.ofNat (dDigit n i).toNat) := rfl
theorem RdRow.sub7 {a r : Res} {sz n : Nat} {v : Value} {xs : List Value} (hle : ∀ b x, a b = some x → r b = some x) (h : RdRow (fun b => (a b).map (·.2)) sz v n xs) : RdRow (fun b => (r b).map (·.2)) sz v n xs :=
  RdRow.mono _ _ _ _ _ _ (fun b o hb => by
    cases hx : a b with
    | none => rw [hx] at hb; cases hb
    | some y => rw [hx] at hb; rw [hle b y hx]; exact hb) h
/-- A block of owned bytes is taken in. -/
theorem take_own (Kl : List Int) (hKl : Kl.length = 64) (s kb nl : Nat) (S : V8) (T : List UInt8) (hT : T.length = 128) (o : Nat) (ho : o ≤ 64) :
    Trip Tryd.prog 46 [vp s 0, .slice (some (slA nl 0 o 128 1)) (128 - o) (128 - o), vp kb 0] [cel nl 104 (bytesC T), cel s 99 S.C, cel kb 100 (Kl.map v32)]
      (fun r l => r = .tuple #[] ∧ l = [cel nl 104 (bytesC T), cel s 99 (dBlock Kl S (T.drop o)).C, cel kb 100 (Kl.map v32)]) := by
  have hd : (T.drop o).length = 128 - o := by simp [hT]
  have h0 := take_ok Kl hKl s kb S (.slice (some (slA nl 0 o 128 1)) (128 - o) (128 - o)) (T.drop o) (by omega) (by omega)
  have h1 : Trip Tryd.prog 46 [vp s 0, .slice (some (slA nl 0 o 128 1)) (128 - o) (128 - o), vp kb 0] (fz (fun g => RdBytes g (.slice (some (slA nl 0 o 128 1)) (128 - o) (128 - o)) (T.drop o)) :: [cel s 99 S.C, cel kb 100 (Kl.map v32)])
      (fun r l => r = .tuple #[] ∧ l = [cel s 99 (dBlock Kl S (T.drop o)).C, cel kb 100 (Kl.map v32)]) := by
    refine Trip.gh (Gh.tk (by repeat (first | exact Tk.nil | apply Tk.cons (by repeat (first | exact Pk.here | apply Pk.next))))) (Trip.via (rest := []) h0 Tk.rfl_ ?_)
    rintro r l ⟨rfl, rfl⟩
    exact ⟨_, ⟨rfl, rfl⟩, Gh.tk (by repeat (first | exact Tk.nil | apply Tk.cons (by repeat (first | exact Pk.here | apply Pk.next))))⟩
  have h2 := Trip.lend (own := [cel nl 104 (bytesC T)]) h1 (fun r hr => by
    obtain ⟨r1, r2, hj, h1, _⟩ := hr
    have h3 := row_iced (rowA_cel (n := 128) (sz := 1) (by rw [bytesC_length, hT]) r1 h1)
    have h4 := RdRow.sub7 (fun b y hb => hj.left hb) h3
    have h5 : RdBytes (fun b => (r b).map (·.2)) (.slice (some ⟨nl, 0, none⟩) 128 128) T := by rw [RdBytes, hT]; exact h4
    exact RdBytes.drop_ h5 (by omega) (by omega)) (by rintro v l ⟨rfl, rfl⟩; exact OwnL.cons Own1.cel (OwnL.cons Own1.cel OwnL.nil))
  refine Trip.mono h2 ?_
  rintro r l ⟨l', ⟨rfl, rfl⟩, rfl⟩
  exact ⟨rfl, rfl⟩
abbrev suM (Kl : List Int) (nl nh ns nk : Nat) (S : V8) (L : List UInt8) : List HP := [cel nl 104 (bytesC L), cel ns 99 S.C, cel nk 100 (Kl.map v32), cel nh 54 (List.replicate 32 (.int .u8 0))]
abbrev suE (a : Option Addr) (n c nh ns nk : Nat) (a' : Option Addr) (m c' : Nat) : Env := [(0, .slice a n c), (2, vp nh 0), (3, vp ns 0), (4, vp nk 0), (5, .slice a' m c')]
abbrev suL (Kl : List Int) (nh ns nk : Nat) (S : V8) (v : Value) (bs : List UInt8) : List HP := [cel ns 99 S.C, cel nk 100 (Kl.map v32), cel nh 54 (List.replicate 32 (.int .u8 0)), fz (fun g => RdBytes g v bs)]
theorem sum_ok (a : Option Addr) (c : Nat) (bs : List UInt8) (hl : bs.length ≤ 1000000000000) (hc : bs.length ≤ c) :
    Trip Tryd.prog 31 [.slice a bs.length c] [fz (fun g => RdBytes g (.slice a bs.length c) bs)]
      (fun r l => r = .agg ((dSum bs).map (Value.int .u8)).toArray ∧ l = []) := by
  obtain ⟨Z, hZ⟩ : ∃ Z, Z = dSum bs := ⟨_, rfl⟩
  rw [← hZ]
  unfold dSum at hZ
  simp only at hZ
  refine Trip.of_body Tryd.func31 rfl Tryd.ntmps31 Tryd.results31 rfl ?_
  refine Wp.seq ?_
  refine Wp.region ?_
  (refine WpL.step (Stp.alloc rfl ?_); intro nb2)
  refine WpL.nil ?_
  refine Thn.n ?_
  refine Wp.seq ?_
  refine Wp.region ?_
  refine WpL.step (Stp.rd (Rdo.bldArr1 rfl rfl) rfl ?_)
  (refine WpL.step (Stp.alloc rfl ?_); intro nb8)
  refine WpL.step (Stp.storeV rfl rfl (VC.ag _) (by first | rfl | assumption | (simp <;> done)) (by repeat (first | (apply Sts.all; (focus (first | rfl | assumption | (simp <;> done))); (focus (first | exact oneCells1 rfl | assumption | exact oneCells1 (by assumption) | ((repeat (first | assumption | exact oneCells_nil | exact oneCells_bytesC _ | (apply oneCells_cons; (focus (first | rfl | assumption))) | apply oneCells_append)); done) | (simp [oneCells, Value.oneCell'] <;> done)))) | (apply Sts.lp (by repeat (first | exact LPut.nil _ | apply LPut.here | apply LPut.next)); (focus (first | exact oneCells1 rfl | assumption | exact oneCells1 (by assumption) | ((repeat (first | assumption | exact oneCells_nil | exact oneCells_bytesC _ | (apply oneCells_cons; (focus (first | rfl | assumption))) | apply oneCells_append)); done) | (simp [oneCells, Value.oneCell'] <;> done)))) | (refine Sts.row1 (by first | assumption | omega | (simp <;> omega)) (by first | rfl | assumption)) | (refine Sts.rowP (by assumption) (by first | rfl | assumption | (simp <;> done)) (by rfl) (by (first | exact oneCells1 rfl | assumption | exact oneCells1 (by assumption) | ((repeat (first | assumption | exact oneCells_nil | exact oneCells_bytesC _ | (apply oneCells_cons; (focus (first | rfl | assumption))) | apply oneCells_append)); done) | (simp [oneCells, Value.oneCell'] <;> done)))) | apply Sts.next)) ?_)
  refine WpL.nil ?_
  refine Thn.n ?_
  refine Wp.seq ?_
  refine Wp.region ?_
  refine WpL.step (Stp.call (numbers_ok) (by kernel_rfl) rfl (by repeat (first | exact Tk.nil | apply Tk.cons (by repeat (first | exact Pk.here | apply Pk.next)))) rfl ?_)
  rintro _ _ ⟨rfl, rfl⟩
  refine WpL.lst (by simp only [List.cons_append, List.nil_append]; exact rfl) ?_
  (refine WpL.step (Stp.alloc rfl ?_); intro nb17)
  refine WpL.step (Stp.storeV rfl rfl (VC.ag _) (by first | rfl | assumption | (simp <;> done)) (by repeat (first | (apply Sts.all; (focus (first | rfl | assumption | (simp <;> done))); (focus (first | exact oneCells1 rfl | assumption | exact oneCells1 (by assumption) | ((repeat (first | assumption | exact oneCells_nil | exact oneCells_bytesC _ | (apply oneCells_cons; (focus (first | rfl | assumption))) | apply oneCells_append)); done) | (simp [oneCells, Value.oneCell'] <;> done)))) | (apply Sts.lp (by repeat (first | exact LPut.nil _ | apply LPut.here | apply LPut.next)); (focus (first | exact oneCells1 rfl | assumption | exact oneCells1 (by assumption) | ((repeat (first | assumption | exact oneCells_nil | exact oneCells_bytesC _ | (apply oneCells_cons; (focus (first | rfl | assumption))) | apply oneCells_append)); done) | (simp [oneCells, Value.oneCell'] <;> done)))) | (refine Sts.row1 (by first | assumption | omega | (simp <;> omega)) (by first | rfl | assumption)) | (refine Sts.rowP (by assumption) (by first | rfl | assumption | (simp <;> done)) (by rfl) (by (first | exact oneCells1 rfl | assumption | exact oneCells1 (by assumption) | ((repeat (first | assumption | exact oneCells_nil | exact oneCells_bytesC _ | (apply oneCells_cons; (focus (first | rfl | assumption))) | apply oneCells_append)); done) | (simp [oneCells, Value.oneCell'] <;> done)))) | apply Sts.next)) ?_)
  refine WpL.nil ?_
  refine Thn.n ?_
  refine Wp.seq ?_
  refine Wp.region ?_
  refine WpL.step (Stp.rd (Rdo.move rfl) rfl ?_)
  refine WpL.step (Stp.rd (Rdo.assign rfl) rfl ?_)
  refine WpL.nil ?_
  refine Thn.n ?_
  refine Wp.seq ?_
  refine Wp.block ?_
  have hKl := dK_len
  generalize dK = Kl at *
  refine Wp.loopE (fun k e h => ∃ (j : Nat) (a' : Option Addr) (c' : Nat), 64 * j + k = bs.length ∧ (bs.drop (64 * j)).length ≤ c' ∧ e = suE a bs.length c nb2 nb8 nb17 a' (bs.drop (64 * j)).length c' ∧ h = suL Kl nb2 nb8 nb17 (dBlocks Kl dS8 bs j) (.slice a' (bs.drop (64 * j)).length c') (bs.drop (64 * j))) bs.length
    (e0 := suE a bs.length c nb2 nb8 nb17 a bs.length c) (l0 := suL Kl nb2 nb8 nb17 dS8 (.slice a bs.length c) bs) (by repeat (first | exact trivial | refine ⟨rfl, ?_⟩)) (by repeat (first | exact trivial | refine ⟨rfl, ?_⟩)) (Gh.tk (by repeat (first | exact Tk.nil | apply Tk.cons (by repeat (first | exact Pk.here | apply Pk.next))))) ⟨0, a, c, by omega, by simpa using hc, by simp, by simp [dBlocks_zero]⟩ ?_
  rintro k e h ⟨j, a', c', hjk, hc', rfl, rfl⟩
  have hdl : (bs.drop (64 * j)).length = bs.length - 64 * j := by simp
  have hnx : (bs.drop (64 * j)).length - 64 = (bs.drop (64 * (j + 1))).length := by simp; omega
  have hdd : (bs.drop (64 * j)).drop 64 = bs.drop (64 * (j + 1)) := by rw [List.drop_drop]; congr 1
  have hsucc := dBlocks_succ Kl dS8 bs j
  by_cases h64 : 64 ≤ (bs.drop (64 * j)).length
  · have h64' : ((bs.drop (64 * j)).length : Int) ≥ 64 := by omega
    generalize hR : bs.drop (64 * j) = R at *
    refine Wp.get (Pk.next (Pk.next (Pk.next Pk.here))) (row_some (by omega)) ?_
    rintro ⟨pb, po, rfl⟩
    have s1 := take_ok Kl hKl nb8 nb17 (dBlocks Kl dS8 bs j) (.slice (some ⟨pb, po, none⟩) R.length c') R (by omega) (by omega)
    refine Wp.gh (Gh.fzAlso (Ψ := fun g => RdBytes g (.slice (some (slA pb po 64 c' 1)) (R.length - 64) (c' - 64)) (R.drop 64)) (Pk.next (Pk.next (Pk.next Pk.here))) (fun g h => RdBytes.drop_ h (by omega) (by omega))) ?_
    refine Wp.seq ?_
    refine Wp.seq ?_
    refine Wp.region ?_
    refine WpL.step (Stp.rd (Rdo.move rfl) rfl ?_)
    refine WpL.step (Stp.rd (Rdo.lenSlice rfl) rfl ?_)
    refine WpL.step (Stp.rd (Rdo.gei rfl rfl) rfl ?_)
    refine WpL.nil ?_
    refine Thn.n ?_
    refine Wp.condK rfl (by first | rfl | assumption | (simp only [decide_eq_true_eq, decide_eq_false_iff_not, Bool.not_eq_true', Bool.not_eq_false', List.length_cons, List.length_nil]; first | assumption | omega) | (simp <;> done) | (simp <;> omega)) ?_
    refine Wp.skip ?_
    refine Thn.n ?_
    refine Wp.seq ?_
    refine Wp.block ?_
    refine Wp.region ?_
    refine WpL.step (Stp.rd (Rdo.move rfl) rfl ?_)
    refine WpL.step (Stp.call (s1) (by kernel_rfl) rfl (by repeat (first | exact Tk.nil | apply Tk.cons (by repeat (first | exact Pk.here | apply Pk.next)))) rfl ?_)
    rintro _ _ ⟨rfl, rfl⟩
    refine WpL.lst (by simp only [List.cons_append, List.nil_append]; exact rfl) ?_
    refine WpL.nil ?_
    refine Blk.n ?_
    refine Thn.n ?_
    refine Wp.region ?_
    refine WpL.step (Stp.rd (Rdo.move rfl) rfl ?_)
    refine WpL.step (Stp.rd (Rdo.sl_l _ rfl rfl rfl (by omega)) rfl ?_)
    refine WpL.step (Stp.rd (Rdo.assign rfl) rfl ?_)
    refine WpL.nil ?_
    refine Thn.n ?_
    rw [hnx, hdd]
    exact ⟨k - 64, _, _, by omega, ⟨j + 1, some (slA pb po 64 c' 1), c' - 64, by omega, by omega, rfl, rfl⟩, (by repeat (first | exact trivial | refine ⟨rfl, ?_⟩)), by rw [hsucc]; exact Gh.tk (by repeat (first | exact Tk.nil | apply Tk.cons (by repeat (first | exact Pk.here | apply Pk.next))))⟩
  · have h64' : ¬ ((bs.drop (64 * j)).length : Int) ≥ 64 := by omega
    have hq : bs.length / 64 = j := by omega
    rw [hq] at hZ
    generalize dBlocks Kl dS8 bs j = S at *
    generalize hR : bs.drop (64 * j) = R at *
    refine Wp.seq ?_
    refine Wp.seq ?_
    refine Wp.region ?_
    refine WpL.step (Stp.rd (Rdo.move rfl) rfl ?_)
    refine WpL.step (Stp.rd (Rdo.lenSlice rfl) rfl ?_)
    refine WpL.step (Stp.rd (Rdo.gei rfl rfl) rfl ?_)
    refine WpL.nil ?_
    refine Thn.n ?_
    refine Wp.condL rfl (by first | rfl | assumption | (simp only [decide_eq_true_eq, decide_eq_false_iff_not, Bool.not_eq_true', Bool.not_eq_false', List.length_cons, List.length_nil]; first | assumption | omega) | (simp <;> done) | (simp <;> omega)) ?_
    refine Wp.exit ?_
    refine Thn.x ?_
    refine Thn.x ?_
    refine Blk.here ?_
    refine Thn.n ?_
    refine Wp.seq ?_
    refine Wp.region ?_
    (refine WpL.step (Stp.alloc rfl ?_); intro nb16)
    refine WpL.nil ?_
    refine Thn.n ?_
    refine Wp.seq ?_
    refine Wp.region ?_
    refine WpL.step (Stp.rd (Rdo.slArr rfl) rfl ?_)
    refine WpL.step (Stp.rd (Rdo.move rfl) rfl ?_)
    refine WpL.step (Stp.copyAll rfl rfl (Src.next (Src.next (Src.next (Src.next Src.frozen)))) (by omega) (Sts.here (oneCells_bytesC R) (by simp [bytesC]; omega)) rfl ?_)
    refine WpL.step (Stp.rd (Rdo.assign rfl) rfl ?_)
    refine WpL.nil ?_
    refine Thn.n ?_
    refine Wp.seq ?_
    refine Wp.region ?_
    refine WpL.step (Stp.rd (Rdo.move rfl) rfl ?_)
    refine WpL.step (Stp.rd (Rdo.indexArr rfl rfl (by omega)) rfl ?_)
    refine WpL.step (Stp.storeV rfl rfl (VC.i _ _) rfl (Sts.here (oneCells1 rfl) ?_) ?_)
    · rw [lput_bytes R (by omega)]
      simp [bytesC]
      omega
    rw [lput_bytes R (by omega), show Value.int .u8 128 = Value.int .u8 ((128 : UInt8).toNat : Int) from rfl, put8 _ _ _ (by simp; omega)]
    refine WpL.nil ?_
    refine Thn.n ?_
    refine Wp.seq ?_
    refine Wp.region ?_
    refine WpL.step (Stp.rd (Rdo.assign rfl) rfl ?_)
    refine WpL.nil ?_
    refine Thn.n ?_
    refine Wp.seq ?_
    refine Wp.seq ?_
    refine Wp.region ?_
    refine WpL.step (Stp.rd (Rdo.move rfl) rfl ?_)
    refine WpL.step (Stp.rd (Rdo.gei rfl rfl) rfl ?_)
    refine WpL.nil ?_
    refine Thn.n ?_
    refine Wp.mono (Q := fun x e' l' => x = .normal ∧ EnvSub [(0, .slice a bs.length c), (2, vp nb2 0), (3, vp nb8 0), (4, vp nb17 0), (6, vp nb16 0), (8, vi (dEnd R))] e' ∧ Gh l' (suM Kl nb16 nb2 nb8 nb17 S (dLast R))) ?_ ?_
    · unfold dEnd
      by_cases h56 : 56 ≤ R.length
      · rw [if_pos h56]
        have h56' : (R.length : Int) ≥ 56 := by omega
        refine Wp.condK rfl (by first | rfl | assumption | (simp only [decide_eq_true_eq, decide_eq_false_iff_not, Bool.not_eq_true', Bool.not_eq_false', List.length_cons, List.length_nil]; first | assumption | omega) | (simp <;> done) | (simp <;> omega)) ?_
        refine Wp.region ?_
        refine WpL.step (Stp.rd (Rdo.assign rfl) rfl ?_)
        refine WpL.nil ?_
        exact ⟨rfl, (by repeat (first | exact trivial | refine ⟨rfl, ?_⟩)), Gh.tk (by repeat (first | exact Tk.nil | apply Tk.cons (by repeat (first | exact Pk.here | apply Pk.next))))⟩
      · rw [if_neg h56]
        have h56' : ¬ (R.length : Int) ≥ 56 := by omega
        refine Wp.condL rfl (by first | rfl | assumption | (simp only [decide_eq_true_eq, decide_eq_false_iff_not, Bool.not_eq_true', Bool.not_eq_false', List.length_cons, List.length_nil]; first | assumption | omega) | (simp <;> done) | (simp <;> omega)) ?_
        refine Wp.skip ?_
        exact ⟨rfl, (by repeat (first | exact trivial | refine ⟨rfl, ?_⟩)), Gh.tk (by repeat (first | exact Tk.nil | apply Tk.cons (by repeat (first | exact Pk.here | apply Pk.next))))⟩
    · rintro x e' l' ⟨rfl, he, hg⟩
      refine Thn.n (Wp.gh hg (Wp.sub he ?_))
      have hE : dEnd R = 64 ∨ dEnd R = 128 := by unfold dEnd; split <;> simp
      refine Wp.seq ?_
      refine Wp.region ?_
      refine WpL.step (Stp.rd (Rdo.move rfl) rfl ?_)
      refine WpL.step (Stp.rd (Rdo.lenSlice rfl) rfl ?_)
      refine WpL.step (Stp.rd (Rdo.convInt rfl) rfl ?_)
      refine WpL.step (Stp.rd (Rdo.shl rfl rfl (by omega)) rfl ?_)
      refine WpL.step (Stp.rd (Rdo.assign rfl) rfl ?_)
      refine WpL.nil ?_
      refine Thn.n ?_
      refine Wp.seq ?_
      refine Wp.seq ?_
      refine Wp.region ?_
      refine WpL.step (Stp.rd (Rdo.move rfl) rfl ?_)
      refine WpL.nil ?_
      refine Thn.n ?_
      refine Wp.block ?_
      change Wp _ _ _ _ _ (eset (eset (eset (eset (eset (eset _ 31 (.slice a bs.length c)) 32 (.int .i64 bs.length)) 33 (.int .u64 (IntKind.u64.wrap bs.length))) 34 (.int .u64 (dBits bs.length))) 9 (.int .u64 (dBits bs.length))) 35 (.int .i64 0)) _
      refine Wp.loopE (fun k e h => ∃ i : Nat, i + k = 8 ∧ e = [(0, .slice a bs.length c), (2, vp nb2 0), (3, vp nb8 0), (4, vp nb17 0), (6, vp nb16 0), (8, vi (dEnd R)), (9, .int .u64 (dBits bs.length)), (35, vi i)] ∧ h = suM Kl nb16 nb2 nb8 nb17 S (dTail bs.length R i)) 8
        (e0 := [(0, .slice a bs.length c), (2, vp nb2 0), (3, vp nb8 0), (4, vp nb17 0), (6, vp nb16 0), (8, vi (dEnd R)), (9, .int .u64 (dBits bs.length)), (35, vi (0 : Nat))]) (l0 := suM Kl nb16 nb2 nb8 nb17 S (dTail bs.length R 0)) (by repeat (first | exact trivial | refine ⟨rfl, ?_⟩)) (by repeat (first | exact trivial | refine ⟨rfl, ?_⟩)) (by rw [dTail_zero]; exact Gh.tk (by repeat (first | exact Tk.nil | apply Tk.cons (by repeat (first | exact Pk.here | apply Pk.next))))) ⟨0, by omega, rfl, rfl⟩ ?_
      rintro k e h ⟨i, hik, rfl, rfl⟩
      by_cases hi : i < 8
      · have hi' : (i : Int) < 8 := by omega
        have n1 : ((dEnd R : Nat) : Int) - 1 = ((dEnd R - 1 : Nat) : Int) := by omega
        have n2 : ((dEnd R - 1 : Nat) : Int) - (i : Int) = ((dEnd R - 1 - i : Nat) : Int) := by omega
        have m1 : (8 : Int) * (i : Int) = ((8 * i : Nat) : Int) := by omega
        have hlen := dTail_len bs.length R (by omega) i
        refine Wp.seq ?_
        refine Wp.region ?_
        refine WpL.step (Stp.rd (Rdo.lti rfl rfl) rfl ?_)
        refine WpL.nil ?_
        refine Thn.n ?_
        refine Wp.seq ?_
        refine Wp.condK rfl (by first | rfl | assumption | (simp only [decide_eq_true_eq, decide_eq_false_iff_not, Bool.not_eq_true', Bool.not_eq_false', List.length_cons, List.length_nil]; first | assumption | omega) | (simp <;> done) | (simp <;> omega)) ?_
        refine Wp.skip ?_
        refine Thn.n ?_
        refine Wp.seq ?_
        refine Wp.block ?_
        refine Wp.seq ?_
        refine Wp.region ?_
        refine WpL.step (Stp.rd (Rdo.move rfl) rfl ?_)
        refine WpL.step (Stp.rd (Rdo.assign rfl) rfl ?_)
        refine WpL.nil ?_
        refine Thn.n ?_
        refine Wp.region ?_
        refine WpL.step (Stp.rd (Rdo.move rfl) rfl ?_)
        refine WpL.step (Stp.rd (Rdo.subE rfl rfl (by assumption) (by omega)) rfl ?_)
        refine WpL.step (Stp.rd (Rdo.move rfl) rfl ?_)
        refine WpL.step (Stp.rd (Rdo.subE rfl rfl (by assumption) (by omega)) rfl ?_)
        refine WpL.step (Stp.rd (Rdo.move rfl) rfl ?_)
        refine WpL.step (Stp.rd (Rdo.move rfl) rfl ?_)
        refine WpL.step (Stp.rd (Rdo.mulE rfl rfl (by assumption) (by omega)) rfl ?_)
        refine WpL.step (Stp.rd (Rdo.shr rfl rfl (by omega)) rfl ?_)
        refine WpL.step (Stp.rd (Rdo.convInt rfl) rfl ?_)
        refine WpL.step (Stp.rd (Rdo.indexArr rfl rfl (by omega)) rfl ?_)
        refine WpL.step (Stp.storeV rfl rfl (VC.i _ _) rfl (Sts.here (oneCells1 rfl) ?_) ?_)
        · rw [bytesC_length, hlen]
          simp only [List.length_cons, List.length_nil]
          omega
        rw [u8w, put8 _ _ _ (by omega)]
        refine WpL.gh (l' := suM Kl nb16 nb2 nb8 nb17 S (dTail bs.length R (i + 1))) (by rw [dTail_succ]; exact Gh.tk (by repeat (first | exact Tk.nil | apply Tk.cons (by repeat (first | exact Pk.here | apply Pk.next))))) ?_
        refine WpL.nil ?_
        refine Blk.n ?_
        refine Thn.n ?_
        refine Wp.region ?_
        refine WpL.step (Stp.rd (Rdo.succ rfl rfl (by omega)) rfl ?_)
        refine WpL.step (Stp.rd (Rdo.move rfl) rfl ?_)
        refine WpL.nil ?_
        refine Thn.n ?_
        exact ⟨k - 1, _, _, by omega, ⟨i + 1, by omega, rfl, rfl⟩, (by repeat (first | exact trivial | refine ⟨rfl, ?_⟩)), Gh.tk (by repeat (first | exact Tk.nil | apply Tk.cons (by repeat (first | exact Pk.here | apply Pk.next))))⟩
      · obtain rfl : i = 8 := by omega
        have hT := dTail_len bs.length R (by omega) 8
        have hEq : dEnd R / 64 = 1 ∧ dEnd R = 64 ∨ dEnd R / 64 = 2 ∧ dEnd R = 128 := by omega
        generalize dTail bs.length R 8 = T at *
        generalize dEnd R = E at *
        generalize hEE : E / 64 = Q at *
        refine Wp.seq ?_
        refine Wp.region ?_
        refine WpL.step (Stp.rd (Rdo.lti rfl rfl) rfl ?_)
        refine WpL.nil ?_
        refine Thn.n ?_
        refine Wp.seq ?_
        refine Wp.condF rfl ?_
        refine Wp.exit ?_
        refine Thn.x ?_
        refine Thn.x ?_
        refine Blk.here ?_
        refine Thn.n ?_
        refine Wp.seq ?_
        refine Wp.seq ?_
        refine Wp.region ?_
        refine WpL.step (Stp.rd (Rdo.assign rfl) rfl ?_)
        refine WpL.nil ?_
        refine Thn.n ?_
        refine Wp.block ?_
        refine Wp.loopE (fun k e h => ∃ q : Nat, q + k = Q ∧ e = [(2, vp nb2 0), (3, vp nb8 0), (4, vp nb17 0), (6, vp nb16 0), (8, vi E), (11, vi ((64 * q : Nat) : Int))] ∧ h = suM Kl nb16 nb2 nb8 nb17 (dBlocks Kl S T q) T) Q
          (e0 := [(2, vp nb2 0), (3, vp nb8 0), (4, vp nb17 0), (6, vp nb16 0), (8, vi E), (11, vi ((64 * 0 : Nat) : Int))]) (l0 := suM Kl nb16 nb2 nb8 nb17 (dBlocks Kl S T 0) T) (by repeat (first | exact trivial | refine ⟨rfl, ?_⟩)) (by repeat (first | exact trivial | refine ⟨rfl, ?_⟩)) (by rw [dBlocks_zero]; exact Gh.tk (by repeat (first | exact Tk.nil | apply Tk.cons (by repeat (first | exact Pk.here | apply Pk.next))))) ⟨0, by omega, rfl, rfl⟩ ?_
        rintro k e h ⟨q, hqk, rfl, rfl⟩
        by_cases hq : q < Q
        · have hq' : ((64 * q : Nat) : Int) < E := by omega
          have a1 : ((64 * q : Nat) : Int) + 64 = ((64 * (q + 1) : Nat) : Int) := by omega
          have hs2 := dBlocks_succ Kl S T q
          have s1 := take_own Kl hKl nb8 nb17 nb16 (dBlocks Kl S T q) T hT (64 * q) (by omega)
          rw [← hs2] at s1
          refine Wp.seq ?_
          refine Wp.seq ?_
          refine Wp.region ?_
          refine WpL.step (Stp.rd (Rdo.move rfl) rfl ?_)
          refine WpL.step (Stp.rd (Rdo.move rfl) rfl ?_)
          refine WpL.step (Stp.rd (Rdo.lti rfl rfl) rfl ?_)
          refine WpL.nil ?_
          refine Thn.n ?_
          refine Wp.condK rfl (by first | rfl | assumption | (simp only [decide_eq_true_eq, decide_eq_false_iff_not, Bool.not_eq_true', Bool.not_eq_false', List.length_cons, List.length_nil]; first | assumption | omega) | (simp <;> done) | (simp <;> omega)) ?_
          refine Wp.skip ?_
          refine Thn.n ?_
          refine Wp.seq ?_
          refine Wp.block ?_
          refine Wp.region ?_
          refine WpL.step (Stp.rd (Rdo.move rfl) rfl ?_)
          refine WpL.step (Stp.rd (Rdo.slArr_l _ rfl rfl rfl (by omega)) rfl ?_)
          refine WpL.step (Stp.call (s1) (by kernel_rfl) rfl (by repeat (first | exact Tk.nil | apply Tk.cons (by repeat (first | exact Pk.here | apply Pk.next)))) rfl ?_)
          rintro _ _ ⟨rfl, rfl⟩
          refine WpL.lst (by simp only [List.cons_append, List.nil_append]; exact rfl) ?_
          refine WpL.nil ?_
          refine Blk.n ?_
          refine Thn.n ?_
          refine Wp.region ?_
          refine WpL.step (Stp.rd (Rdo.move rfl) rfl ?_)
          refine WpL.step (Stp.rd (Rdo.addE rfl rfl (by assumption) (by omega)) rfl ?_)
          refine WpL.step (Stp.rd (Rdo.assign rfl) rfl ?_)
          refine WpL.nil ?_
          refine Thn.n ?_
          exact ⟨k - 1, _, _, by omega, ⟨q + 1, by omega, rfl, rfl⟩, (by repeat (first | exact trivial | refine ⟨rfl, ?_⟩)), Gh.tk (by repeat (first | exact Tk.nil | apply Tk.cons (by repeat (first | exact Pk.here | apply Pk.next))))⟩
        · have hq' : ¬ ((64 * q : Nat) : Int) < E := by omega
          obtain rfl : q = Q := by omega
          generalize dBlocks Kl S T q = V at *
          refine Wp.seq ?_
          refine Wp.seq ?_
          refine Wp.region ?_
          refine WpL.step (Stp.rd (Rdo.move rfl) rfl ?_)
          refine WpL.step (Stp.rd (Rdo.move rfl) rfl ?_)
          refine WpL.step (Stp.rd (Rdo.lti rfl rfl) rfl ?_)
          refine WpL.nil ?_
          refine Thn.n ?_
          refine Wp.condL rfl (by first | rfl | assumption | (simp only [decide_eq_true_eq, decide_eq_false_iff_not, Bool.not_eq_true', Bool.not_eq_false', List.length_cons, List.length_nil]; first | assumption | omega) | (simp <;> done) | (simp <;> omega)) ?_
          refine Wp.exit ?_
          refine Thn.x ?_
          refine Thn.x ?_
          refine Blk.here ?_
          refine Thn.n ?_
          refine Wp.seq ?_
          refine Wp.seq ?_
          refine Wp.region ?_
          refine WpL.step (Stp.rd (Rdo.load rfl (Lds.next (by apply Lds.all; (first | rfl | assumption | (simp <;> fail))))) rfl ?_)
          refine WpL.step (Stp.rd (Rdo.move rfl) rfl ?_)
          refine WpL.nil ?_
          refine Thn.n ?_
          refine Wp.block ?_
          refine Wp.loopE (fun k e h => ∃ i : Nat, i + k = 8 ∧ e = [(2, vp nb2 0), (57, .agg V.C.toArray), (58, vi i)] ∧ h = [cel nb2 54 ((dOut V.l i).map v8)]) 8
            (e0 := [(2, vp nb2 0), (57, .agg V.C.toArray), (58, vi (0 : Nat))]) (l0 := [cel nb2 54 ((dOut V.l 0).map v8)]) (by repeat (first | exact trivial | refine ⟨rfl, ?_⟩)) (by repeat (first | exact trivial | refine ⟨rfl, ?_⟩)) (by rw [dOut_zero, List.map_replicate]; exact Gh.tk (by repeat (first | exact Tk.nil | apply Tk.cons (by repeat (first | exact Pk.here | apply Pk.next))))) ⟨0, by omega, rfl, rfl⟩ ?_
          rintro k e h ⟨i, hik, rfl, rfl⟩
          by_cases hi : i < 8
          · have hi' : (i : Int) < 8 := by omega
            have w1 : V.C[i]? = some (v32 (V.l.getD i 0)) := by
              have := at32 V.l i hi
              rwa [show 0 + i * 1 = i by omega] at this
            have m1 : (4 : Int) * (i : Int) = ((4 * i : Nat) : Int) := by omega
            have a1 : ((4 * i : Nat) : Int) + 1 = ((4 * i + 1 : Nat) : Int) := by omega
            have a2 : ((4 * i : Nat) : Int) + 2 = ((4 * i + 2 : Nat) : Int) := by omega
            have a3 : ((4 * i : Nat) : Int) + 3 = ((4 * i + 3 : Nat) : Int) := by omega
            have hlen := dOut_len V.l i
            have hs3 := dOut_succ V.l i
            generalize hx : V.l.getD i 0 = x at *
            generalize dOut V.l i = D at *
            refine Wp.seq ?_
            refine Wp.region ?_
            refine WpL.step (Stp.rd (Rdo.lti rfl rfl) rfl ?_)
            refine WpL.nil ?_
            refine Thn.n ?_
            refine Wp.seq ?_
            refine Wp.condK rfl (by first | rfl | assumption | (simp only [decide_eq_true_eq, decide_eq_false_iff_not, Bool.not_eq_true', Bool.not_eq_false', List.length_cons, List.length_nil]; first | assumption | omega) | (simp <;> done) | (simp <;> omega)) ?_
            refine Wp.skip ?_
            refine Thn.n ?_
            refine Wp.seq ?_
            refine Wp.block ?_
            refine Wp.seq ?_
            refine Wp.region ?_
            refine WpL.step (Stp.rd (Rdo.move rfl) rfl ?_)
            refine WpL.step (Stp.rd (Rdo.indexAgg1 rfl rfl (by omega) (by assumption)) rfl ?_)
            refine WpL.step (Stp.rd (Rdo.assign rfl) rfl ?_)
            refine WpL.step (Stp.rd (Rdo.assign rfl) rfl ?_)
            refine WpL.nil ?_
            refine Thn.n ?_
            refine Wp.region ?_
            refine WpL.step (Stp.rd (Rdo.move rfl) rfl ?_)
            refine WpL.step (Stp.rd (Rdo.mulE rfl rfl (by assumption) (by omega)) rfl ?_)
            refine WpL.step (Stp.rd (Rdo.move rfl) rfl ?_)
            refine WpL.step (Stp.rd (Rdo.mulE rfl rfl (by assumption) (by omega)) rfl ?_)
            refine WpL.step (Stp.rd (Rdo.addE rfl rfl (by assumption) (by omega)) rfl ?_)
            refine WpL.step (Stp.rd (Rdo.move rfl) rfl ?_)
            refine WpL.step (Stp.rd (Rdo.mulE rfl rfl (by assumption) (by omega)) rfl ?_)
            refine WpL.step (Stp.rd (Rdo.addE rfl rfl (by assumption) (by omega)) rfl ?_)
            refine WpL.step (Stp.rd (Rdo.move rfl) rfl ?_)
            refine WpL.step (Stp.rd (Rdo.mulE rfl rfl (by assumption) (by omega)) rfl ?_)
            refine WpL.step (Stp.rd (Rdo.addE rfl rfl (by assumption) (by omega)) rfl ?_)
            refine WpL.step (Stp.rd (Rdo.move rfl) rfl ?_)
            refine WpL.step (Stp.rd (Rdo.shr rfl rfl (by omega)) rfl ?_)
            refine WpL.step (Stp.rd (Rdo.convInt rfl) rfl ?_)
            refine WpL.step (Stp.rd (Rdo.move rfl) rfl ?_)
            refine WpL.step (Stp.rd (Rdo.shr rfl rfl (by omega)) rfl ?_)
            refine WpL.step (Stp.rd (Rdo.convInt rfl) rfl ?_)
            refine WpL.step (Stp.rd (Rdo.move rfl) rfl ?_)
            refine WpL.step (Stp.rd (Rdo.shr rfl rfl (by omega)) rfl ?_)
            refine WpL.step (Stp.rd (Rdo.convInt rfl) rfl ?_)
            refine WpL.step (Stp.rd (Rdo.move rfl) rfl ?_)
            refine WpL.step (Stp.rd (Rdo.convInt rfl) rfl ?_)
            refine WpL.step (Stp.rd (Rdo.indexArr rfl rfl (by omega)) rfl ?_)
            refine WpL.step (Stp.storeV rfl rfl (VC.i _ _) rfl (Sts.here (oneCells1 rfl) ?_) ?_)
            · simp only [List.length_map, List.length_set, List.length_cons, List.length_nil, hlen]; omega
            rw [put8v _ _ _ (by simp only [List.length_set, hlen]; omega)]
            refine WpL.step (Stp.rd (Rdo.indexArr rfl rfl (by omega)) rfl ?_)
            refine WpL.step (Stp.storeV rfl rfl (VC.i _ _) rfl (Sts.here (oneCells1 rfl) ?_) ?_)
            · simp only [List.length_map, List.length_set, List.length_cons, List.length_nil, hlen]; omega
            rw [put8v _ _ _ (by simp only [List.length_set, hlen]; omega)]
            refine WpL.step (Stp.rd (Rdo.indexArr rfl rfl (by omega)) rfl ?_)
            refine WpL.step (Stp.storeV rfl rfl (VC.i _ _) rfl (Sts.here (oneCells1 rfl) ?_) ?_)
            · simp only [List.length_map, List.length_set, List.length_cons, List.length_nil, hlen]; omega
            rw [put8v _ _ _ (by simp only [List.length_set, hlen]; omega)]
            refine WpL.step (Stp.rd (Rdo.indexArr rfl rfl (by omega)) rfl ?_)
            refine WpL.step (Stp.storeV rfl rfl (VC.i _ _) rfl (Sts.here (oneCells1 rfl) ?_) ?_)
            · simp only [List.length_map, List.length_set, List.length_cons, List.length_nil, hlen]; omega
            rw [put8v _ _ _ (by simp only [List.length_set, hlen]; omega)]
            refine WpL.nil ?_
            refine Blk.n ?_
            refine Thn.n ?_
            refine Wp.region ?_
            refine WpL.step (Stp.rd (Rdo.succ rfl rfl (by omega)) rfl ?_)
            refine WpL.step (Stp.rd (Rdo.move rfl) rfl ?_)
            refine WpL.nil ?_
            refine Thn.n ?_
            exact ⟨k - 1, _, _, by omega, ⟨i + 1, by omega, rfl, rfl⟩, (by repeat (first | exact trivial | refine ⟨rfl, ?_⟩)), by rw [hs3]; exact Gh.tk (by repeat (first | exact Tk.nil | apply Tk.cons (by repeat (first | exact Pk.here | apply Pk.next))))⟩
          · obtain rfl : i = 8 := by omega
            have hlen := dOut_len V.l 8
            generalize dOut V.l 8 = D at *
            subst hZ
            have hlen2 : (Z.map v8).length = 32 := by rw [List.length_map]; exact hlen
            refine Wp.seq ?_
            refine Wp.region ?_
            refine WpL.step (Stp.rd (Rdo.lti rfl rfl) rfl ?_)
            refine WpL.nil ?_
            refine Thn.n ?_
            refine Wp.seq ?_
            refine Wp.condF rfl ?_
            refine Wp.exit ?_
            refine Thn.x ?_
            refine Thn.x ?_
            refine Blk.here ?_
            refine Thn.n ?_
            refine Wp.seq ?_
            refine Wp.region ?_
            refine WpL.step (Stp.rd (Rdo.load rfl (by apply Lds.all; (first | rfl | assumption | (simp <;> fail)))) rfl ?_)
            refine WpL.step (Stp.storeV rfl rfl (VC.ag _) (by first | rfl | assumption | (simp <;> done)) (by repeat (first | (apply Sts.all; (focus (first | rfl | assumption | (simp <;> done))); (focus (first | exact oneCells1 rfl | assumption | exact oneCells1 (by assumption) | ((repeat (first | assumption | exact oneCells_nil | exact oneCells_bytesC _ | (apply oneCells_cons; (focus (first | rfl | assumption))) | apply oneCells_append)); done) | (simp [oneCells, Value.oneCell'] <;> done)))) | (apply Sts.lp (by repeat (first | exact LPut.nil _ | apply LPut.here | apply LPut.next)); (focus (first | exact oneCells1 rfl | assumption | exact oneCells1 (by assumption) | ((repeat (first | assumption | exact oneCells_nil | exact oneCells_bytesC _ | (apply oneCells_cons; (focus (first | rfl | assumption))) | apply oneCells_append)); done) | (simp [oneCells, Value.oneCell'] <;> done)))) | (refine Sts.row1 (by first | assumption | omega | (simp <;> omega)) (by first | rfl | assumption)) | (refine Sts.rowP (by assumption) (by first | rfl | assumption | (simp <;> done)) (by rfl) (by (first | exact oneCells1 rfl | assumption | exact oneCells1 (by assumption) | ((repeat (first | assumption | exact oneCells_nil | exact oneCells_bytesC _ | (apply oneCells_cons; (focus (first | rfl | assumption))) | apply oneCells_append)); done) | (simp [oneCells, Value.oneCell'] <;> done)))) | apply Sts.next)) ?_)
            refine WpL.nil ?_
            refine Thn.n ?_
            refine Wp.ret ?_
            refine Ret.now (ResV.cell rfl (by repeat (first | exact Lds.one rfl | (apply Lds.all; (first | rfl | assumption | (simp <;> fail))) | exact Lds.ione0 | exact Lds.ione rfl | (apply Lds.iall; (first | rfl | assumption | (simp <;> fail))) | apply Lds.next)) ResV.nil) (Gh.tk (by repeat (first | exact Tk.nil | apply Tk.cons (by repeat (first | exact Pk.here | apply Pk.next))))) ⟨rfl, rfl⟩
end Go.Proofs.YtccgdnocldmjeaaDoor
