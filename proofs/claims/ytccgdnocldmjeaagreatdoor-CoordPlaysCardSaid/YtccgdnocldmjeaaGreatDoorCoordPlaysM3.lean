/- Walks, rules and plain laws on which the claim stands, joined: the program's functions as they compute, one after the other. -/
import Derived.Orders
import Derived.Below
import Derived.Tactics
import Derived.Laws.AppendOwn
import Derived.Laws.CopyRow
import Derived.Laws.ResultCell
import Derived.Laws.Slices
import Derived.Laws.Small
import Derived.Laws.StructEq
import Derived.Laws.Pointers
import Derived.Laws.Unary
import Derived.Laws.Cells
import Derived.OrdersIn
import Derived.RangeFuncRecord
import Derived.RangeFuncIn
import Derived.RangeFuncCalls
import Derived.RangeFuncNested
import Derived.Laws.Cover3
import Derived.Laws.BytesString
import Derived.Laws.Strings
import Derived.Test.YtccgdnocldmjeaaGreatDoorProg
import Derived.KernelRfl
import Derived.DeepKeys
import Derived.Laws.IdiomStrings
import Derived.OpenShut
import Derived.ChangeSlices
import Derived.DataElems
import Derived.Handed
import Derived.Laws.Shifts
import Derived.Laws.BitsAllLaws
import Derived.Test.YtccgdnocldmjeaaGreatDoorRows
import Derived.WalkKit
import Derived.ProofKit
import Derived.ShutString
import Derived.ChangeOld
import Derived.Lay
import Derived.MakeChecks
import Derived.SevenTiedAt
import Derived.Test.YtccgdnocldmjeaaGreatDoorCoordPlaysM2
namespace Go.Proofs.YtccgdnocldmjeaaGreatDoor
open Go
set_option maxHeartbeats 4000000
set_option linter.unusedSimpArgs false
set_option linter.unusedVariables false
set_option maxRecDepth 20000
abbrev suE1 (v : Value) (nh : Nat) (m : Value) : Env := [(0, v), (2, vp nh 0), (3, m)]
abbrev suL1 (nh : Nat) (v : Value) (bs : List UInt8) (m : Value) (n : Nat) (B : List UInt8) : List HP := [rowA 5 1 m n (bytesC B), cel nh 65 (List.replicate 32 (.int .u8 0)), fz (fun g => RdBytes g v bs)]
abbrev suE2 (nh : Nat) (m : Value) (n x : Int) : Env := [(2, vp nh 0), (3, m), (4, .int .u64 n), (5, vi x)]
abbrev suL2 (nh : Nat) (m : Value) (n : Nat) (B : List UInt8) : List HP := [rowA 5 1 m n (bytesC B), cel nh 65 (List.replicate 32 (.int .u8 0))]
theorem rowA_cap2 {t : TypeId} {sz n c : Nat} {a : Option Addr} {xs : List Value} {r : Res} (h : rowA t sz (.slice a n c) n xs r) : n ≤ c := by
  unfold rowA at h
  rcases h.2 with ⟨h1, h2⟩ | ⟨b, o, cap, cur, h1, _, h3, _⟩
  · omega
  · simp only [Value.slice.injEq, true_and] at h1
    omega
theorem RdBytes.take_ {g : FH} {a : Option Addr} {n c k : Nat} {bs : List UInt8} (h : RdBytes g (.slice a n c) bs) (hk : k ≤ n) : RdBytes g (.slice a k c) (bs.take k) := by
  obtain ⟨h1, a', c', h2, h3⟩ := h
  simp only [Value.slice.injEq] at h2
  obtain ⟨rfl, rfl, rfl⟩ := h2
  have hl : (bs.take k).length = k := by rw [List.length_take]; omega
  refine ⟨by simp [bytesC], a, c, by rw [hl], ?_⟩
  rcases h3 with h3 | ⟨b, o, h4, arr, t, fr, h5, h6⟩
  · exact .inl (by omega)
  · refine .inr ⟨b, o, h4, arr, t, fr, h5, fun j v hj => h6 j v ?_⟩
    rw [bytesC, List.map_take, List.getElem?_take] at hj
    split at hj
    · exact hj
    · cases hj
theorem RdBytes.sub_ {g : FH} {b o n cap l k : Nat} {bs : List UInt8} (h : RdBytes g (.slice (some ⟨b, o, none⟩) n cap) bs) (hl : l + k ≤ n) (hc : n ≤ cap) : RdBytes g (.slice (some (slA b o l cap 1)) k (cap - l)) ((bs.drop l).take k) :=
  RdBytes.take_ (RdBytes.drop_ h (by omega) hc) (by omega)
abbrev suE3 (nh ns nk : Nat) (m : Value) (i : Nat) : Env := [(2, vp nh 0), (3, m), (6, vp ns 0), (7, vp nk 0), (8, vi i)]
abbrev suL3 (Kl : List Int) (nh ns nk : Nat) (m : Value) (M : List UInt8) (S : V8) : List HP := [fz (fun g => RdBytes g m M), cel nk 127 (Kl.map v32), cel ns 125 S.C, cel nh 65 (List.replicate 32 (.int .u8 0))]
abbrev suE4 (nh ns nk : Nat) (i : Nat) : Env := [(2, vp nh 0), (6, vp ns 0), (9, vp nk 0), (10, vi i)]
abbrev suL4 (nh ns nk : Nat) (V : V8) (D : List Int) : List HP := [cel nk 65 (D.map v8), cel ns 125 V.C, cel nh 65 (List.replicate 32 (.int .u8 0))]
section
variable {P : Program} {e : Env} {C : List HP} {ty : TypeId}
theorem Rdo.quoE {x y : Operand} {xt yt : TypeId} {k : IntKind} {p q r : Int} (hx : evl e x = some (.int k p)) (hy : evl e y = some (.int k q)) (hq : q ≠ 0) (hr : k.wrap (p.tdiv q) = r) : Rdo P e C (.binOp .quo xt x y yt) ty (.int k r) := hr ▸ Rdo.quo hx hy hq
theorem Rdo.remE {x y : Operand} {xt yt : TypeId} {k : IntKind} {p q r : Int} (hx : evl e x = some (.int k p)) (hy : evl e y = some (.int k q)) (hq : q ≠ 0) (hr : p.tmod q = r) : Rdo P e C (.binOp .rem xt x y yt) ty (.int k r) := hr ▸ Rdo.rem hx hy hq
end
theorem rSum_ok (v : Value) (bs : List UInt8) (hl : bs.length ≤ 1000000000) :
    Trip Tryz.prog 44 [v] [fz (fun g => RdBytes g v bs)] (fun r l => r = .agg ((dSum bs).map (Value.int .u8)).toArray ∧ l = []) := by
  obtain ⟨Z, hZ⟩ : ∃ Z, Z = dSum bs := ⟨_, rfl⟩
  rw [← hZ]
  rw [← rSum_eq] at hZ
  refine Trip.get Pk.here shape_bytes ?_
  rintro ⟨a, c, rfl⟩
  have s1 := rk_ok
  refine Trip.of_body Tryz.func44 rfl Tryz.ntmps44 Tryz.results44 rfl ?_
  refine Wsr ?_
  (refine WpL.step (Stp.alloc rfl ?_); intro nb2)
  refine Lnt (Wsr ?_)
  (refine WpL.step (Stp.slice0 rfl ?_); intro nb7)
  refine Ls (Rdo.move rfl) ?_
  refine WpL.step (Stp.append0P rfl rfl Pk.here (Src.next Src.frozen) (by simp [bytesC_length]) (oneCells_bytesC bs) (by omega) (by omega) rfl (by rfl) ?_)
  intro na nc
  (refine WpL.step (Stp.sliceV rfl rfl (VCs.cons (VC.i _ _) (by first | rfl | assumption | (simp <;> done)) VCs.nil) (by simp only [List.cons_append, List.nil_append, List.append_nil]; exact rfl) rfl rfl ?_); intro nb0)
  (refine WpL.step (Stp.appendP rfl rfl (Pk.next Pk.here) (Src.cel (by first | rfl | (simp <;> done) | (simp <;> omega))) (by first | rfl | (simp <;> done) | (simp <;> omega)) (by first | assumption | exact oneCells1 rfl | exact oneCells1 (by assumption) | exact oneCells_bytesC _ | exact oneCells_votesC _ | (simp [oneCells, Value.oneCell'] <;> done)) (by first | omega | (simp <;> omega)) (by first | omega | (simp <;> omega)) rfl (by first | rfl | (simp <;> done)) ?_); intro na1 nc1)
  refine Ls (Rdo.assign rfl) (Lnt (Wp.seq (Wp.block ?_)))
  have hP := rPad_lt bs.length
  have hPm := rPad_mod bs.length
  refine Wp.loopE (fun k e h => ∃ (i : Nat) (am : Option Addr) (cm : Nat), i + k = rPad bs.length ∧ e = suE1 (.slice a bs.length c) nb2 (.slice am (bs.length + 1 + i) cm) ∧ h = suL1 nb2 (.slice a bs.length c) bs (.slice am (bs.length + 1 + i) cm) (bs.length + 1 + i) (bs ++ [128] ++ List.replicate i 0)) (rPad bs.length)
    (e0 := suE1 (.slice a bs.length c) nb2 (.slice na1 (bs.length + 1) nc1)) (l0 := suL1 nb2 (.slice a bs.length c) bs (.slice na1 (bs.length + 1) nc1) (bs.length + 1) (bs ++ [128])) (by repeat (first | exact trivial | refine ⟨rfl, ?_⟩)) (by repeat (first | exact trivial | refine ⟨rfl, ?_⟩)) (by simp only [suL1]; rw [bytesC_snoc]; exact Gk) ⟨0, na1, nc1, by omega, rfl, by simp⟩ ?_
  rintro k e h ⟨i, am, cm, hik, rfl, rfl⟩
  have ht : ((bs.length + 1 + i : Nat) : Int).tmod 64 = (((bs.length + 1 + i) % 64 : Nat) : Int) := (Int.ofNat_tmod _ 64).symm
  by_cases hi : i < rPad bs.length
  · have hne := rPad_least bs.length i hi
    have hc : ¬ ((bs.length + 1 + i : Nat) : Int).tmod 64 = 56 := by rw [ht]; omega
    refine Wp.seq (Wsr (Ls (Rdo.move rfl) (Ls (Rdo.lenSlice rfl) ?_)))
    refine Ls (Rdo.remE rfl rfl (by omega) (by assumption)) ?_
    refine Ls (Rdo.nei rfl rfl) (Lnt (cK rfl (Wp.skip (Thn.n (Wp.block (Wp.region (Ls (Rdo.move rfl) ?_)))))))
    (refine WpL.step (Stp.sliceV rfl rfl (VCs.cons (VC.i _ _) (by first | rfl | assumption | (simp <;> done)) VCs.nil) (by simp only [List.cons_append, List.nil_append, List.append_nil]; exact rfl) rfl rfl ?_); intro nb15)
    (refine WpL.step (Stp.appendP rfl rfl (Pk.next Pk.here) (Src.cel (by first | rfl | (simp <;> done) | (simp <;> omega))) (by first | rfl | (simp <;> done) | (simp <;> omega)) (by first | assumption | exact oneCells1 rfl | exact oneCells1 (by assumption) | exact oneCells_bytesC _ | exact oneCells_votesC _ | (simp [oneCells, Value.oneCell'] <;> done)) (by first | omega | (simp <;> omega)) (by first | omega | (simp <;> omega)) rfl (by first | rfl | (simp <;> done)) ?_); intro na16 nc16)
    refine Ls (Rdo.assign rfl) (WpL.nil (Blk.n (Thn.n ?_)))
    refine ⟨k - 1, _, _, by omega, ⟨i + 1, _, _, by omega, rfl, rfl⟩, (by repeat (first | exact trivial | refine ⟨rfl, ?_⟩)), ?_⟩
    have e1 : bytesC (bs ++ [128] ++ List.replicate (i + 1) 0) = bytesC (bs ++ [128] ++ List.replicate i 0) ++ [Value.int .u8 0] := by
      rw [List.replicate_succ', ← List.append_assoc, bytesC_snoc]
      rfl
    simp only [suL1]
    rw [e1]
    exact Gk
  · obtain rfl : i = rPad bs.length := by omega
    have hc : ((bs.length + 1 + rPad bs.length : Nat) : Int).tmod 64 = 56 := by rw [ht, hPm]; rfl
    refine Wp.seq (Wsr (Ls (Rdo.move rfl) (Ls (Rdo.lenSlice rfl) ?_)))
    refine Ls (Rdo.remE rfl rfl (by omega) (by assumption)) ?_
    refine Ls (Rdo.nei rfl rfl) (Lnt ?_)
    refine Wp.condF rfl ?_
    refine Wp.exit ?_
    refine Thn.x ?_
    refine Thn.x ?_
    refine Blk.here ?_
    refine Thn.n (Wsr (Ls (Rdo.move rfl) (Ls (Rdo.lenSlice rfl) (Ls (Rdo.convInt rfl) (Ls (Rdo.mul rfl rfl) (Ls (Rdo.assign rfl) (Lnt (Wp.seq (Wsr (Ls (Rdo.assign rfl) (Lnt (Wp.block ?_))))))))))))
    have hB : bytesC (bs ++ [128] ++ List.replicate (rPad bs.length) 0 ++ rDig bs.length 0) = bytesC (bs ++ [128] ++ List.replicate (rPad bs.length) 0) := by rw [rDig, List.append_nil]
    refine Wp.loopE (fun k e h => ∃ (j : Nat) (x : Int) (am : Option Addr) (cm : Nat), j + k = 8 ∧ x = 7 - j ∧ e = suE2 nb2 (.slice am (bs.length + 1 + rPad bs.length + j) cm) (dBits bs.length) x ∧ h = suL2 nb2 (.slice am (bs.length + 1 + rPad bs.length + j) cm) (bs.length + 1 + rPad bs.length + j) (bs ++ [128] ++ List.replicate (rPad bs.length) 0 ++ rDig bs.length j)) 8
      (e0 := suE2 nb2 (.slice am (bs.length + 1 + rPad bs.length) cm) (dBits bs.length) 7) (l0 := suL2 nb2 (.slice am (bs.length + 1 + rPad bs.length) cm) (bs.length + 1 + rPad bs.length) (bs ++ [128] ++ List.replicate (rPad bs.length) 0 ++ rDig bs.length 0)) (by repeat (first | exact trivial | refine ⟨rfl, ?_⟩)) (by repeat (first | exact trivial | refine ⟨rfl, ?_⟩)) (by simp only [suL2]; rw [hB]; exact Gk) ⟨0, 7, am, cm, by omega, by omega, rfl, rfl⟩ ?_
    clear hB
    rintro k e h ⟨j, x, am, cm, hjk, hx, rfl, rfl⟩
    by_cases hj : j < 8
    · have m1 : (8 : Int) * x = ((8 * (7 - j) : Nat) : Int) := by omega
      have hw : IntKind.u64.wrap ((8 * (7 - j) : Nat) : Int) = ((8 * (7 - j) : Nat) : Int) := by
        simp [IntKind.wrap, IntKind.bits, IntKind.signed]
        omega
      have hx0 : x ≥ 0 := by omega
      have e1 : bytesC (bs ++ [128] ++ List.replicate (rPad bs.length) 0 ++ rDig bs.length (j + 1)) = bytesC (bs ++ [128] ++ List.replicate (rPad bs.length) 0 ++ rDig bs.length j) ++ [Value.int .u8 (dDigit bs.length (7 - j))] := by
        rw [rDig, ← List.append_assoc, bytesC_snoc]
        congr 3
        exact (u8w _).symm
      generalize bs ++ [128] ++ List.replicate (rPad bs.length) 0 ++ rDig bs.length j = B at *
      refine Wp.seq (Wsr (Ls (Rdo.move rfl) (Ls (Rdo.gei rfl rfl) (Lnt (cK rfl (Wp.skip (Thn.n (Wp.seq (Wp.block (Wp.region (Ls (Rdo.move rfl) (Ls (Rdo.move rfl) (Ls (Rdo.move rfl) ?_)))))))))))))
      refine Ls (Rdo.mulE rfl rfl (by assumption) (by omega)) ?_
      refine Ls (Rdo.convInt rfl) ?_
      refine Ls (Rdo.shr rfl rfl (by omega)) ?_
      refine Ls (Rdo.convInt rfl) ?_
      (refine WpL.step (Stp.sliceV rfl rfl (VCs.cons (VC.i _ _) (by first | rfl | assumption | (simp <;> done)) VCs.nil) (by simp only [List.cons_append, List.nil_append, List.append_nil]; exact rfl) rfl rfl ?_); intro nb20)
      (refine WpL.step (Stp.appendP rfl rfl (Pk.next Pk.here) (Src.cel (by first | rfl | (simp <;> done) | (simp <;> omega))) (by first | rfl | (simp <;> done) | (simp <;> omega)) (by first | assumption | exact oneCells1 rfl | exact oneCells1 (by assumption) | exact oneCells_bytesC _ | exact oneCells_votesC _ | (simp [oneCells, Value.oneCell'] <;> done)) (by first | omega | (simp <;> omega)) (by first | omega | (simp <;> omega)) rfl (by first | rfl | (simp <;> done)) ?_); intro na21 nc21)
      refine Ls (Rdo.assign rfl) (WpL.nil (Blk.n (Thn.n (Wp.region (Ls (Rdo.move rfl) ?_)))))
      refine Ls (Rdo.sub64 rfl rfl (by omega)) ?_
      refine Ls (Rdo.assign rfl) (Lnt ?_)
      refine ⟨k - 1, _, _, by omega, ⟨j + 1, x - 1, _, _, by omega, by omega, rfl, rfl⟩, (by repeat (first | exact trivial | refine ⟨rfl, ?_⟩)), ?_⟩
      rw [hw]
      simp only [suL2]
      rw [e1]
      exact Gk
    · have hx0 : ¬ x ≥ 0 := by omega
      obtain rfl : j = 8 := by omega
      have hM : bs ++ [128] ++ List.replicate (rPad bs.length) 0 ++ rDig bs.length 8 = rMsg bs := rfl
      have hMl := rMsg_len bs
      rw [hM, ← hMl]
      generalize rMsg bs = M at *
      refine Wp.seq (Wsr (Ls (Rdo.move rfl) (Ls (Rdo.gei rfl rfl) (Lnt (cL rfl ?_)))))
      refine Wp.exit ?_
      refine Thn.x ?_
      refine Thn.x ?_
      refine Blk.here ?_
      refine Thn.n (Wsr (Ls (Rdo.bldArr1 rfl rfl) ?_))
      (refine WpL.step (Stp.alloc rfl ?_); intro nb16)
      refine WpL.step (St rfl rfl (VC.ag _) ?_)
      refine Lnt (Wsr ?_)
      refine WpL.step (Sc (s1) rfl ?_)
      rintro _ _ ⟨rfl, rfl⟩
      refine Ll ?_
      (refine WpL.step (Stp.alloc rfl ?_); intro nb25)
      refine WpL.step (St rfl rfl (VC.ag _) ?_)
      refine Lnt (Wp.seq (Wsr (Ls (Rdo.assign rfl) (Lnt (Wp.block ?_)))))
      have hKl := dK_len
      generalize dK = Kl at *
      have hQ : 64 * (M.length / 64) = M.length := by omega
      have hM9 : 9 ≤ M.length := by omega
      have hM1 : M.length ≤ 1000000128 := by omega
      refine Wp.get (Pk.next (Pk.next Pk.here)) (fun r => rowA_cap2) ?_
      intro hcap
      refine Wp.gh (Gh.ice (Pk.next (Pk.next Pk.here))) ?_
      refine Wp.get Pk.here (row_some (by omega)) ?_
      rintro ⟨mb, mo, rfl⟩
      refine Wp.loopE (fun k e h => ∃ q : Nat, q + k = M.length / 64 ∧ e = suE3 nb2 nb16 nb25 (.slice (some ⟨mb, mo, none⟩) M.length cm) (64 * q) ∧ h = suL3 Kl nb2 nb16 nb25 (.slice (some ⟨mb, mo, none⟩) M.length cm) M (dBlocks Kl dS8 M q)) (M.length / 64)
        (e0 := suE3 nb2 nb16 nb25 (.slice (some ⟨mb, mo, none⟩) M.length cm) (64 * 0)) (l0 := suL3 Kl nb2 nb16 nb25 (.slice (some ⟨mb, mo, none⟩) M.length cm) M (dBlocks Kl dS8 M 0)) (by repeat (first | exact trivial | refine ⟨rfl, ?_⟩)) (by repeat (first | exact trivial | refine ⟨rfl, ?_⟩)) (by rw [dBlocks_zero]; exact Gk) ⟨0, by omega, rfl, rfl⟩ ?_
      rintro k e h ⟨q, hqk, rfl, rfl⟩
      by_cases hq : q < M.length / 64
      · have hq' : ((64 * q : Nat) : Int) < M.length := by omega
        have a1 : ((64 * q : Nat) : Int) + 64 = ((64 * q + 64 : Nat) : Int) := by omega
        have a2 : ((64 * q : Nat) : Int) + 64 = ((64 * (q + 1) : Nat) : Int) := by omega
        have hs2 := dBlocks_succ Kl dS8 M q
        have hl64 : ((M.drop (64 * q)).take 64).length = 64 := by simp; omega
        have hk : 64 * (q + 1) - 64 * q = 64 := by omega
        have s2 := rblock_ok Kl hKl nb25 (dBlocks Kl dS8 M q) (.slice (some (slA mb mo (64 * q) cm 1)) (64 * (q + 1) - 64 * q) (cm - 64 * q)) ((M.drop (64 * q)).take 64) (by omega) (by omega)
        rw [dBlock_congr Kl _ (cs := M.drop (64 * q)) (fun i hi => getD_take _ 64 i hi), ← hs2] at s2
        refine Wp.gh (Gh.fzAlso (Ψ := fun g => RdBytes g (.slice (some (slA mb mo (64 * q) cm 1)) (64 * (q + 1) - 64 * q) (cm - 64 * q)) ((M.drop (64 * q)).take 64)) Pk.here (fun g h => by rw [hk]; exact RdBytes.sub_ h (by omega) (by omega))) ?_
        obtain ⟨S1, hS1⟩ : ∃ S, S = dBlocks Kl dS8 M (q + 1) := ⟨_, rfl⟩
        rw [← hS1] at s2
        clear hs2
        generalize dBlocks Kl dS8 M q = S0 at *
        refine Wp.seq (Wsr (Ls (Rdo.move rfl) (Ls (Rdo.move rfl) (Ls (Rdo.lenSlice rfl) (Ls (Rdo.lti rfl rfl) (Lnt (cK rfl (Wp.skip (Thn.n (Wp.seq (Wp.block ?_)))))))))))
        refine Wp.draw (by kernel_rfl) ?_
        refine Qt (i := 1) rfl (Rdo.move rfl) (Qt (i := 2) rfl (Rdo.move rfl) (Qt (i := 3) rfl (Rdo.move rfl) ?_))
        refine Qt (i := 4) rfl (Rdo.addE rfl rfl (by assumption) (by omega)) ?_
        refine Qt (i := 5) rfl (Rdo.sl_lh _ _ rfl rfl rfl rfl rfl (by omega) (by omega)) ?_
        refine Qo (i := 0) rfl (Stp.rd (Rdo.load rfl (Lds.next (Lds.next (Lds.next Ld)))) rfl ?_)
        refine Qo (i := 6) rfl (Sc (s2) rfl ?_)
        rintro _ _ ⟨rfl, rfl⟩
        refine Ql ?_
        refine Qo (i := 7) rfl (St rfl rfl (VC.ag _) ?_)
        refine WpR.done (by kernel_rfl) ?_
        refine Blk.n (Thn.n (Wp.region (Ls (Rdo.move rfl) ?_)))
        refine Ls (Rdo.addE rfl rfl (by assumption) (by omega)) ?_
        refine Ls (Rdo.assign rfl) (Lnt ?_)
        subst hS1
        exact ⟨k - 1, _, _, by omega, ⟨q + 1, by omega, rfl, rfl⟩, (by repeat (first | exact trivial | refine ⟨rfl, ?_⟩)), Gk⟩
      · have hq' : ¬ ((64 * q : Nat) : Int) < M.length := by omega
        obtain rfl : q = M.length / 64 := by omega
        generalize dBlocks Kl dS8 M (M.length / 64) = V at *
        refine Wp.seq (Wsr (Ls (Rdo.move rfl) (Ls (Rdo.move rfl) (Ls (Rdo.lenSlice rfl) (Ls (Rdo.lti rfl rfl) (Lnt (cL rfl ?_)))))))
        refine Wp.exit ?_
        refine Thn.x ?_
        refine Thn.x ?_
        refine Blk.here ?_
        refine Thn.n (Wsr ?_)
        (refine WpL.step (Stp.alloc rfl ?_); intro nb17)
        refine Lnt (Wp.seq (Wsr (Ls (Rdo.assign rfl) (Lnt (Wp.block ?_)))))
        refine Wp.loopE (fun k e h => ∃ i : Nat, i + k = 32 ∧ e = suE4 nb2 nb16 nb17 i ∧ h = suL4 nb2 nb16 nb17 V (rOut V.l i)) 32
          (e0 := suE4 nb2 nb16 nb17 0) (l0 := suL4 nb2 nb16 nb17 V (rOut V.l 0)) (by repeat (first | exact trivial | refine ⟨rfl, ?_⟩)) (by repeat (first | exact trivial | refine ⟨rfl, ?_⟩)) (by simp only [rOut, suL4, List.map_replicate]; exact Gk) ⟨0, by omega, rfl, rfl⟩ ?_
        rintro k e h ⟨i, hik, rfl, rfl⟩
        by_cases hi : i < 32
        · have hi' : (i : Int) < 32 := by omega
          have d1 : IntKind.i64.wrap ((i : Int).tdiv 4) = ((i / 4 : Nat) : Int) := by
            rw [show (i : Int).tdiv 4 = ((i / 4 : Nat) : Int) from (Int.ofNat_tdiv i 4).symm]
            simp [IntKind.wrap, IntKind.bits, IntKind.signed]
            omega
          have t1 : (i : Int).tmod 4 = ((i % 4 : Nat) : Int) := (Int.ofNat_tmod i 4).symm
          have m1 : (8 : Int) * ((i % 4 : Nat) : Int) = ((8 * (i % 4) : Nat) : Int) := by omega
          have n1 : (24 : Int) - ((8 * (i % 4) : Nat) : Int) = ((24 - 8 * (i % 4) : Nat) : Int) := by omega
          have hw : IntKind.u64.wrap ((24 - 8 * (i % 4) : Nat) : Int) = ((24 - 8 * (i % 4) : Nat) : Int) := by
            simp [IntKind.wrap, IntKind.bits, IntKind.signed]
            omega
          have hv : IntKind.u8.wrap (V.l.getD (i / 4) 0 / 2 ^ Min.min (IntKind.u64.wrap ((24 - 8 * (i % 4) : Nat) : Int)).toNat IntKind.u32.bits) = rByteAt V.l i := by
            rw [hw]
            unfold rByteAt
            by_cases h3 : i % 4 = 3
            · rw [if_pos h3, h3]
              simp
            · rw [if_neg h3]
              rfl
          have w0 := at32 V.l (i / 4) (show i / 4 < 8 by omega)
          have hlen := rOut_len V.l i
          refine Wp.seq (Wsr (Ls (Rdo.move rfl) (Ls (Rdo.lti rfl rfl) (Lnt (cK rfl (Wp.skip (Thn.n (Wp.seq (Wp.block (Wp.region (Ls (Rdo.move rfl) (Ls (Rdo.move rfl) ?_))))))))))))
          refine Ls (Rdo.quoE rfl rfl (by omega) (by assumption)) ?_
          refine Ls (Rdo.indexArr rfl rfl (by omega)) ?_
          refine Ls (Rdo.load rfl (Lds.next (Lds.one (by assumption)))) ?_
          refine Ls (Rdo.move rfl) ?_
          refine Ls (Rdo.remE rfl rfl (by omega) (by assumption)) ?_
          refine Ls (Rdo.mulE rfl rfl (by assumption) (by omega)) ?_
          refine Ls (Rdo.subE rfl rfl (by assumption) (by omega)) ?_
          refine Ls (Rdo.convInt rfl) ?_
          refine Ls (Rdo.shr rfl rfl (by omega)) ?_
          refine Ls (Rdo.convInt rfl) ?_
          refine Ls (Rdo.indexArr rfl rfl (by omega)) ?_
          rw [hv]
          refine WpL.step (Stp.storeV rfl rfl (VC.i _ _) rfl (Sts.here (oneCells1 rfl) ?_) ?_)
          · simp only [List.length_map, List.length_cons, List.length_nil, hlen]; omega
          rw [put8v _ _ _ (by rw [hlen]; exact hi)]
          refine WpL.nil (Blk.n (Thn.n (Wp.region (Ls (Rdo.move rfl) ?_))))
          refine Ls (Rdo.succ rfl rfl (by omega)) ?_
          refine Ls (Rdo.assign rfl) (Lnt ?_)
          exact ⟨k - 1, _, _, by omega, ⟨i + 1, by omega, rfl, rfl⟩, (by repeat (first | exact trivial | refine ⟨rfl, ?_⟩)), Gk⟩
        · obtain rfl : i = 32 := by omega
          have hlen := rOut_len V.l 32
          generalize rOut V.l 32 = D at *
          subst hZ
          have hlen2 : (Z.map v8).length = 32 := by rw [List.length_map]; exact hlen
          refine Wp.seq (Wsr (Ls (Rdo.move rfl) (Ls (Rdo.lti rfl rfl) (Lnt ?_))))
          refine Wp.condF rfl ?_
          refine Wp.exit ?_
          refine Thn.x ?_
          refine Thn.x ?_
          refine Blk.here ?_
          refine Thn.n (Wsr ?_)
          refine Ls (Rdo.load rfl Ld) ?_
          refine WpL.step (St rfl rfl (VC.ag _) ?_)
          refine Lnt (Wp.ret ?_)
          refine Rt (ResV.cell rfl (by repeat (first | exact Lds.one rfl | (apply Lds.all; (first | rfl | assumption | (simp <;> fail))) | exact Lds.ione0 | exact Lds.ione rfl | (apply Lds.iall; (first | rfl | assumption | (simp <;> fail))) | apply Lds.next)) ResV.nil) ⟨rfl, rfl⟩
end Go.Proofs.YtccgdnocldmjeaaGreatDoor
namespace Go.Proofs.YtccgdnocldmjeaaGreatDoor
open Go
set_option maxHeartbeats 4000000
set_option linter.unusedSimpArgs false
set_option linter.unusedVariables false
/-- Does j hang on i, through so many others? -/
def hangs (ops : Array Oper) : Nat → Nat → Nat → Bool
  | 0, _, _ => false
  | f + 1, j, i => match ops[j]? with
    | some oj => oj.after.any fun e => Region.binds .any e && (e.on == i || hangs ops f e.on i)
    | none => false
/-- What is done has all done that it hangs on. -/
def closedL (ops : Array Oper) (listed : Array Bool) : Bool :=
  (List.range ops.size).all fun k => !listed.getD k false || match ops[k]? with
    | some ok => ok.after.all fun e => !Region.binds .any e || listed.getD e.on false
    | none => true
def phaseOkT (ops : Array Oper) (fin listed : Array Bool) : Bool :=
  closedL ops listed && (List.range ops.size).all fun j => fin.getD j false || listed.getD j true || (List.range ops.size).all fun i => !fin.getD i false || listed.getD i true || hangs ops ops.size j i
theorem closedL_at {ops : Array Oper} {listed : Array Bool} (h : closedL ops listed = true) {k : Nat} (hk : listed.getD k false = true) {ok : Oper} (ho : ops[k]? = some ok) : ∀ e ∈ ok.after, Region.binds .any e = true → listed.getD e.on false = true := by
  intro e he hb
  have hlt : k < ops.size := (Array.getElem?_eq_some_iff.1 ho).1
  have h1 := List.all_eq_true.1 h k (List.mem_range.2 hlt)
  rw [hk, ho] at h1
  simp only [Bool.not_true, Bool.false_or] at h1
  have h2 := Array.all_eq_true'.1 h1 e he
  rw [hb] at h2
  simpa using h2
theorem hangs_done {ops : Array Oper} {listed : Array Bool} (hc : closedL ops listed = true) {i : Nat} : ∀ (f j : Nat), hangs ops f j i = true → (∀ oj, ops[j]? = some oj → ∀ e ∈ oj.after, Region.binds .any e = true → listed.getD e.on false = true) → listed.getD i false = true := by
  intro f
  induction f with
  | zero => intro j h; cases h
  | succ f ih =>
    intro j h hd
    unfold hangs at h
    cases ho : ops[j]? with
    | none => rw [ho] at h; cases h
    | some oj =>
      rw [ho] at h
      obtain ⟨e, he, hb⟩ := Array.any_eq_true'.1 h
      simp only [Bool.and_eq_true, Bool.or_eq_true, beq_iff_eq] at hb
      have hl := hd oj ho e he hb.1
      rcases hb.2 with h1 | h1
      · exact h1 ▸ hl
      · exact ih e.on h1 fun ok hok e' he' hb' => closedL_at hc hl hok e' he' hb'
theorem set_up {listed : Array Bool} (i j : Nat) (d : Bool) (h : listed.getD j d = true) : (listed.setIfInBounds i true).getD j d = true := by
  by_cases hij : i = j
  · subst hij
    rcases Nat.lt_or_ge i listed.size with h' | h'
    · simp [h']
    · simp [Array.getElem?_eq_none h'] at h ⊢
      exact .inr h
  · rw [getD_set_ne d hij]; exact h
theorem phaseOkT_mono {ops : Array Oper} {fin listed : Array Bool} (i : Nat) (hi : i ∈ Region.ready .any ops listed) (h : phaseOkT ops fin listed = true) : phaseOkT ops fin (listed.setIfInBounds i true) = true := by
  unfold phaseOkT at h ⊢
  simp only [Bool.and_eq_true] at h ⊢
  obtain ⟨hc, h⟩ := h
  refine ⟨List.all_eq_true.2 fun k hk => ?_, List.all_eq_true.2 fun j hj => ?_⟩
  · cases ho : ops[k]? with
    | none => simp
    | some ok =>
      cases hl : (listed.setIfInBounds i true).getD k false with
      | false => rfl
      | true =>
        simp only [Bool.not_true, Bool.false_or]
        refine Array.all_eq_true'.2 fun e he => ?_
        cases hb : Region.binds .any e with
        | false => rfl
        | true =>
          simp only [Bool.not_true, Bool.false_or]
          refine set_up i e.on false ?_
          by_cases hik : i = k
          · subst hik
            obtain ⟨_, oi, hoi, hd⟩ := mem_ready.1 hi
            rw [ho] at hoi
            cases hoi
            exact hd e he hb
          · rw [getD_set_ne false hik] at hl
            exact closedL_at hc hl ho e he hb
  · have h1 := List.all_eq_true.1 h j hj
    simp only [Bool.or_eq_true] at h1 ⊢
    rcases h1 with (h1 | h1) | h1
    · exact .inl (.inl h1)
    · exact .inl (.inr (set_up i j true h1))
    · right
      refine List.all_eq_true.2 fun q hq => ?_
      have h2 := List.all_eq_true.1 h1 q hq
      simp only [Bool.or_eq_true] at h2 ⊢
      rcases h2 with (h2 | h2) | h2
      · exact .inl (.inl h2)
      · exact .inl (.inr (set_up i q true h2))
      · exact .inr h2
theorem wpAny_phaseT {P : Program} {ops : Array Oper} {J : World → Prop} {Q : Exit → Act → World → Prop} {fin : Array Bool} {m : Nat} :
    ∀ (k : Nat) (listed : Array Bool) (a : Act) (w : World), phaseOkT ops fin listed = true → wpAnyJ P ops fin J Q (wpAnyIn Fence.wide 0 P .any ops Q m) k listed a w → wpAnyIn Fence.wide 0 P .any ops Q (k + m) listed a w := by
  have split : ∀ listed : Array Bool, phaseOkT ops fin listed = true → readyIn ops fin listed = [] ∨ Region.ready .any ops listed = readyIn ops fin listed := by
    intro listed hph
    by_cases hall : ∀ j ∈ Region.ready .any ops listed, fin.getD j false = true
    · exact .inr (List.filter_eq_self.2 hall).symm
    · left
      obtain ⟨j, hj⟩ := Classical.not_forall.1 hall
      obtain ⟨hj, hjf⟩ := Classical.not_imp.1 hj
      have hjf' : fin.getD j false = false := by simpa using hjf
      obtain ⟨hjun, oj, hoj, hdep⟩ := mem_ready.1 hj
      refine List.filter_eq_nil_iff.2 fun i hi hfi => ?_
      obtain ⟨hiun, oi, hoi, _⟩ := mem_ready.1 hi
      have hjlt : j < ops.size := (Array.getElem?_eq_some_iff.1 hoj).1
      have hilt : i < ops.size := (Array.getElem?_eq_some_iff.1 hoi).1
      unfold phaseOkT at hph
      simp only [Bool.and_eq_true] at hph
      have h1 := List.all_eq_true.1 hph.2 j (List.mem_range.2 hjlt)
      rw [hjf', Bool.false_or, hjun, Bool.false_or] at h1
      have h2 := List.all_eq_true.1 h1 i (List.mem_range.2 hilt)
      rw [hfi, Bool.not_true, Bool.false_or, hiun, Bool.false_or] at h2
      have h3 := hangs_done hph.1 _ _ h2 fun ok hok e he hb => by rw [hoj] at hok; cases hok; exact hdep e he hb
      have : listed.getD i true = true := by
        rcases Nat.lt_or_ge i listed.size with h' | h'
        · simp [h'] at h3 ⊢
          exact h3
        · simp [Array.getElem?_eq_none h']
      rw [this] at hiun
      cases hiun
  intro k
  induction k with
  | zero =>
    intro listed a w hph h
    rw [Nat.zero_add]
    exact h.2.2
  | succ k ih =>
    intro listed a w hph h
    rcases split listed hph with h0 | h0
    · exact wpAny_fuel_le (h.2.1 h0) (k + 1)
    · by_cases hn : readyIn ops fin listed = []
      · exact wpAny_fuel_le (h.2.1 hn) (k + 1)
      · rw [Nat.add_right_comm]
        refine ⟨fun hr => absurd (h0 ▸ hr) hn, fun i hi => ?_⟩
        have hi0 := hi
        rw [h0] at hi
        exact wpOpIn_mono (fun a' w' h' => ih _ a' w' (phaseOkT_mono i hi0 hph) h') (h.2.2 i hi)
/-- A phase begins, in the middle of a region. -/
theorem WpR.phaseT {P : Program} {n : Nat} {ops : Array Oper} {Q : Exit → Env → List HP → Prop} {e : Env} {l : List HP} {m : Nat} {listed : Array Bool} (fin : Array Bool) (k : Nat) (C : List HP) {l' : List HP} (hph : phaseOkT ops fin listed = true) (ht : Tk l C l')
    (h : WpA P n ops Q fin (fun listed e l => WpR P n ops Q m listed e (C ++ l)) k listed C e l') : WpR P n ops Q (k + m) listed e l := by
  unfold WpR
  unfold WpA at h
  unfold Tk at ht
  intro F w a ds hl he
  obtain ⟨rC, G, hC, hj, hl'⟩ := (ht F w hl).to_parts
  refine wpAny_phaseT (J := fun w => Sat w G) k listed a w hph (wpAnyJ_K (fun _ _ _ h => h) ?_ _ _ _ _ (h rC F G w w a ds hC hj hl' (Ext.refl w) he))
  rintro li a' w' ⟨e', l'', he', hl'', hx, hK⟩
  unfold WpR at hK
  exact wpAny_Q (fun x a w hq => SPost.mono hx (fun _ _ _ h => h) hq) _ _ _ _ (hK F w' a' ds (Holds.of_parts hC hj hl'') he')
end Go.Proofs.YtccgdnocldmjeaaGreatDoor
namespace Go.Proofs.YtccgdnocldmjeaaGreatDoor
open Go
set_option maxHeartbeats 4000000
set_option linter.unusedSimpArgs false
set_option linter.unusedVariables false
end Go.Proofs.YtccgdnocldmjeaaGreatDoor
namespace Go.Proofs.YtccgdnocldmjeaaGreatDoor
open Go
set_option maxHeartbeats 4000000
set_option linter.unusedSimpArgs false
set_option linter.unusedVariables false
set_option maxRecDepth 20000
/-- An operation. -/
structure Op where
  kind : Int
  client : Int
  seq : Int
  name : List UInt8
  producer : Int
  epoch : Int
  txn : Int
  part : Int
  commit : Bool
  deriving DecidableEq
abbrev opC (o : Go.Proofs.YtccgdnocldmjeaaGreatDoor.Op) : List Value := [vi o.kind, vi o.client, vi o.seq, vs o.name, vi o.producer, vi o.epoch, vi o.txn, vi o.part, vb o.commit]
abbrev op0 : Go.Proofs.YtccgdnocldmjeaaGreatDoor.Op := ⟨0, 0, 0, [], 0, 0, 0, 0, false⟩
structure Mark where
  kind : Int
  producer : Int
  epoch : Int
  txn : Int
  deriving DecidableEq
structure Rep where
  err : Int
  producer : Int
  epoch : Int
  deriving DecidableEq
structure Prod where
  name : List UInt8
  epoch : Int
  last : Int
  opn : Bool
  parts : List Int
  began : Int
abbrev markC (m : Mark) : List Value := [vi m.kind, vi m.producer, vi m.epoch, vi m.txn]
abbrev markV (m : Mark) : Value := .agg (markC m).toArray
abbrev askC (k : Int × Int) : List Value := [vi k.1, vi k.2]
abbrev askV (k : Int × Int) : Value := .agg (askC k).toArray
theorem markC_inj (a b : Mark) : markC a = markC b ↔ a = b := by
  constructor
  · intro h
    obtain ⟨a1, a2, a3, a4⟩ := a
    obtain ⟨b1, b2, b3, b4⟩ := b
    simpa [markC] using h
  · rintro rfl
    rfl
theorem askC_inj (a b : Int × Int) : askC a = askC b ↔ a = b := by
  constructor
  · intro h
    obtain ⟨a1, a2⟩ := a
    obtain ⟨b1, b2⟩ := b
    simpa [askC] using h
  · rintro rfl
    rfl
instance keyMark : KeyT Tryz.prog 61 markV := keyS (inferInstance : CKS Tryz.prog 61 _) (fun k => rfl) markC_inj (by kernel_rfl) (fun e k w => by rfl) (fun k => by simp [Instr.sameBits])
instance keyAsk : KeyT Tryz.prog 53 askV := keyS (inferInstance : CKS Tryz.prog 53 _) (fun k => rfl) askC_inj (by kernel_rfl) (fun e k w => by rfl) (fun k => by simp [Instr.sameBits])
/-- The table of producers. -/
def tabE (k : Nat) : List Nat → List (Int × Value)
  | [] => []
  | q :: qs => ((k : Int), vp q 0) :: tabE (k + 1) qs
theorem tabE_append (k : Nat) (qs : List Nat) (q : Nat) : tabE k (qs ++ [q]) = tabE k qs ++ [(((k + qs.length : Nat) : Int), vp q 0)] := by
  induction qs generalizing k with
  | nil => simp [tabE]
  | cons a qs ih => simp [tabE, ih, Nat.add_assoc, Nat.add_comm 1]
theorem tabE_look (k : Nat) (qs : List Nat) (n : Int) : alook (tabE k qs) n = if k ≤ n ∧ n < k + qs.length then (qs[n.toNat - k]?).map fun q => vp q 0 else none := by
  induction qs generalizing k with
  | nil =>
    rw [if_neg (by simp)]
    rfl
  | cons q qs ih =>
    simp only [tabE, alook]
    by_cases h : (k : Int) = n
    · subst h
      rw [if_pos rfl, if_pos (by simp; omega)]
      simp
    · rw [if_neg h, ih]
      by_cases h2 : (k : Int) ≤ n ∧ n < k + (q :: qs).length
      · have h3 : ((k + 1 : Nat) : Int) ≤ n ∧ n < ((k + 1 : Nat) : Int) + qs.length := by simp at h2 ⊢; omega
        rw [if_pos h2, if_pos h3]
        have h4 : n.toNat - k = (n.toNat - (k + 1)) + 1 := by omega
        rw [h4]
        simp
      · rw [if_neg h2, if_neg (by simp at h2 ⊢; omega)]
theorem tabE_set (qs : List Nat) (q : Nat) : aset (tabE 0 qs) (qs.length : Int) (vp q 0) = tabE 0 (qs ++ [q]) := by
  rw [aset_new, tabE_append]
  · simp
  · rw [tabE_look, if_neg (by omega)]
theorem tabE_keys (k : Nat) (qs : List Nat) : (akeys (tabE k qs)).Pairwise (· ≤ ·) := by
  induction qs generalizing k with
  | nil => exact List.Pairwise.nil
  | cons q qs ih =>
    simp only [tabE, akeys, List.map_cons, List.pairwise_cons]
    refine ⟨fun x hx => ?_, ih (k + 1)⟩
    have : alook (tabE (k + 1) qs) x ≠ none := fun h => alook_none.1 h hx
    rw [tabE_look] at this
    by_cases h : ((k + 1 : Nat) : Int) ≤ x ∧ x < ((k + 1 : Nat) : Int) + qs.length
    · omega
    · rw [if_neg h] at this; exact absurd rfl this
theorem tabE_length (k : Nat) (qs : List Nat) : (tabE k qs).length = qs.length := by
  induction qs generalizing k with
  | nil => rfl
  | cons q qs ih => simp [tabE, ih]
abbrev prodC (p : Prod) (v : Value) : List Value := [vs p.name, vi p.epoch, vi p.last, vb p.opn, v, vi p.began]
def pmA (v : Value) (opn : Bool) (parts : List Int) : HP :=
  if opn then exH fun mb : Nat => starH [pureH (v = .map (some mb)), mapA i64 mb (parts.map fun k => (k, vb true))] else pureH (v = .map none)
def prodA (q : Nat) (p : Prod) : HP := exH fun v : Value => starH [cel q 84 (prodC p v), pmA v p.opn p.parts]
def prodsA (qs : List Nat) (ps : List Prod) : HP := starH ((qs.zip ps).map fun x => prodA x.1 x.2)
structure CoS where
  prods : List Prod
  marks : List Mark
  decided : List Mark
  answers : List ((Int × Int) × Rep)
  now : Int
def CoS.new : CoS := ⟨[], [], [], [], 0⟩
abbrev repC (r : Rep) : List Value := [vi r.err, vi r.producer, vi r.epoch]
structure CoM where
  tb : Nat
  mb : Nat
  db : Nat
  ab : Nat
  qs : List Nat
  mv : Value
abbrev coC (c : CoS) (m : CoM) : List Value := [vp m.tb 0, m.mv, .map (some m.db), .map (some m.ab), vi c.now]
abbrev coL (b : Nat) (c : CoS) (m : CoM) : List HP :=
  [cel b 48 (coC c m), cel m.tb 74 [.map (some m.mb)], mapA i64 m.mb (tabE 0 m.qs), prodsA m.qs c.prods,
   rowA 61 4 m.mv c.marks.length (c.marks.map markC).flatten, mapA markV m.db (c.decided.map fun k => (k, vb true)), mapA askV m.ab (c.answers.map fun x => (x.1, .agg (repC x.2).toArray)), pureH (m.qs.length = c.prods.length)]
def coA (b : Nat) (c : CoS) : HP := exH fun m : CoM => starH (coL b c m)
end Go.Proofs.YtccgdnocldmjeaaGreatDoor
namespace Go.Proofs.YtccgdnocldmjeaaGreatDoor
open Go
set_option maxHeartbeats 4000000
set_option linter.unusedSimpArgs false
set_option linter.unusedVariables false
set_option maxRecDepth 20000
theorem mapA_nil {κ κ' : Type} {enc : κ → Value} {enc' : κ' → Value} {b : Nat} : mapA enc b [] = mapA enc' b [] := by
  funext r
  unfold mapA
  refine propext ⟨?_, ?_⟩
  · rintro ⟨bs, clock, ⟨h1, h2, h3, h4⟩, h5⟩
    exact ⟨bs, clock, ⟨h1, h2, h3, List.nodup_nil⟩, h5⟩
  · rintro ⟨bs, clock, ⟨h1, h2, h3, h4⟩, h5⟩
    exact ⟨bs, clock, ⟨h1, h2, h3, List.nodup_nil⟩, h5⟩
theorem new_ok : Trip Tryz.prog 5 [] [] (fun r l => ∃ b, r = vp b 0 ∧ l = [coA b CoS.new]) := by
  have s1 := Tabprod.new_ok
  refine Trip.of_body Tryz.func5 rfl Tryz.ntmps5 Tryz.results5 rfl ?_
  refine Wsr (Ls (Rdo.assign rfl) (Lnt (Wsr ?_)))
  refine WpL.step (Sc (s1) rfl ?_)
  rintro _ _ ⟨v8_0, ⟨v8_1, ⟨rfl, rfl⟩⟩⟩
  refine Ll ?_
  (refine WpL.step (Stp.makeMap0 i64 rfl ?_); intro nb10)
  (refine WpL.step (Stp.makeMap0 i64 rfl ?_); intro nb11)
  refine Ls (Rdo.bld rfl (BldL.cons rfl (VC.p _) (by first | rfl | assumption | (simp <;> done)) (by repeat (first | exact LPut.nil _ | apply LPut.here | apply LPut.next)) (BldL.cons rfl (VC.m _) (by first | rfl | assumption | (simp <;> done)) (by repeat (first | exact LPut.nil _ | apply LPut.here | apply LPut.next)) (BldL.cons rfl (VC.m _) (by first | rfl | assumption | (simp <;> done)) (by repeat (first | exact LPut.nil _ | apply LPut.here | apply LPut.next)) (BldL.nil _))))) ?_
  (refine WpL.step (Stp.boxV rfl (VC.ag _) rfl ?_); intro nb13)
  refine Ls (Rdo.assign rfl) (Lnt (Wp.ret ?_))
  refine Ret.now (by repeat (first | exact ResV.nil | apply ResV.tmp rfl | apply ResV.cell rfl (by repeat (first | exact Lds.one rfl | (apply Lds.all; (first | rfl | assumption | (simp <;> fail))) | exact Lds.ione0 | exact Lds.ione rfl | (apply Lds.iall; (first | rfl | assumption | (simp <;> fail))) | apply Lds.next)))) (Gh.trans (Gh.nil 61 4) ?_) ⟨nb13, rfl, rfl⟩
  rw [mapA_nil (b := nb11) (enc := i64) (enc' := askV), mapA_nil (b := nb10) (enc := i64) (enc' := markV)]
  refine Gh.mk fun F w hl => ?_
  have h2 := Holds.shut_pure (φ := ([] : List Nat).length = ([] : List Prod).length) rfl hl
  have h3 : Gh (pureH (([] : List Nat).length = ([] : List Prod).length) :: [rowA 61 4 (.slice none 0 0) 0 [], cel nb13 48 [.pointer (some ⟨v8_0, 0, none⟩), .slice none 0 0, .map (some nb10), .map (some nb11), .int .i64 0], mapA askV nb11 [], mapA markV nb10 [], cel v8_0 74 [.map (some v8_1)], mapA i64 v8_1 []]) [coA nb13 CoS.new] := by
    have hp : ∀ l, Gh l (prodsA [] [] :: l) := fun l => Gh.mk fun F w h => Holds.shut_star (l := []) h
    refine Gh.trans (hp _) ?_
    have g := Gh.shut (rest := []) (l := [cel nb13 48 [.pointer (some ⟨v8_0, 0, none⟩), .slice none 0 0, .map (some nb10), .map (some nb11), .int .i64 0], cel v8_0 74 [.map (some v8_1)], mapA i64 v8_1 [], prodsA [] [], rowA 61 4 (.slice none 0 0) 0 [], mapA markV nb10 [], mapA askV nb11 [], pureH (([] : List Nat).length = ([] : List Prod).length)])
      (f := coL nb13 CoS.new) ⟨v8_0, v8_1, nb10, nb11, [], .slice none 0 0⟩ (Tk.cons Pk.here (Tk.cons Pk.here (Tk.cons Pk.here (Tk.cons Pk.here (Tk.cons Pk.here (Tk.cons Pk.here (Tk.cons Pk.here (Tk.cons Pk.here Tk.nil))))))))
    exact Gh.trans Gk g
  exact h3.use h2
end Go.Proofs.YtccgdnocldmjeaaGreatDoor
namespace Go.Proofs.YtccgdnocldmjeaaGreatDoor
open Go
set_option maxHeartbeats 4000000
set_option linter.unusedSimpArgs false
set_option linter.unusedVariables false
set_option maxRecDepth 20000
abbrev coX (b : Nat) (c : CoS) (m : CoM) : List HP :=
  [cel b 48 (coC c m), cel m.tb 74 [.map (some m.mb)], mapA i64 m.mb (tabE 0 m.qs), prodsA m.qs c.prods,
   rowA 61 4 m.mv c.marks.length (c.marks.map markC).flatten, mapA markV m.db (c.decided.map fun k => (k, vb true)), mapA askV m.ab (c.answers.map fun x => (x.1, .agg (repC x.2).toArray))]
theorem coA_open {l : List HP} {b : Nat} {c : CoS} : GhE (coA b c :: l) (fun m : CoM => m.qs.length = c.prods.length) (fun m => coX b c m ++ l) := by
  unfold coA
  refine GhE.mk fun F w hl => ?_
  obtain ⟨m, _, h⟩ := (GhE.open_ (f := coL b c) Pk.here).use hl
  have h2 : Holds (pureH (m.qs.length = c.prods.length) :: (coX b c m ++ l)) F w := h.perm (List.perm_middle (l₁ := [_, _, _, _, _, _, _]))
  obtain ⟨h3, h4⟩ := h2.open_pure
  exact ⟨m, h3, h4⟩
theorem coA_shut {l : List HP} {b : Nat} {c : CoS} (m : CoM) (hq : m.qs.length = c.prods.length) : Gh (coX b c m ++ l) (coA b c :: l) := by
  unfold coA
  refine Gh.mk fun F w hl => ?_
  have h2 := Holds.shut_pure (φ := m.qs.length = c.prods.length) hq hl
  exact (Gh.shut (f := coL b c) m (Tk.mk fun F w h => h.perm (List.perm_middle (l₁ := [_, _, _, _, _, _, _])).symm)).use h2
theorem now_ok (b : Nat) (c : CoS) : Trip Tryz.prog 18 [vp b 0] [coA b c] (fun r l => r = vi c.now ∧ l = [coA b c]) := by
  refine Trip.ghE coA_open ?_
  rintro m hm
  simp only [coX, List.cons_append, List.nil_append]
  refine Trip.of_body Tryz.func18 rfl Tryz.ntmps18 Tryz.results18 rfl ?_
  refine Wsr (Ls (Rdo.assign rfl) (Lnt (Wp.seq (Wsr (Ls (Rdo.move rfl) (Ls (Rdo.eqnil rfl rfl) (Lnt ?_)))))))
  refine Wp.condF rfl ?_
  refine Wp.skip (Thn.n (Wsr (Ls (Rdo.move rfl) (Ls (Rdo.nilCheck rfl) (Ls (Rdo.fieldAddr0 rfl) (Ls (Rdo.load rfl (Lds.one rfl)) (Ls (Rdo.assign rfl) (Lnt (Wp.ret ?_)))))))))
  refine Ret.now (ResV.tmp rfl ResV.nil) ?_ ⟨rfl, rfl⟩
  exact Gh.trans Gk (coA_shut (l := []) m hm)
theorem told_ok (b : Nat) (t : TypeId) (v0 v1 v2 v3 v4 : Value) (ms : List Mark) (m : Mark) (hl : ms.length ≤ 1000000) :
    Trip Tryz.prog 57 [vp b 0, markV m] [cel b t [v0, v1, v2, v3, v4], rowA 61 4 v1 ms.length (ms.map markC).flatten]
      (fun r l => ∃ v1' nb, r = .slice (some ⟨nb, 0, none⟩) 1 1 ∧ l = [cel b t [v0, v1', v2, v3, v4], rowA 61 4 v1' (ms ++ [m]).length ((ms ++ [m]).map markC).flatten, cel nb 61 (markC m)]) := by
  refine Trip.get (Pk.next Pk.here) (fun r => rowA_shape) ?_
  rintro ⟨p, c, rfl⟩
  refine Trip.of_body Tryz.func57 rfl Tryz.ntmps57 Tryz.results57 rfl ?_
  refine Wsr ?_
  (refine WpL.step (Stp.boxV rfl (VC.ag _) rfl ?_); intro nb2)
  refine Ls (Rdo.assign rfl) (Lnt (Wp.seq ?_))
  refine Wp.draw (by kernel_rfl) ?_
  refine Qt (i := 0) rfl (Rdo.move rfl) (Qt (i := 1) rfl (Rdo.move rfl) (Qt (i := 2) rfl (Rdo.nilCheck rfl) (Qt (i := 3) rfl (Rdo.fieldAddr0 rfl) ?_)))
  refine WpR.load (i := 5) [4] rfl (by kernel_rfl) (by kernel_rfl) (by kernel_rfl) (by kernel_rfl) (by kernel_rfl) rfl Tk.rfl_ (Harm.rd rfl (Rdo.load rfl (Lds.next (Lds.one rfl))) Harm.nil) (Rdo.load rfl Ld) rfl ?_
  refine WpR.phaseL (m := 3) #[true, true, true, true, true, true, true, true, false, false, false] 3 _ rfl (by kernel_rfl) (Tk.cons (Pk.next Pk.here) Tk.nil) ?_
  refine At (i := 4) rfl (Rdo.load rfl (Lds.one rfl)) ?_
  (refine WpA.one (i := 6) rfl (by kernel_rfl) (Stp.sliceV rfl rfl (VCs.cons (VC.ag _) (by first | rfl | assumption | (simp <;> done)) VCs.nil) (by simp only [List.cons_append, List.nil_append, List.append_nil]; exact rfl) rfl rfl ?_); intro nb15)
  (refine WpA.one (i := 7) rfl (by kernel_rfl) (Stp.appendP rfl rfl (Pk.next (Pk.next Pk.here)) (Src.cel (by first | rfl | (simp <;> done) | (simp <;> omega))) (by first | rfl | (simp <;> done) | (simp <;> omega)) (by first | assumption | exact oneCells1 rfl | exact oneCells1 (by assumption) | exact oneCells_bytesC _ | exact oneCells_votesC _ | (simp [oneCells, Value.oneCell'] <;> done)) (by first | omega | (simp <;> omega)) (by first | omega | (simp <;> omega)) rfl (by first | rfl | (simp <;> done)) ?_); intro na16 nc16)
  refine WpA.stop (by kernel_rfl) ?_
  refine Ql ?_
  refine Qt (i := 8) rfl (Rdo.nilCheck rfl) (Qt (i := 9) rfl (Rdo.fieldAddr0 rfl) ?_)
  refine Qo (i := 10) rfl (Stp.storeV rfl rfl (VC.sl _ _ _) rfl (Sp (oneCells1 rfl)) ?_)
  refine WpR.done (by kernel_rfl) ?_
  refine Thn.n (Wsr ?_)
  refine Ls (Rdo.load rfl (Lds.next (Lds.next (Lds.next Ld)))) ?_
  (refine WpL.step (Stp.sliceV rfl rfl (VCs.cons (VC.ag _) (by first | rfl | assumption | (simp <;> done)) VCs.nil) (by simp only [List.cons_append, List.nil_append, List.append_nil]; exact rfl) rfl rfl ?_); intro nb27)
  refine Ls (Rdo.assign rfl) (Lnt (Wp.ret ?_))
  have h1 : (ms ++ [m]).length = ms.length + 1 := by simp
  have h2 : ((ms ++ [m]).map markC).flatten = (ms.map markC).flatten ++ markC m := by simp
  simp only [h1, h2]
  refine Rt (by repeat (first | exact ResV.nil | apply ResV.tmp rfl | apply ResV.cell rfl (by repeat (first | exact Lds.one rfl | (apply Lds.all; (first | rfl | assumption | (simp <;> fail))) | exact Lds.ione0 | exact Lds.ione rfl | (apply Lds.iall; (first | rfl | assumption | (simp <;> fail))) | apply Lds.next)))) ⟨.slice na16 (ms.length + 1 : Nat) nc16, nb27, rfl, rfl⟩
theorem decides_ok (b q : Nat) (t : TypeId) (v0 v1 v3 v4 pv : Value) (db : Nat) (ms : List Mark) (ds : List Mark) (n kind : Int) (p : Prod) (hl : ms.length ≤ 1000000) :
    Trip Tryz.prog 56 [vp b 0, vi n, vp q 0, vi kind] [cel b t [v0, v1, .map (some db), v3, v4], rowA 61 4 v1 ms.length (ms.map markC).flatten, mapA markV db (ds.map fun k => (k, vb true)), cel q 84 (prodC p pv)]
      (fun r l => ∃ v1' nb, r = .slice (some ⟨nb, 0, none⟩) 1 1 ∧ l = [cel b t [v0, v1', .map (some db), v3, v4], rowA 61 4 v1' (ms ++ [(⟨kind, n, p.epoch, p.last⟩ : Mark)]).length ((ms ++ [(⟨kind, n, p.epoch, p.last⟩ : Mark)]).map markC).flatten, cel nb 61 (markC ⟨kind, n, p.epoch, p.last⟩),
        mapA markV db (aset (ds.map fun k => (k, vb true)) ⟨kind, n, p.epoch, p.last⟩ (vb true)), cel q 84 (prodC { p with opn := false } (.map none))]) := by
  have s1 := fun v => told_ok b t v0 v1 (.map (some db)) v v4 ms ⟨kind, n, p.epoch, p.last⟩ hl
  refine Trip.of_body Tryz.func56 rfl Tryz.ntmps56 Tryz.results56 rfl ?_
  refine Wsr (Ls (Rdo.assign rfl) (Lnt (Wp.seq ?_)))
  refine Wp.draw (by kernel_rfl) ?_
  refine Qt (i := 0) rfl (Rdo.move rfl) (Qt (i := 1) rfl (Rdo.move rfl) (Qt (i := 2) rfl (Rdo.move rfl) (Qt (i := 3) rfl (Rdo.nilCheck rfl) (Qt (i := 4) rfl (Rdo.fieldAddr0 rfl) (Qt (i := 6) rfl (Rdo.move rfl) (Qt (i := 7) rfl (Rdo.nilCheck rfl) (Qt (i := 8) rfl (Rdo.fieldAddr0 rfl) ?_)))))))
  refine WpR.load (i := 5) [9, 11] rfl (by kernel_rfl) (by kernel_rfl) (by kernel_rfl) (by kernel_rfl) (by kernel_rfl) rfl Tk.rfl_ (Harm.rd rfl (Rdo.load rfl (Lds.next (Lds.next (Lds.next (Lds.one rfl))))) (Harm.al rfl inferInstance Harm.nil)) (Rdo.load rfl (Lds.next (Lds.next (Lds.next (Lds.one rfl))))) rfl ?_
  refine WpR.load (i := 9) [11] rfl (by kernel_rfl) (by kernel_rfl) (by kernel_rfl) (by kernel_rfl) (by kernel_rfl) rfl Tk.rfl_ (Harm.al rfl inferInstance Harm.nil) (Rdo.load rfl (Lds.next (Lds.next (Lds.next (Lds.one rfl))))) rfl ?_
  refine Qt (i := 10) rfl (Rdo.bld rfl (BldL.cons rfl (VC.i _ _) (by first | rfl | assumption | (simp <;> done)) (by repeat (first | exact LPut.nil _ | apply LPut.here | apply LPut.next)) (BldL.cons rfl (VC.i _ _) (by first | rfl | assumption | (simp <;> done)) (by repeat (first | exact LPut.nil _ | apply LPut.here | apply LPut.next)) (BldL.cons rfl (VC.i _ _) (by first | rfl | assumption | (simp <;> done)) (by repeat (first | exact LPut.nil _ | apply LPut.here | apply LPut.next)) (BldL.cons rfl (VC.i _ _) (by first | rfl | assumption | (simp <;> done)) (by repeat (first | exact LPut.nil _ | apply LPut.here | apply LPut.next)) (BldL.nil _)))))) ?_
  (refine Qo (i := 11) rfl (Stp.alloc rfl ?_); intro nb18)
  refine Qo (i := 12) rfl (St rfl rfl (VC.ag _) ?_)
  refine WpR.done (by kernel_rfl) ?_
  refine Thn.n (Wsr (Ls (Rdo.move rfl) (Ls (Rdo.move rfl) (Ls (Rdo.nilCheck rfl) (Ls (Rdo.fieldAddr0 rfl) ?_)))))
  refine WpL.step (Stp.storeV rfl rfl (VC.b _) rfl (Sts.next (Sts.next (Sts.next (Sts.next (Sp (oneCells1 rfl)))))) ?_)
  refine Ls (Rdo.nilCheck rfl) (Ls (Rdo.fieldAddr0 rfl) ?_)
  refine WpL.step (Stp.storeV rfl rfl (VC.m _) rfl (Sts.next (Sts.next (Sts.next (Sts.next (Sp (oneCells1 rfl)))))) ?_)
  refine Lnt (Wp.seq ?_)
  refine Wp.draw (by kernel_rfl) ?_
  refine Qt (i := 0) rfl (Rdo.move rfl) (Qt (i := 1) rfl (Rdo.nilCheck rfl) (Qt (i := 2) rfl (Rdo.fieldAddr0 rfl) ?_))
  refine WpR.phaseL (m := 1) #[true, true, true, true, true, false] 2 _ rfl (by kernel_rfl) Tk.rfl_ ?_
  refine At (i := 3) rfl (Rdo.load rfl (Lds.next (Lds.one rfl))) ?_
  refine At (i := 4) rfl (Rdo.load rfl Ld) ?_
  refine WpA.stop (by kernel_rfl) ?_
  refine WpR.lst (by simp only [List.cons_append, List.nil_append, List.append_nil]; exact rfl) ?_
  refine Qo (i := 5) rfl (Stp.mapUpdate (enc := markV) (k := (⟨kind, n, p.epoch, p.last⟩ : Mark)) rfl rfl rfl (Pk.next (Pk.next (Pk.next Pk.here))) ?_)
  refine WpR.done (by kernel_rfl) ?_
  refine Thn.n (Wsr (Ls (Rdo.move rfl) ?_))
  refine Ls (Rdo.load rfl (Lds.next Ld)) ?_
  refine WpL.step (Sc (s1 _) rfl ?_)
  rintro _ _ ⟨v7_0, ⟨v7_1, ⟨rfl, rfl⟩⟩⟩
  refine Ll ?_
  refine Ls (Rdo.assign rfl) (Lnt (Wp.ret ?_))
  refine Rt (ResV.tmp rfl ResV.nil) ⟨_, ⟨_, ⟨rfl, rfl⟩⟩⟩
end Go.Proofs.YtccgdnocldmjeaaGreatDoor
namespace Go.Proofs.YtccgdnocldmjeaaGreatDoor
open Go
set_option maxHeartbeats 4000000
set_option linter.unusedSimpArgs false
set_option linter.unusedVariables false
set_option maxRecDepth 20000
theorem adds_in (b q mb : Nat) (t : TypeId) (v0 v1 v2 v3 v4 : Value) (o : Go.Proofs.YtccgdnocldmjeaaGreatDoor.Op) (p : Prod) (es : List (Int × Value)) (h1 : p.opn = true) (h2 : o.txn = p.last) :
    Trip Tryz.prog 32 [vp b 0, .agg (opC o).toArray, vp q 0] [cel b t [v0, v1, v2, v3, v4], cel q 84 (prodC p (.map (some mb))), mapA i64 mb es]
      (fun r l => r = vi 0 ∧ l = [cel b t [v0, v1, v2, v3, v4], cel q 84 (prodC p (.map (some mb))), mapA i64 mb (aset es o.part (vb true))]) := by
  refine Trip.of_body Tryz.func32 rfl Tryz.ntmps32 Tryz.results32 rfl ?_
  refine Wsr ?_
  (refine WpL.step (Stp.boxV rfl (VC.ag _) rfl ?_); intro nb2)
  refine Ls (Rdo.assign rfl) (Lnt (Wp.seq (Wp.block (Wp.seq ?_))))
  refine Wp.draw (by kernel_rfl) ?_
  refine Qt (i := 0) rfl (Rdo.move rfl) (Qt (i := 1) rfl (Rdo.nilCheck rfl) (Qt (i := 2) rfl (Rdo.fieldAddr0 rfl) ?_))
  refine Qo (i := 3) rfl (Stp.rd (Rdo.load rfl (Lds.next (Lds.next (Lds.one rfl)))) rfl ?_)
  refine Qt (i := 4) rfl (Rdo.move rfl) ?_
  refine WpR.tT 31 rfl (by first | rfl | assumption | (simp only [decide_eq_true_eq, decide_eq_false_iff_not, Bool.not_eq_true', Bool.not_eq_false', List.length_cons, List.length_nil]; first | assumption | omega) | (simp <;> done) | (simp <;> omega)) ?_
  refine Qw (i := 5) rfl rfl rfl (Rdo.fieldAddr0 rfl) (Qw (i := 7) rfl rfl rfl (Rdo.move rfl) (Qw (i := 8) rfl rfl rfl (Rdo.nilCheck rfl) (Qw (i := 9) rfl rfl rfl (Rdo.fieldAddr0 rfl) ?_)))
  refine WpR.phaseL (m := 0) #[true, true, true, true, true, true, true, true, true, true, true, true, true, true] 5 _ rfl (by kernel_rfl) (Tk.cons Pk.here (Tk.cons (Pk.next Pk.here) Tk.nil)) ?_
  refine Aw (i := 6) rfl rfl rfl (Rdo.load rfl (Lds.one rfl)) (Aw (i := 10) rfl rfl rfl (Rdo.load rfl (Lds.next (Lds.one rfl))) (Aw (i := 11) rfl rfl rfl (Rdo.eqi rfl rfl) (At (i := 12) rfl (Rdo.pick_t rfl rfl) (At (i := 13) rfl (Rdo.assign rfl) ?_))))
  refine WpA.stop (by kernel_rfl) ?_
  refine Ql ?_
  refine WpR.done (by kernel_rfl) ?_
  refine Thn.n (cK rfl (Wp.skip (Blk.n (Thn.n (Wp.seq ?_)))))
  refine Wp.draw (by kernel_rfl) ?_
  refine Qt (i := 0) rfl (Rdo.move rfl) (Qt (i := 1) rfl (Rdo.nilCheck rfl) (Qt (i := 2) rfl (Rdo.fieldAddr0 rfl) (Qt (i := 4) rfl (Rdo.fieldAddr0 rfl) ?_)))
  refine WpR.phaseL (m := 1) #[true, true, true, true, true, true, false] 2 _ rfl (by kernel_rfl) Tk.rfl_ ?_
  refine At (i := 3) rfl (Rdo.load rfl (Lds.next (Lds.one rfl))) (At (i := 5) rfl (Rdo.load rfl (Lds.one rfl)) ?_)
  refine WpA.stop (by kernel_rfl) ?_
  refine WpR.lst (by simp only [List.cons_append, List.nil_append, List.append_nil]; exact rfl) ?_
  refine Qo (i := 6) rfl (Stp.mapUpdate rfl rfl rfl (by repeat (first | exact Pk.here | apply Pk.next)) ?_)
  refine WpR.done (by kernel_rfl) ?_
  refine Thn.n (Wsr (Ls (Rdo.assign rfl) (Lnt (Wp.ret ?_))))
  refine Rt (ResV.tmp rfl ResV.nil) ⟨rfl, rfl⟩
theorem adds_open (b q : Nat) (t : TypeId) (v0 v1 v2 v3 v4 v : Value) (o : Go.Proofs.YtccgdnocldmjeaaGreatDoor.Op) (p : Prod) (h1 : p.opn = true) (h2 : ¬ o.txn = p.last) :
    Trip Tryz.prog 32 [vp b 0, .agg (opC o).toArray, vp q 0] [cel b t [v0, v1, v2, v3, v4], cel q 84 (prodC p v)]
      (fun r l => r = vi 6 ∧ l = [cel b t [v0, v1, v2, v3, v4], cel q 84 (prodC p v)]) := by
  refine Trip.of_body Tryz.func32 rfl Tryz.ntmps32 Tryz.results32 rfl ?_
  refine Wsr ?_
  (refine WpL.step (Stp.boxV rfl (VC.ag _) rfl ?_); intro nb2)
  refine Ls (Rdo.assign rfl) (Lnt (Wp.seq (Wp.block (Wp.seq ?_))))
  refine Wp.draw (by kernel_rfl) ?_
  refine Qt (i := 0) rfl (Rdo.move rfl) (Qt (i := 1) rfl (Rdo.nilCheck rfl) (Qt (i := 2) rfl (Rdo.fieldAddr0 rfl) ?_))
  refine Qo (i := 3) rfl (Stp.rd (Rdo.load rfl (Lds.next (Lds.next (Lds.one rfl)))) rfl ?_)
  refine Qt (i := 4) rfl (Rdo.move rfl) ?_
  refine WpR.tT 31 rfl (by first | rfl | assumption | (simp only [decide_eq_true_eq, decide_eq_false_iff_not, Bool.not_eq_true', Bool.not_eq_false', List.length_cons, List.length_nil]; first | assumption | omega) | (simp <;> done) | (simp <;> omega)) ?_
  refine Qw (i := 5) rfl rfl rfl (Rdo.fieldAddr0 rfl) (Qw (i := 7) rfl rfl rfl (Rdo.move rfl) (Qw (i := 8) rfl rfl rfl (Rdo.nilCheck rfl) (Qw (i := 9) rfl rfl rfl (Rdo.fieldAddr0 rfl) ?_)))
  refine WpR.phaseL (m := 0) #[true, true, true, true, true, true, true, true, true, true, true, true, true, true] 5 _ rfl (by kernel_rfl) (Tk.cons Pk.here (Tk.cons (Pk.next Pk.here) Tk.nil)) ?_
  refine Aw (i := 6) rfl rfl rfl (Rdo.load rfl (Lds.one rfl)) (Aw (i := 10) rfl rfl rfl (Rdo.load rfl (Lds.next (Lds.one rfl))) (Aw (i := 11) rfl rfl rfl (Rdo.eqi rfl rfl) (At (i := 12) rfl (Rdo.pick_t rfl rfl) (At (i := 13) rfl (Rdo.assign rfl) ?_))))
  refine WpA.stop (by kernel_rfl) ?_
  refine Ql ?_
  refine WpR.done (by kernel_rfl) ?_
  refine Thn.n (cL rfl (Wsr (Ls (Rdo.move rfl) (Ls (Rdo.nilCheck rfl) (Ls (Rdo.fieldAddr0 rfl) (Ls (Rdo.load rfl (Lds.next (Lds.one rfl))) (Ls (Rdo.assign rfl) (Lnt (cK rfl (Wsr (Ls (Rdo.assign rfl) (Lnt (Wp.ret ?_)))))))))))))
  refine Blk.r ?_
  refine Thn.r ?_
  refine Rt (ResV.tmp rfl ResV.nil) ⟨rfl, rfl⟩
theorem adds_used (b q : Nat) (t : TypeId) (v0 v1 v2 v3 v4 v : Value) (o : Go.Proofs.YtccgdnocldmjeaaGreatDoor.Op) (p : Prod) (h1 : p.opn = false) (h2 : 100 ≤ p.last) :
    Trip Tryz.prog 32 [vp b 0, .agg (opC o).toArray, vp q 0] [cel b t [v0, v1, v2, v3, v4], cel q 84 (prodC p v)]
      (fun r l => r = vi 7 ∧ l = [cel b t [v0, v1, v2, v3, v4], cel q 84 (prodC p v)]) := by
  refine Trip.of_body Tryz.func32 rfl Tryz.ntmps32 Tryz.results32 rfl ?_
  refine Wsr ?_
  (refine WpL.step (Stp.boxV rfl (VC.ag _) rfl ?_); intro nb2)
  refine Ls (Rdo.assign rfl) (Lnt (Wp.seq (Wp.block (Wp.seq ?_))))
  refine Wp.draw (by kernel_rfl) ?_
  refine Qt (i := 0) rfl (Rdo.move rfl) (Qt (i := 1) rfl (Rdo.nilCheck rfl) (Qt (i := 2) rfl (Rdo.fieldAddr0 rfl) ?_))
  refine Qo (i := 3) rfl (Stp.rd (Rdo.load rfl (Lds.next (Lds.next (Lds.one rfl)))) rfl ?_)
  refine Qt (i := 4) rfl (Rdo.move rfl) ?_
  refine WpR.tF 31 rfl (by first | rfl | assumption | (simp only [decide_eq_true_eq, decide_eq_false_iff_not, Bool.not_eq_true', Bool.not_eq_false', List.length_cons, List.length_nil]; first | assumption | omega) | (simp <;> done) | (simp <;> omega)) ?_
  refine Qp (i := 5) rfl rfl rfl (Qp (i := 6) rfl rfl rfl (Qp (i := 7) rfl rfl rfl (Qp (i := 8) rfl rfl rfl (Qp (i := 9) rfl rfl rfl (Qp (i := 10) rfl rfl rfl (Qp (i := 11) rfl rfl rfl (Qt (i := 12) rfl (Rdo.pick_f rfl rfl) (Qt (i := 13) rfl (Rdo.assign rfl) ?_))))))))
  refine WpR.done (by kernel_rfl) ?_
  refine Thn.n ?_
  refine Wp.condF rfl ?_
  refine Wsr (Ls (Rdo.move rfl) (Ls (Rdo.nilCheck rfl) (Ls (Rdo.fieldAddr0 rfl) (Ls (Rdo.load rfl (Lds.next (Lds.next (Lds.one rfl)))) (Ls (Rdo.assign rfl) (Lnt (cL rfl (Wsr (Ls (Rdo.move rfl) (Ls (Rdo.nilCheck rfl) (Ls (Rdo.fieldAddr0 rfl) (Ls (Rdo.load rfl (Lds.next (Lds.next (Lds.one rfl)))) (Ls (Rdo.gei rfl rfl) ?_)))))))))))))
  refine Ls (Rdo.assign rfl) (Lnt (cK rfl (Wsr (Ls (Rdo.assign rfl) (Lnt (Wp.ret ?_))))))
  refine Blk.r ?_
  refine Thn.r ?_
  refine Rt (ResV.tmp rfl ResV.nil) ⟨rfl, rfl⟩
theorem adds_bad (b q : Nat) (t : TypeId) (v0 v1 v2 v3 v4 v : Value) (o : Go.Proofs.YtccgdnocldmjeaaGreatDoor.Op) (p : Prod) (h1 : p.opn = false) (h2 : ¬ 100 ≤ p.last) (h3 : ¬ o.txn - 1 = p.last) (h4 : 0 ≤ o.txn ∧ o.txn ≤ 1000000) :
    Trip Tryz.prog 32 [vp b 0, .agg (opC o).toArray, vp q 0] [cel b t [v0, v1, v2, v3, v4], cel q 84 (prodC p v)]
      (fun r l => r = vi 6 ∧ l = [cel b t [v0, v1, v2, v3, v4], cel q 84 (prodC p v)]) := by
  refine Trip.of_body Tryz.func32 rfl Tryz.ntmps32 Tryz.results32 rfl ?_
  refine Wsr ?_
  (refine WpL.step (Stp.boxV rfl (VC.ag _) rfl ?_); intro nb2)
  refine Ls (Rdo.assign rfl) (Lnt (Wp.seq (Wp.block (Wp.seq ?_))))
  refine Wp.draw (by kernel_rfl) ?_
  refine Qt (i := 0) rfl (Rdo.move rfl) (Qt (i := 1) rfl (Rdo.nilCheck rfl) (Qt (i := 2) rfl (Rdo.fieldAddr0 rfl) ?_))
  refine Qo (i := 3) rfl (Stp.rd (Rdo.load rfl (Lds.next (Lds.next (Lds.one rfl)))) rfl ?_)
  refine Qt (i := 4) rfl (Rdo.move rfl) ?_
  refine WpR.tF 31 rfl (by first | rfl | assumption | (simp only [decide_eq_true_eq, decide_eq_false_iff_not, Bool.not_eq_true', Bool.not_eq_false', List.length_cons, List.length_nil]; first | assumption | omega) | (simp <;> done) | (simp <;> omega)) ?_
  refine Qp (i := 5) rfl rfl rfl (Qp (i := 6) rfl rfl rfl (Qp (i := 7) rfl rfl rfl (Qp (i := 8) rfl rfl rfl (Qp (i := 9) rfl rfl rfl (Qp (i := 10) rfl rfl rfl (Qp (i := 11) rfl rfl rfl (Qt (i := 12) rfl (Rdo.pick_f rfl rfl) (Qt (i := 13) rfl (Rdo.assign rfl) ?_))))))))
  refine WpR.done (by kernel_rfl) ?_
  refine Thn.n ?_
  refine Wp.condF rfl ?_
  refine Wsr (Ls (Rdo.move rfl) (Ls (Rdo.nilCheck rfl) (Ls (Rdo.fieldAddr0 rfl) (Ls (Rdo.load rfl (Lds.next (Lds.next (Lds.one rfl)))) (Ls (Rdo.assign rfl) (Lnt (cL rfl (Wsr (Ls (Rdo.move rfl) (Ls (Rdo.nilCheck rfl) (Ls (Rdo.fieldAddr0 rfl) (Ls (Rdo.load rfl (Lds.next (Lds.next (Lds.one rfl)))) (Ls (Rdo.gei rfl rfl) ?_)))))))))))))
  refine Ls (Rdo.assign rfl) (Lnt (cL rfl (Wp.seq ?_)))
  refine Wp.draw (by kernel_rfl) ?_
  refine Qt (i := 0) rfl (Rdo.fieldAddr0 rfl) (Qt (i := 3) rfl (Rdo.move rfl) (Qt (i := 4) rfl (Rdo.nilCheck rfl) (Qt (i := 5) rfl (Rdo.fieldAddr0 rfl) ?_)))
  refine WpR.load (i := 1) [6] rfl (by kernel_rfl) (by kernel_rfl) (by kernel_rfl) (by kernel_rfl) (by kernel_rfl) rfl Tk.rfl_ (Harm.rd rfl (Rdo.load rfl (Lds.next (Lds.next (Lds.one rfl)))) Harm.nil) (Rdo.load rfl (Lds.one rfl)) rfl ?_
  refine Qt (i := 2) rfl (Rdo.sub64 rfl rfl (by omega)) ?_
  refine Qo (i := 6) rfl (Stp.rd (Rdo.load rfl (Lds.next (Lds.next (Lds.one rfl)))) rfl ?_)
  refine Qt (i := 7) rfl (Rdo.nei rfl rfl) (Qt (i := 8) rfl (Rdo.assign rfl) ?_)
  refine WpR.done (by kernel_rfl) ?_
  refine Thn.n (cK rfl (Wsr (Ls (Rdo.assign rfl) (Lnt (Wp.ret ?_)))))
  refine Blk.r ?_
  refine Thn.r ?_
  refine Rt (ResV.tmp rfl ResV.nil) ⟨rfl, rfl⟩
end Go.Proofs.YtccgdnocldmjeaaGreatDoor
namespace Go.Proofs.YtccgdnocldmjeaaGreatDoor
open Go
set_option maxHeartbeats 4000000
set_option linter.unusedSimpArgs false
set_option linter.unusedVariables false
set_option maxRecDepth 20000
theorem adds_new (b q : Nat) (t : TypeId) (v0 v1 v2 v3 v : Value) (now : Int) (o : Go.Proofs.YtccgdnocldmjeaaGreatDoor.Op) (p : Prod) (h1 : p.opn = false) (h2 : ¬ 100 ≤ p.last) (h3 : o.txn - 1 = p.last) (h4 : 0 ≤ o.txn ∧ o.txn ≤ 1000000) :
    Trip Tryz.prog 32 [vp b 0, .agg (opC o).toArray, vp q 0] [cel b t [v0, v1, v2, v3, vi now], cel q 84 (prodC p v)]
      (fun r l => ∃ mb, r = vi 0 ∧ l = [cel b t [v0, v1, v2, v3, vi now], cel q 84 (prodC { p with opn := true, last := o.txn, began := now } (.map (some mb))), mapA i64 mb [(o.part, vb true)]]) := by
  refine Trip.of_body Tryz.func32 rfl Tryz.ntmps32 Tryz.results32 rfl ?_
  refine Wsr ?_
  (refine WpL.step (Stp.boxV rfl (VC.ag _) rfl ?_); intro nb2)
  refine Ls (Rdo.assign rfl) (Lnt (Wp.seq (Wp.block (Wp.seq ?_))))
  refine Wp.draw (by kernel_rfl) ?_
  refine Qt (i := 0) rfl (Rdo.move rfl) (Qt (i := 1) rfl (Rdo.nilCheck rfl) (Qt (i := 2) rfl (Rdo.fieldAddr0 rfl) ?_))
  refine Qo (i := 3) rfl (Stp.rd (Rdo.load rfl (Lds.next (Lds.next (Lds.one rfl)))) rfl ?_)
  refine Qt (i := 4) rfl (Rdo.move rfl) ?_
  refine WpR.tF 31 rfl (by first | rfl | assumption | (simp only [decide_eq_true_eq, decide_eq_false_iff_not, Bool.not_eq_true', Bool.not_eq_false', List.length_cons, List.length_nil]; first | assumption | omega) | (simp <;> done) | (simp <;> omega)) ?_
  refine Qp (i := 5) rfl rfl rfl (Qp (i := 6) rfl rfl rfl (Qp (i := 7) rfl rfl rfl (Qp (i := 8) rfl rfl rfl (Qp (i := 9) rfl rfl rfl (Qp (i := 10) rfl rfl rfl (Qp (i := 11) rfl rfl rfl (Qt (i := 12) rfl (Rdo.pick_f rfl rfl) (Qt (i := 13) rfl (Rdo.assign rfl) ?_))))))))
  refine WpR.done (by kernel_rfl) ?_
  refine Thn.n ?_
  refine Wp.condF rfl ?_
  refine Wsr (Ls (Rdo.move rfl) (Ls (Rdo.nilCheck rfl) (Ls (Rdo.fieldAddr0 rfl) (Ls (Rdo.load rfl (Lds.next (Lds.next (Lds.one rfl)))) (Ls (Rdo.assign rfl) (Lnt (cL rfl (Wsr (Ls (Rdo.move rfl) (Ls (Rdo.nilCheck rfl) (Ls (Rdo.fieldAddr0 rfl) (Ls (Rdo.load rfl (Lds.next (Lds.next (Lds.one rfl)))) (Ls (Rdo.gei rfl rfl) ?_)))))))))))))
  refine Ls (Rdo.assign rfl) (Lnt (cL rfl (Wp.seq ?_)))
  refine Wp.draw (by kernel_rfl) ?_
  refine Qt (i := 0) rfl (Rdo.fieldAddr0 rfl) (Qt (i := 3) rfl (Rdo.move rfl) (Qt (i := 4) rfl (Rdo.nilCheck rfl) (Qt (i := 5) rfl (Rdo.fieldAddr0 rfl) ?_)))
  refine WpR.load (i := 1) [6] rfl (by kernel_rfl) (by kernel_rfl) (by kernel_rfl) (by kernel_rfl) (by kernel_rfl) rfl Tk.rfl_ (Harm.rd rfl (Rdo.load rfl (Lds.next (Lds.next (Lds.one rfl)))) Harm.nil) (Rdo.load rfl (Lds.one rfl)) rfl ?_
  refine Qt (i := 2) rfl (Rdo.subE rfl rfl (by assumption) (by omega)) ?_
  refine Qo (i := 6) rfl (Stp.rd (Rdo.load rfl (Lds.next (Lds.next (Lds.one rfl)))) rfl ?_)
  refine Qt (i := 7) rfl (Rdo.nei rfl rfl) (Qt (i := 8) rfl (Rdo.assign rfl) ?_)
  refine WpR.done (by kernel_rfl) ?_
  refine Thn.n (cL rfl ?_)
  refine Wp.draw (by kernel_rfl) ?_
  refine Qt (i := 0) rfl (Rdo.move rfl) (Qt (i := 1) rfl (Rdo.move rfl) (Qt (i := 2) rfl (Rdo.move rfl) (Qt (i := 3) rfl (Rdo.move rfl) (Qt (i := 4) rfl (Rdo.fieldAddr0 rfl) (Qt (i := 6) rfl (Rdo.move rfl) (Qt (i := 7) rfl (Rdo.nilCheck rfl) (Qt (i := 8) rfl (Rdo.fieldAddr0 rfl) ?_)))))))
  refine WpR.load (i := 9) [5, 10] rfl (by kernel_rfl) (by kernel_rfl) (by kernel_rfl) (by kernel_rfl) (by kernel_rfl) rfl Tk.rfl_ (Harm.rd rfl (Rdo.load rfl (Lds.one rfl)) (Harm.mm rfl Harm.nil)) (Rdo.load rfl (Lds.next (Lds.one rfl))) rfl ?_
  refine Qt (i := 11) rfl (Rdo.nilCheck rfl) (Qt (i := 12) rfl (Rdo.fieldAddr0 rfl) ?_)
  refine WpR.phaseL (m := 0) #[true, true, true, true, true, true, true, true, true, true, true, true, true, true, true, true, true, true, true, true, true, true, true] 12 _ rfl (by kernel_rfl) (Tk.cons Pk.here Tk.nil) ?_
  refine At (i := 5) rfl (Rdo.load rfl (Lds.one rfl)) ?_
  refine PendA.start (i := 10) rfl ?_
  refine PendA.one (j := 13) rfl rfl (by kernel_rfl) (by kernel_rfl) (by kernel_rfl) rfl (by simp) rfl rfl (Stp.storeV rfl rfl (VC.b _) rfl (Sts.next (Sp (oneCells1 rfl))) ?_)
  refine PendA.take (j := 14) rfl rfl (by kernel_rfl) (by kernel_rfl) (by kernel_rfl) rfl rfl (Rdo.nilCheck rfl) rfl ?_
  refine PendA.take (j := 15) rfl rfl (by kernel_rfl) (by kernel_rfl) (by kernel_rfl) rfl rfl (Rdo.fieldAddr0 rfl) rfl ?_
  refine PendA.one (j := 16) rfl rfl (by kernel_rfl) (by kernel_rfl) (by kernel_rfl) rfl (by simp) rfl rfl (Stp.storeV rfl rfl (VC.i _ _) rfl (Sts.next (Sp (oneCells1 rfl))) ?_)
  refine PendA.take (j := 17) rfl rfl (by kernel_rfl) (by kernel_rfl) (by kernel_rfl) rfl rfl (Rdo.nilCheck rfl) rfl ?_
  refine PendA.take (j := 18) rfl rfl (by kernel_rfl) (by kernel_rfl) (by kernel_rfl) rfl rfl (Rdo.fieldAddr0 rfl) rfl ?_
  refine PendA.one (j := 19) rfl rfl (by kernel_rfl) (by kernel_rfl) (by kernel_rfl) rfl (by simp) rfl rfl (Stp.storeV rfl rfl (VC.i _ _) rfl (Sts.next (Sp (oneCells1 rfl))) ?_)
  refine PendA.made rfl (by kernel_rfl) rfl (fun nb85 => ?_)
  refine At (i := 20) rfl (Rdo.nilCheck rfl) (At (i := 21) rfl (Rdo.fieldAddr0 rfl) ?_)
  refine WpA.one (i := 22) rfl (by kernel_rfl) (Stp.storeV rfl rfl (VC.m _) rfl (Sts.next (Sts.next (Sp (oneCells1 rfl)))) ?_)
  refine WpA.stop (by kernel_rfl) ?_
  refine Ql ?_
  refine WpR.done (by kernel_rfl) ?_
  refine Blk.n (Thn.n (Wp.seq ?_))
  refine Wp.draw (by kernel_rfl) ?_
  refine Qt (i := 0) rfl (Rdo.move rfl) (Qt (i := 1) rfl (Rdo.nilCheck rfl) (Qt (i := 2) rfl (Rdo.fieldAddr0 rfl) (Qt (i := 4) rfl (Rdo.fieldAddr0 rfl) ?_)))
  refine WpR.phaseL (m := 1) #[true, true, true, true, true, true, false] 2 _ rfl (by kernel_rfl) Tk.rfl_ ?_
  refine At (i := 3) rfl (Rdo.load rfl (Lds.next (Lds.next (Lds.next (Lds.one rfl))))) (At (i := 5) rfl (Rdo.load rfl (Lds.one rfl)) ?_)
  refine WpA.stop (by kernel_rfl) ?_
  refine WpR.lst (by simp only [List.cons_append, List.nil_append, List.append_nil]; exact rfl) ?_
  refine Qo (i := 6) rfl (Stp.mapUpdate rfl rfl rfl (by repeat (first | exact Pk.here | apply Pk.next)) ?_)
  refine WpR.done (by kernel_rfl) ?_
  refine Thn.n (Wsr (Ls (Rdo.assign rfl) (Lnt (Wp.ret ?_))))
  refine Rt (ResV.tmp rfl ResV.nil) ⟨_, ⟨rfl, rfl⟩⟩
end Go.Proofs.YtccgdnocldmjeaaGreatDoor
namespace Go.Proofs.YtccgdnocldmjeaaGreatDoor
open Go
set_option maxHeartbeats 4000000
set_option linter.unusedSimpArgs false
set_option linter.unusedVariables false
set_option maxRecDepth 20000
open Tabprod
def holeA (qs : List Nat) (ps : List Prod) (i : Nat) : HP := starH (((qs.zip ps).eraseIdx i).map fun x => prodA x.1 x.2)
theorem zip_split {α β : Type} {qs : List α} {ps : List β} {i : Nat} {q : α} {p : β} (h1 : qs[i]? = some q) (h2 : ps[i]? = some p) : qs.zip ps = (qs.zip ps).take i ++ (q, p) :: (qs.zip ps).drop (i + 1) := by
  have h := zip_at h1 h2
  obtain ⟨hi, he⟩ := List.getElem?_eq_some_iff.1 h
  rw [← he, ← List.drop_eq_getElem_cons hi, List.take_append_drop]
theorem hole_split {α β : Type} {qs : List α} {ps : List β} {i : Nat} : (qs.zip ps).eraseIdx i = (qs.zip ps).take i ++ (qs.zip ps).drop (i + 1) := List.eraseIdx_eq_take_drop_succ _ _
theorem Gh.star1 {l : List HP} {A B : List HP} {x : HP} : Gh (starH (A ++ x :: B) :: l) (x :: starH (A ++ B) :: l) := Gh.mk fun F w hl => by
  have h1 := hl.open_star
  have h2 : Holds (x :: ((A ++ B) ++ l)) F w := h1.perm (by simp)
  obtain ⟨G, h3, h4⟩ := Holds.frameR (l1 := [x]) (l2 := (A ++ B) ++ l) h2
  exact h4 _ _ (Holds.shut_star h3)
theorem Gh.star2 {l : List HP} {A B : List HP} {x : HP} : Gh (x :: starH (A ++ B) :: l) (starH (A ++ x :: B) :: l) := Gh.mk fun F w hl => by
  obtain ⟨G, h3, h4⟩ := Holds.frameR (l1 := [x]) (l2 := starH (A ++ B) :: l) hl
  have h2 : Holds ([x] ++ ((A ++ B) ++ l)) F w := h4 _ _ h3.open_star
  exact Holds.shut_star (h2.perm (by simp only [List.cons_append, List.nil_append, List.append_assoc]; exact List.perm_middle.symm))
/-- One is taken out. -/
theorem Gh.part1 {l : List HP} {qs : List Nat} {ps : List Prod} {i : Nat} {q : Nat} {p : Prod} (h1 : qs[i]? = some q) (h2 : ps[i]? = some p) : Gh (prodsA qs ps :: l) (prodA q p :: holeA qs ps i :: l) := by
  unfold prodsA holeA
  rw [hole_split]
  conv => lhs; rw [zip_split h1 h2]
  rw [List.map_append, List.map_append, List.map_cons]
  exact Gh.star1
/-- One is put back. -/
theorem Gh.part2 {l : List HP} {qs : List Nat} {ps : List Prod} {i : Nat} {q : Nat} {p : Prod} (h1 : qs[i]? = some q) (h2 : i < ps.length) : Gh (prodA q p :: holeA qs ps i :: l) (prodsA qs (ps.set i p) :: l) := by
  unfold prodsA holeA
  have h3 : (ps.set i p)[i]? = some p := by simp [h2]
  have e1 : (qs.zip (ps.set i p)).take i = (qs.zip ps).take i := by
    apply List.ext_getElem?
    intro j
    by_cases hj : j < i
    · simp only [List.getElem?_take, if_pos hj, List.zip, List.getElem?_zipWith, List.getElem?_set_ne (show i ≠ j by omega)]
    · simp only [List.getElem?_take, if_neg hj]
  have e2 : (qs.zip (ps.set i p)).drop (i + 1) = (qs.zip ps).drop (i + 1) := by
    apply List.ext_getElem?
    intro j
    simp only [List.getElem?_drop, List.zip, List.getElem?_zipWith, List.getElem?_set_ne (show i ≠ i + 1 + j by omega)]
  rw [hole_split, zip_split h1 h3, e1, e2, List.map_append, List.map_append, List.map_cons]
  exact Gh.star2
theorem set_same {α : Type} {ps : List α} {i : Nat} {p : α} (h : ps[i]? = some p) : ps.set i p = ps := List.ext_getElem? fun j => by
  by_cases hj : i = j
  · subst hj; rw [h, List.getElem?_set_self (List.getElem?_eq_some_iff.1 h).1]
  · rw [List.getElem?_set_ne hj]
theorem Gh.part0 {l : List HP} {qs : List Nat} {ps : List Prod} {i : Nat} {q : Nat} {p : Prod} (h1 : qs[i]? = some q) (h2 : ps[i]? = some p) : Gh (prodA q p :: holeA qs ps i :: l) (prodsA qs ps :: l) := by
  have h3 := Gh.part2 (l := l) (p := p) h1 (List.getElem?_eq_some_iff.1 h2).1
  rwa [set_same h2] at h3
theorem prodA_open {l : List HP} {q : Nat} {p : Prod} : GhE (prodA q p :: l) (fun _ : Value => True) (fun v => cel q 84 (prodC p v) :: pmA v p.opn p.parts :: l) := by
  unfold prodA
  exact GhE.open_ Pk.here
theorem prodA_shut {l : List HP} {q : Nat} {p : Prod} {v : Value} : Gh (cel q 84 (prodC p v) :: pmA v p.opn p.parts :: l) (prodA q p :: l) := by
  unfold prodA
  exact Gh.shut (f := fun v => [cel q 84 (prodC p v), pmA v p.opn p.parts]) v (Tk.cons Pk.here (Tk.cons Pk.here (Tk.mk fun F w h => h)))
/-- A new one behind all. -/
theorem Gh.partN {l : List HP} {qs : List Nat} {ps : List Prod} {q : Nat} {p : Prod} (h : qs.length = ps.length) : Gh (prodA q p :: prodsA qs ps :: l) (prodsA (qs ++ [q]) (ps ++ [p]) :: l) := by
  unfold prodsA
  rw [List.zip_append h, List.map_append]
  have h2 := Gh.star2 (l := l) (x := prodA q p) (A := (qs.zip ps).map fun x => prodA x.1 x.2) (B := [])
  rw [List.append_nil] at h2
  exact h2
theorem tabE_get (k : Nat) (qs : List Nat) (i : Nat) : (tabE k qs)[i]? = (qs[i]?).map fun q => (((k + i : Nat) : Int), vp q 0) := by
  induction qs generalizing k i with
  | nil => simp [tabE]
  | cons q qs ih =>
    cases i with
    | zero => simp [tabE]
    | succ i => simp [tabE, ih, Nat.add_assoc, Nat.add_comm 1]
theorem len_ok (b mb : Nat) (es : List (Int × Value)) (hl : es.length ≤ 1000) : Trip Tryz.prog 78 [vp b 0] (tabA b mb es) (fun r l => r = vi es.length ∧ l = tabA b mb es) := by
  refine Trip.of_body Tryz.func78 rfl Tryz.ntmps78 Tryz.results78 rfl ?_
  refine Wsr (Ls (Rdo.assign rfl) (Lnt (Wp.seq (Wsr (Ls (Rdo.move rfl) (Ls (Rdo.eqnil rfl rfl) (Lnt ?_)))))))
  refine Wp.condF rfl ?_
  refine Wp.skip (Thn.n (Wsr (Ls (Rdo.move rfl) (Ls (Rdo.nilCheck rfl) (Ls (Rdo.fieldAddr0 rfl) (Ls (Rdo.load rfl (Lds.one rfl)) (Ls (Rdo.lenMap rfl (Mps.next Mps.here)) (Ls (Rdo.assign rfl) (Lnt (Wp.ret ?_))))))))))
  refine Rt (ResV.tmp rfl ResV.nil) ⟨rfl, rfl⟩
end Go.Proofs.YtccgdnocldmjeaaGreatDoor
namespace Go.Proofs.YtccgdnocldmjeaaGreatDoor
open Go
set_option maxHeartbeats 4000000
set_option linter.unusedSimpArgs false
set_option linter.unusedVariables false
set_option maxRecDepth 20000
def prod0 : Prod := ⟨[], 0, 0, false, [], 0⟩
def addD (ds : List Mark) (m : Mark) : List Mark := if m ∈ ds then ds else ds ++ [m]
def addI (xs : List Int) (x : Int) : List Int := if x ∈ xs then xs else xs ++ [x]
theorem alook_keys {κ : Type} [DecidableEq κ] (ds : List κ) (v : Value) (m : κ) : alook (ds.map fun k => (k, v)) m = if m ∈ ds then some v else none := by
  induction ds with
  | nil => rfl
  | cons a ds ih =>
    simp only [List.map_cons, alook, ih, List.mem_cons]
    by_cases h : a = m
    · subst h; simp
    · rw [if_neg h]
      simp [Ne.symm h]
theorem aset_keys {κ : Type} [DecidableEq κ] (ds : List κ) (v : Value) (m : κ) : aset (ds.map fun k => (k, v)) m v = (if m ∈ ds then ds else ds ++ [m]).map fun k => (k, v) := by
  by_cases h : m ∈ ds
  · rw [if_pos h]
    have hs : (aidx (ds.map fun k => (k, v)) m).isSome = true := by rw [aidx_look, alook_keys, if_pos h]; rfl
    obtain ⟨i, hi⟩ := Option.isSome_iff_exists.1 hs
    rw [aset_at hi]
    obtain ⟨u, h1, h2⟩ := aidx_some hi
    rw [alook_keys, if_pos h] at h2
    cases h2
    apply List.ext_getElem?
    intro j
    by_cases hj : i = j
    · subst hj
      rw [List.getElem?_set_self (List.getElem?_eq_some_iff.1 h1).1, h1]
    · rw [List.getElem?_set_ne hj]
  · rw [if_neg h, aset_new (by rw [alook_keys, if_neg h])]
    simp
abbrev nameAt (ps : List Prod) (s : List UInt8) : Option Nat := ps.findIdx? (fun p => decide (p.name = s))
/-- A producer's open transaction is decided. -/
def CoS.decide (c : CoS) (i : Nat) (p : Prod) (kind : Int) : CoS :=
  { c with prods := c.prods.set i { p with opn := false, parts := [] }, marks := c.marks ++ [⟨kind, i, p.epoch, p.last⟩], decided := addD c.decided ⟨kind, i, p.epoch, p.last⟩ }
def CoS.lay (c : CoS) (m : Mark) : CoS := { c with marks := c.marks ++ [m] }
def CoS.put (c : CoS) (i : Nat) (p : Prod) : CoS := { c with prods := c.prods.set i p }
/-- A producer has another epoch. -/
def CoS.again (c : CoS) (i : Nat) (p : Prod) : Rep × List Mark × CoS :=
  if 100 ≤ p.epoch then (⟨7, 0, 0⟩, [], c)
  else if p.opn = true then (⟨0, i, p.epoch + 1⟩, [⟨3, i, p.epoch, p.last⟩, ⟨1, i, p.epoch + 1, 0⟩], ((c.decide i p 3).put i { p with opn := false, parts := [], epoch := p.epoch + 1, last := 0 }).lay ⟨1, i, p.epoch + 1, 0⟩)
  else (⟨0, i, p.epoch + 1⟩, [⟨1, i, p.epoch + 1, 0⟩], (c.put i { p with epoch := p.epoch + 1, last := 0 }).lay ⟨1, i, p.epoch + 1, 0⟩)
def CoS.begins (c : CoS) (s : List UInt8) : Rep × List Mark × CoS :=
  match nameAt c.prods s with
  | none =>
    if 8 ≤ c.prods.length then (⟨3, 0, 0⟩, [], c)
    else (⟨0, c.prods.length, 0⟩, [⟨1, c.prods.length, 0, 0⟩], { c with prods := c.prods ++ [⟨s, 0, 0, false, [], 0⟩], marks := c.marks ++ [⟨1, c.prods.length, 0, 0⟩] })
  | some i => c.again i (c.prods.getD i prod0)
/-- A part is a transaction's. -/
def CoS.adds (c : CoS) (o : Go.Proofs.YtccgdnocldmjeaaGreatDoor.Op) (i : Nat) (p : Prod) : Int × CoS :=
  if p.opn = true then if o.txn = p.last then (0, c.put i { p with parts := addI p.parts o.part }) else (6, c)
  else if 100 ≤ p.last then (7, c)
  else if o.txn - 1 = p.last then (0, c.put i { p with opn := true, last := o.txn, began := c.now, parts := [o.part] })
  else (6, c)
def kindOf (cm : Bool) : Int := if cm = true then 2 else 3
/-- A transaction is decided. -/
def CoS.ends (c : CoS) (o : Go.Proofs.YtccgdnocldmjeaaGreatDoor.Op) (i : Nat) (p : Prod) : Int × List Mark × CoS :=
  if p.opn = true ∧ o.txn = p.last then (0, [⟨kindOf o.commit, i, p.epoch, p.last⟩], c.decide i p (kindOf o.commit))
  else if (⟨kindOf o.commit, o.producer, o.epoch, o.txn⟩ : Mark) ∈ c.decided then (0, [], c)
  else (6, [], c)
/-- What one producer is by a tick. -/
def CoS.ages (c : CoS) (p : Prod) : Bool := p.opn && Decidable.decide (5 ≤ c.now - p.began)
/-- One producer by a tick. -/
def CoS.tick1 (r : CoS × List Mark) (i : Nat) : CoS × List Mark :=
  if r.1.ages (r.1.prods.getD i prod0) = true then (r.1.decide i (r.1.prods.getD i prod0) 3, r.2 ++ [⟨3, i, (r.1.prods.getD i prod0).epoch, (r.1.prods.getD i prod0).last⟩]) else r
/-- So many producers by a tick. -/
def CoS.tickN (c : CoS) (n : Nat) : CoS × List Mark := (List.range n).foldl CoS.tick1 ({ c with now := c.now + 1 }, [])
theorem CoS.tickN_succ (c : CoS) (n : Nat) : c.tickN (n + 1) = CoS.tick1 (c.tickN n) n := by
  unfold CoS.tickN
  rw [List.range_succ, List.foldl_append]
  rfl
def CoS.ticks (c : CoS) : List Mark × CoS := ((c.tickN c.prods.length).2, (c.tickN c.prods.length).1)
theorem CoS.tickN_spec (c : CoS) (n : Nat) : (c.tickN n).1.prods.length = c.prods.length ∧ (c.tickN n).1.now = c.now + 1 ∧ (c.tickN n).1.answers = c.answers ∧ (c.tickN n).1.marks = c.marks ++ (c.tickN n).2 ∧ (c.tickN n).2.length ≤ n := by
  induction n with
  | zero => simp [CoS.tickN]
  | succ n ih =>
    rw [CoS.tickN_succ]
    unfold CoS.tick1
    obtain ⟨h1, h2, h3, h4, h5⟩ := ih
    split
    · refine ⟨by simp [CoS.decide, h1], by simp [CoS.decide, h2], by simp [CoS.decide, h3], by simp [CoS.decide, h4], by simp; omega⟩
    · exact ⟨h1, h2, h3, h4, by omega⟩
theorem CoS.tickN_at (c : CoS) (n i : Nat) (h : n ≤ i) : (c.tickN n).1.prods[i]? = c.prods[i]? := by
  induction n with
  | zero => simp [CoS.tickN]
  | succ n ih =>
    rw [CoS.tickN_succ]
    unfold CoS.tick1
    split
    · simp only [CoS.decide]
      rw [List.getElem?_set_ne (by omega)]
      exact ih (by omega)
    · exact ih (by omega)
/-- An operation that was not applied ahead. -/
def CoS.does (c : CoS) (o : Go.Proofs.YtccgdnocldmjeaaGreatDoor.Op) : Rep × List Mark × CoS :=
  if o.kind = 1 then c.begins o.name
  else if o.kind = 4 then (⟨0, 0, 0⟩, c.ticks)
  else if 0 ≤ o.producer ∧ o.producer < c.prods.length then
    let i := o.producer.toNat
    let p := c.prods.getD i prod0
    if o.epoch = p.epoch then
      if o.kind = 2 then (⟨(c.adds o i p).1, 0, 0⟩, [], (c.adds o i p).2) else (⟨(c.ends o i p).1, 0, 0⟩, (c.ends o i p).2)
    else (⟨5, 0, 0⟩, [], c)
  else (⟨4, 0, 0⟩, [], c)
def small_ (b : UInt8) : Bool := decide (97 ≤ b.toNat ∧ b.toNat ≤ 122)
/-- An operation that may be. -/
structure okOp (o : Go.Proofs.YtccgdnocldmjeaaGreatDoor.Op) : Prop where
  kind : 1 ≤ o.kind ∧ o.kind ≤ 4
  client : 0 ≤ o.client ∧ o.client ≤ 15
  seq : 0 ≤ o.seq ∧ o.seq ≤ 1048576
  name : if o.kind = 1 then o.name ≠ [] ∧ o.name.length ≤ 8 ∧ ∀ b ∈ o.name, small_ b = true else o.name = []
  producer : 0 ≤ o.producer ∧ o.producer ≤ 7
  epoch : 0 ≤ o.epoch ∧ o.epoch ≤ 100
  txn : 0 ≤ o.txn ∧ o.txn ≤ 100
  part : 0 ≤ o.part ∧ o.part ≤ 3
  rest : (o.kind = 1 ∨ o.kind = 4 → o.producer = 0 ∧ o.epoch = 0 ∧ o.txn = 0 ∧ o.part = 0 ∧ o.commit = false) ∧ (o.kind = 2 → o.commit = false) ∧ (o.kind = 3 → o.part = 0)
instance (o : Go.Proofs.YtccgdnocldmjeaaGreatDoor.Op) : Decidable (okOp o) :=
  decidable_of_iff ((1 ≤ o.kind ∧ o.kind ≤ 4) ∧ (0 ≤ o.client ∧ o.client ≤ 15) ∧ (0 ≤ o.seq ∧ o.seq ≤ 1048576) ∧ (if o.kind = 1 then o.name ≠ [] ∧ o.name.length ≤ 8 ∧ ∀ b ∈ o.name, small_ b = true else o.name = []) ∧ (0 ≤ o.producer ∧ o.producer ≤ 7) ∧ (0 ≤ o.epoch ∧ o.epoch ≤ 100) ∧ (0 ≤ o.txn ∧ o.txn ≤ 100) ∧ (0 ≤ o.part ∧ o.part ≤ 3) ∧
    (o.kind = 1 ∨ o.kind = 4 → o.producer = 0 ∧ o.epoch = 0 ∧ o.txn = 0 ∧ o.part = 0 ∧ o.commit = false) ∧ (o.kind = 2 → o.commit = false) ∧ (o.kind = 3 → o.part = 0))
    ⟨fun ⟨a, b, c, d, e, f, g, h, i⟩ => ⟨a, b, c, d, e, f, g, h, i⟩, fun ⟨a, b, c, d, e, f, g, h, i⟩ => ⟨a, b, c, d, e, f, g, h, i⟩⟩
/-- What an operation is answered, what it marks, and what it leaves. -/
def CoS.apply (c : CoS) (o : Go.Proofs.YtccgdnocldmjeaaGreatDoor.Op) : Rep × List Mark × CoS :=
  if okOp o then
    match alook c.answers (o.client, o.seq) with
    | some a => (a, [], c)
    | none => ((c.does o).1, (c.does o).2.1, { (c.does o).2.2 with answers := (c.does o).2.2.answers ++ [((o.client, o.seq), (c.does o).1)] })
  else (⟨6, 0, 0⟩, [], c)
end Go.Proofs.YtccgdnocldmjeaaGreatDoor
namespace Go.Proofs.YtccgdnocldmjeaaGreatDoor
open Go
set_option maxHeartbeats 4000000
set_option linter.unusedSimpArgs false
set_option linter.unusedVariables false
set_option maxRecDepth 20000
open Tabprod
abbrev tabL (b tb mb : Nat) (t : TypeId) (v1 v2 v3 v4 : Value) (qs : List Nat) (ps : List Prod) : List HP :=
  [cel b t [vp tb 0, v1, v2, v3, v4], cel tb 74 [.map (some mb)], mapA i64 mb (tabE 0 qs), prodsA qs ps]
abbrev namL (b tb mb : Nat) (t : TypeId) (v1 v2 v3 v4 : Value) (qs : List Nat) (ps : List Prod) (s : List UInt8) (n2 n3 n4 n5 : Nat) (iv pv bv : Value) : List HP :=
  [prodsA qs ps, cel n5 4 [bv], cel n4 44 [pv], cel n3 3 [iv], cel n2 9 [vs s], cel b t [vp tb 0, v1, v2, v3, v4], cel tb 74 [.map (some mb)], mapA i64 mb (tabE 0 qs)]
theorem named_ok (b tb mb : Nat) (t : TypeId) (v1 v2 v3 v4 : Value) (qs : List Nat) (ps : List Prod) (s : List UInt8) (hq : qs.length = ps.length) (h8 : ps.length ≤ 8) :
    Trip Tryz.prog 54 [vp b 0, vs s] (tabL b tb mb t v1 v2 v3 v4 qs ps)
      (fun r l => (∃ i q, nameAt ps s = some i ∧ qs[i]? = some q ∧ r = .tuple #[vi i, vp q 0, vb true] ∧ l = tabL b tb mb t v1 v2 v3 v4 qs ps) ∨
        (∃ nb, nameAt ps s = none ∧ r = .tuple #[vi ps.length, vp nb 0, vb false] ∧ l = cel nb 84 (prodC ⟨s, 0, 0, false, [], 0⟩ (.map none)) :: tabL b tb mb t v1 v2 v3 v4 qs ps)) := by
  have hl1 := len_ok tb mb (tabE 0 qs) (by rw [tabE_length]; omega)
  rw [tabE_length, hq] at hl1
  refine Trip.of_body Tryz.func54 rfl Tryz.ntmps54 Tryz.results54 rfl ?_
  refine Wsr ?_
  (refine WpL.step (Stp.boxV rfl (VC.s _) rfl ?_); intro nb2)
  (refine WpL.step (Stp.alloc rfl ?_); intro nb3)
  (refine WpL.step (Stp.alloc rfl ?_); intro nb4)
  (refine WpL.step (Stp.alloc rfl ?_); intro nb5)
  refine Lnt (Wp.seq (Wsr (Ls (Rdo.move rfl) (Ls (Rdo.nilCheck rfl) (Ls (Rdo.fieldAddr0 rfl) (Ls (Rdo.load rfl (Lds.next (Lds.next (Lds.next (Lds.next (Lds.one rfl)))))) ?_))))))
  refine WpL.step (Sc (Tabprod.all_ok _) rfl ?_)
  rintro _ _ ⟨v16_0, ⟨v16_1, ⟨rfl, rfl⟩⟩⟩
  refine Ll ?_
  refine Lnt (Wp.block ?_)
  refine Wp.rangeFunc (ps := [14, 15]) rfl (by kernel_rfl) (allIter v16_0 v16_1 tb mb _ _ (tabE 0 qs) (tabE 0 qs) (List.Perm.refl _) (tabE_keys 0 qs) (by rw [tabE_length]; omega)) (fun _ => rfl) rfl
    (fun pre l => (∀ p ∈ ps.take pre.length, p.name ≠ s) ∧ l = namL b tb mb t v1 v2 v3 v4 qs ps s nb2 nb3 nb4 nb5 (vi 0) (.pointer none) (vb false))
    (fun j pre l => j = .ret ∧ ∃ i q, nameAt ps s = some i ∧ qs[i]? = some q ∧ l = namL b tb mb t v1 v2 v3 v4 qs ps s nb2 nb3 nb4 nb5 (vi i) (vp q 0) (vb true))
    (l0 := namL b tb mb t v1 v2 v3 v4 qs ps s nb2 nb3 nb4 nb5 (vi 0) (.pointer none) (vb false)) Gk ⟨by simp, rfl⟩
    (Bor.tk (Tk.cons (Pk.next (Pk.next (Pk.next (Pk.next (Pk.next (Pk.next Pk.here)))))) (Tk.cons (Pk.next (Pk.next (Pk.next (Pk.next (Pk.next (Pk.next Pk.here)))))) Tk.nil)) Gk) ?_ ?_ ?_
  · rintro lp rec pre ⟨x, u⟩ rest _ hs ⟨hpre, rfl⟩ st pe
    have hg : (tabE 0 qs)[pre.length]? = some (x, u) := by rw [← hs]; simp
    rw [tabE_get] at hg
    obtain ⟨q, hqi, hxu⟩ := Option.map_eq_some_iff.1 hg
    simp only [Nat.zero_add] at hxu
    obtain ⟨rfl, rfl⟩ := _root_.Prod.mk.inj hxu
    have hlt : pre.length < qs.length := (List.getElem?_eq_some_iff.1 hqi).1
    obtain ⟨p, hpi⟩ : ∃ p, ps[pre.length]? = some p := ⟨ps[pre.length]'(by omega), List.getElem?_eq_getElem (by omega)⟩
    refine Wp.gh (Gh.part1 hqi hpi) (Wp.ghE prodA_open ?_)
    rintro v _
    have hsh : ∀ l, Gh (cel q 84 (prodC p v) :: pmA v p.opn p.parts :: holeA qs ps pre.length :: l) (prodsA qs ps :: l) := fun l => Gh.trans prodA_shut (Gh.part0 hqi hpi)
    by_cases hn : p.name = s
    · refine Wsr (Ls (Rdo.assign rfl) (Lnt (Wp.region (Ls (Rdo.assign rfl) (WpL.nil ?_)))))
      refine ⟨rfl, fun st pe => ?_⟩
      refine Wp.block (Wp.seq ?_)
      refine Wp.draw (by kernel_rfl) ?_
      refine Qt (i := 0) rfl (Rdo.move rfl) (Qt (i := 1) rfl (Rdo.nilCheck rfl) (Qt (i := 2) rfl (Rdo.fieldAddr0 rfl) ?_))
      refine WpR.phaseL (m := 1) #[true, true, true, true, true, false] 2 _ rfl (by kernel_rfl) Tk.rfl_ ?_
      refine At (i := 3) rfl (Rdo.load rfl (Lds.one rfl)) (At (i := 4) rfl (Rdo.load rfl (Lds.next (Lds.next (Lds.next (Lds.next (Lds.next (Lds.next (Lds.one rfl)))))))) ?_)
      refine WpA.stop (by kernel_rfl) ?_
      refine WpR.lst (by simp only [List.cons_append, List.nil_append, List.append_nil]; exact rfl) ?_
      refine Qt (i := 5) rfl (Rdo.eqVs rfl rfl) ?_
      refine WpR.done (by kernel_rfl) ?_
      refine Thn.n (cK rfl (Wsr (Ls (Rdo.move rfl) (Ls (Rdo.move rfl) ?_))))
      refine WpL.step (Stp.storeV rfl rfl (VC.i _ _) rfl (Sts.next (Sts.next (Sts.next (Sts.next (Sts.next (Sp (oneCells1 rfl))))))) ?_)
      refine WpL.step (Stp.storeV rfl rfl (VC.p _) rfl (Sts.next (Sts.next (Sts.next (Sts.next (Sp (oneCells1 rfl)))))) ?_)
      refine WpL.step (Stp.storeV rfl rfl (VC.b _) rfl (Sts.next (Sts.next (Sts.next (Sp (oneCells1 rfl))))) ?_)
      refine Lnt (Wp.ret ?_)
      refine Blk.r ?_
      refine ⟨namL b tb mb t v1 v2 v3 v4 qs ps s nb2 nb3 nb4 nb5 (vi pre.length) (vp q 0) (vb true), Gh.trans Gk (hsh _), rfl, pre.length, q, ?_, hqi, rfl⟩
      rw [List.findIdx?_eq_some_iff_findIdx_eq, List.findIdx_eq (by omega)]
      obtain ⟨hp1, hp2⟩ := List.getElem?_eq_some_iff.1 hpi
      refine ⟨hp1, by rw [hp2]; simpa using hn, fun j hj => ?_⟩
      have := hpre ps[j] (List.mem_take_iff_getElem.2 ⟨j, by omega, rfl⟩)
      simpa using this
    · refine Wsr (Ls (Rdo.assign rfl) (Lnt (Wp.region (Ls (Rdo.assign rfl) (WpL.nil ?_)))))
      refine ⟨rfl, fun st pe => ?_⟩
      refine Wp.block (Wp.seq ?_)
      refine Wp.draw (by kernel_rfl) ?_
      refine Qt (i := 0) rfl (Rdo.move rfl) (Qt (i := 1) rfl (Rdo.nilCheck rfl) (Qt (i := 2) rfl (Rdo.fieldAddr0 rfl) ?_))
      refine WpR.phaseL (m := 1) #[true, true, true, true, true, false] 2 _ rfl (by kernel_rfl) Tk.rfl_ ?_
      refine At (i := 3) rfl (Rdo.load rfl (Lds.one rfl)) (At (i := 4) rfl (Rdo.load rfl (Lds.next (Lds.next (Lds.next (Lds.next (Lds.next (Lds.next (Lds.one rfl)))))))) ?_)
      refine WpA.stop (by kernel_rfl) ?_
      refine WpR.lst (by simp only [List.cons_append, List.nil_append, List.append_nil]; exact rfl) ?_
      refine Qt (i := 5) rfl (Rdo.eqVs rfl rfl) ?_
      refine WpR.done (by kernel_rfl) ?_
      refine Thn.n (cL rfl (Wp.skip (Blk.n ?_)))
      refine ⟨namL b tb mb t v1 v2 v3 v4 qs ps s nb2 nb3 nb4 nb5 (vi 0) (.pointer none) (vb false), Gh.trans Gk (hsh _), ?_, rfl⟩
      intro z hz
      rw [List.length_append, List.length_singleton, List.take_add_one, hpi] at hz
      rcases List.mem_append.1 hz with hz | hz
      · exact hpre z hz
      · simp only [Option.toList_some, List.mem_singleton] at hz
        rw [hz]
        exact hn
  · rintro xs _ rfl ⟨hpre, rfl⟩
    have hno : nameAt ps s = none := by
      rw [tabE_length, List.take_of_length_le (by omega)] at hpre
      rw [List.findIdx?_eq_none_iff]
      intro p hp
      simpa using hpre p hp
    refine Blk.n (Thn.n (Wp.seq ?_))
    refine Wp.draw (by kernel_rfl) ?_
    refine Qt (i := 0) rfl (Rdo.move rfl) (Qt (i := 1) rfl (Rdo.nilCheck rfl) (Qt (i := 2) rfl (Rdo.fieldAddr0 rfl) ?_))
    refine WpR.phaseL (m := 0) #[true, true, true, true, true, true, true, true, true, true, true] 8 _ rfl (by kernel_rfl) (Tk.cons (Pk.next (Pk.next (Pk.next (Pk.next Pk.here)))) (Tk.cons (Pk.next (Pk.next (Pk.next (Pk.next Pk.here)))) Tk.nil)) ?_
    refine At (i := 3) rfl (Rdo.load rfl (Lds.next (Lds.one rfl))) (At (i := 5) rfl (Rdo.load rfl (Lds.one rfl)) ?_)
    refine At (i := 6) rfl (Rdo.bld rfl (BldL.cons rfl (VC.s _) (by first | rfl | assumption | (simp <;> done)) (by repeat (first | exact LPut.nil _ | apply LPut.here | apply LPut.next)) (BldL.nil _))) ?_
    refine PendA.start (hz := MK.bx rfl (VC.ag _)) (i := 7) rfl ?_
    refine PendA.one (hz := MK.bx rfl (VC.ag _)) (j := 4) rfl rfl (by kernel_rfl) (by kernel_rfl) (by kernel_rfl) rfl (by simp) rfl rfl (Sc (hl1) rfl ?_)
    rintro _ _ ⟨rfl, rfl⟩
    refine PendA.lst (by simp only [List.cons_append, List.nil_append]; exact rfl) ?_
    refine PendA.one (hz := MK.bx rfl (VC.ag _)) (j := 8) rfl rfl (by kernel_rfl) (by kernel_rfl) (by kernel_rfl) rfl (by simp) rfl rfl (Stp.storeV rfl rfl (VC.i _ _) rfl (Sts.next (Sts.next (Sts.next (Sts.next (Sts.next (Sp (oneCells1 rfl))))))) ?_)
    refine PendA.made (hz := MK.bx rfl (VC.ag _)) rfl (by kernel_rfl) rfl (fun nb16 => ?_)
    refine WpA.one (i := 9) rfl (by kernel_rfl) (Stp.storeV rfl rfl (VC.p _) rfl (Sts.next (Sts.next (Sts.next (Sts.next (Sts.next (Sp (oneCells1 rfl))))))) ?_)
    refine WpA.one (i := 10) rfl (by kernel_rfl) (Stp.storeV rfl rfl (VC.b _) rfl (Sts.next (Sts.next (Sts.next (Sts.next (Sp (oneCells1 rfl)))))) ?_)
    refine WpA.stop (by kernel_rfl) ?_
    refine Ql ?_
    refine WpR.done (by kernel_rfl) ?_
    refine Thn.n (Wp.ret ?_)
    refine Rt (by repeat (first | exact ResV.nil | apply ResV.tmp rfl | apply ResV.cell rfl (by repeat (first | exact Lds.one rfl | (apply Lds.all; (first | rfl | assumption | (simp <;> fail))) | exact Lds.ione0 | exact Lds.ione rfl | (apply Lds.iall; (first | rfl | assumption | (simp <;> fail))) | apply Lds.next)))) (.inr ⟨_, hno, rfl, rfl⟩)
  · rintro j pre l' ⟨rfl, i, q, h1, h2, rfl⟩
    refine Blk.r ?_
    refine Thn.r ?_
    refine Rt (by repeat (first | exact ResV.nil | apply ResV.tmp rfl | apply ResV.cell rfl (by repeat (first | exact Lds.one rfl | (apply Lds.all; (first | rfl | assumption | (simp <;> fail))) | exact Lds.ione0 | exact Lds.ione rfl | (apply Lds.iall; (first | rfl | assumption | (simp <;> fail))) | apply Lds.next)))) (.inl ⟨i, q, h1, h2, rfl, rfl⟩)
theorem named_in (b tb mb : Nat) (t : TypeId) (v1 v2 v3 v4 : Value) (qs : List Nat) (ps : List Prod) (s : List UInt8) (hq : qs.length = ps.length) (h8 : ps.length ≤ 8) (i q : Nat) (hi : nameAt ps s = some i) (hqi : qs[i]? = some q) :
    Trip Tryz.prog 54 [vp b 0, vs s] (tabL b tb mb t v1 v2 v3 v4 qs ps) (fun r l => r = .tuple #[vi i, vp q 0, vb true] ∧ l = tabL b tb mb t v1 v2 v3 v4 qs ps) := by
  refine Trip.mono (named_ok b tb mb t v1 v2 v3 v4 qs ps s hq h8) ?_
  rintro r l (⟨i', q', h1, h2, rfl, rfl⟩ | ⟨nb, h1, _, _⟩)
  · rw [hi] at h1; cases h1
    rw [hqi] at h2; cases h2
    exact ⟨rfl, rfl⟩
  · rw [hi] at h1; cases h1
theorem named_new (b tb mb : Nat) (t : TypeId) (v1 v2 v3 v4 : Value) (qs : List Nat) (ps : List Prod) (s : List UInt8) (hq : qs.length = ps.length) (h8 : ps.length ≤ 8) (hi : nameAt ps s = none) :
    Trip Tryz.prog 54 [vp b 0, vs s] (tabL b tb mb t v1 v2 v3 v4 qs ps)
      (fun r l => ∃ nb, r = .tuple #[vi ps.length, vp nb 0, vb false] ∧ l = cel nb 84 (prodC ⟨s, 0, 0, false, [], 0⟩ (.map none)) :: tabL b tb mb t v1 v2 v3 v4 qs ps) := by
  refine Trip.mono (named_ok b tb mb t v1 v2 v3 v4 qs ps s hq h8) ?_
  rintro r l (⟨i', q', h1, h2, rfl, rfl⟩ | ⟨nb, h1, h2, h3⟩)
  · rw [hi] at h1; cases h1
  · exact ⟨nb, h2, h3⟩
end Go.Proofs.YtccgdnocldmjeaaGreatDoor
namespace Go.Proofs.YtccgdnocldmjeaaGreatDoor
open Go
set_option maxHeartbeats 4000000
set_option linter.unusedSimpArgs false
set_option linter.unusedVariables false
set_option maxRecDepth 20000
open Tabprod
abbrev markA (v : Value) (ms : List Mark) : HP := rowA 61 4 v ms.length (ms.map markC).flatten
theorem fin0 {b : Nat} {c : CoS} (m : CoM) (hm : m.qs.length = c.prods.length) : Gh (coX b c m) [coA b c, markA vnil []] :=
  Gh.trans (coA_shut (l := []) m hm) (Gh.trans (Gh.nil 61 4) (Gh.perm (List.Perm.swap _ _ _)))
theorem fin1 {b : Nat} {c : CoS} {v : Value} {ms : List Mark} (m : CoM) (hm : m.qs.length = c.prods.length) : Gh (coX b c m ++ [markA v ms]) [coA b c, markA v ms] := coA_shut m hm
theorem prodA_shut0 {l : List HP} {q : Nat} {p : Prod} (h : p.opn = false) : Gh (cel q 84 (prodC p (.map none)) :: l) (prodA q p :: l) := by
  refine Gh.trans (Gh.mk fun F w hl => ?_) (prodA_shut (v := .map none))
  have h2 : Holds (pmA (.map none) p.opn p.parts :: cel q 84 (prodC p (.map none)) :: l) F w := by
    unfold pmA
    rw [h]
    exact Holds.shut_pure rfl hl
  exact h2.perm (List.Perm.swap _ _ _)
theorem tabE_put {qs : List Nat} {ps : List Prod} (h : qs.length = ps.length) (q : Nat) : aset (tabE 0 qs) (ps.length : Int) (vp q 0) = tabE 0 (qs ++ [q]) := by rw [← h, tabE_set]
theorem begins_full (b : Nat) (c : CoS) (o : Go.Proofs.YtccgdnocldmjeaaGreatDoor.Op) (h8 : c.prods.length ≤ 8) (hi : nameAt c.prods o.name = none) (h : 8 ≤ c.prods.length) :
    Trip Tryz.prog 29 [vp b 0, .agg (opC o).toArray] [coA b c] (fun r l => ∃ v, r = .tuple #[.agg (repC ⟨3, 0, 0⟩).toArray, v] ∧ l = [coA b c, markA v []]) := by
  refine Trip.ghE coA_open ?_
  rintro m hm
  have s1 := named_new b m.tb m.mb 48 m.mv (.map (some m.db)) (.map (some m.ab)) (vi c.now) m.qs c.prods o.name hm h8 hi
  have h' : (8 : Int) ≤ c.prods.length := by omega
  simp only [coX, List.cons_append, List.nil_append]
  refine Trip.of_body Tryz.func29 rfl Tryz.ntmps29 Tryz.results29 rfl ?_
  refine Wsr ?_
  (refine WpL.step (Stp.boxV rfl (VC.ag _) rfl ?_); intro nb2)
  (refine WpL.step (Stp.alloc rfl ?_); intro nb3)
  refine Ls (Rdo.assign rfl) (Lnt (Wsr (Ls (Rdo.move rfl) (Ls (Rdo.fieldAddr0 rfl) (Ls (Rdo.load rfl (Lds.next (Lds.one rfl))) ?_)))))
  refine WpL.step (Sc (s1) rfl ?_)
  rintro _ _ ⟨v13_0, ⟨rfl, rfl⟩⟩
  refine Ll ?_
  refine Ls (Rdo.move rfl) (Ls (Rdo.extract rfl rfl) (Ls (Rdo.extract rfl rfl) (Ls (Rdo.extract rfl rfl) (Ls (Rdo.assign rfl) (Ls (Rdo.assign rfl) (Ls (Rdo.assign rfl) (Lnt (Wsr (Ls (Rdo.assign rfl) (Lnt (Wp.seq (Wp.block (Wsr ?_)))))))))))))
  refine Ls (Rdo.move rfl) (Ls (Rdo.not rfl) (Ls (Rdo.move rfl) (Lw rfl rfl (Rdo.move rfl) (Lw rfl rfl (Rdo.gei rfl rfl) (Ls (Rdo.pick_t rfl rfl) (Ls (Rdo.assign rfl) (Lnt (cK rfl (Wsr ?_)))))))))
  refine Ls (Rdo.bld rfl (BldL.cons rfl (VC.i _ _) (by first | rfl | assumption | (simp <;> done)) (by repeat (first | exact LPut.nil _ | apply LPut.here | apply LPut.next)) (BldL.nil _))) ?_
  refine WpL.step (St rfl rfl (VC.ag _) ?_)
  refine Ls (Rdo.assign rfl) (Lnt (Wp.ret ?_))
  refine Blk.r ?_
  refine Thn.r ?_
  exact Ret.now (by repeat (first | exact ResV.nil | apply ResV.tmp rfl | apply ResV.cell rfl (by repeat (first | exact Lds.one rfl | (apply Lds.all; (first | rfl | assumption | (simp <;> fail))) | exact Lds.ione0 | exact Lds.ione rfl | (apply Lds.iall; (first | rfl | assumption | (simp <;> fail))) | apply Lds.next)))) (Gh.trans Gk (fin0 m hm)) ⟨_, rfl, rfl⟩
theorem begins_new (b : Nat) (c : CoS) (o : Go.Proofs.YtccgdnocldmjeaaGreatDoor.Op) (h8 : c.prods.length ≤ 8) (hi : nameAt c.prods o.name = none) (h : ¬ 8 ≤ c.prods.length) (hml : c.marks.length ≤ 900000) :
    Trip Tryz.prog 29 [vp b 0, .agg (opC o).toArray] [coA b c] (fun r l => ∃ v, r = .tuple #[.agg (repC (c.begins o.name).1).toArray, v] ∧ l = [coA b (c.begins o.name).2.2, markA v (c.begins o.name).2.1]) := by
  unfold CoS.begins
  simp only [hi]
  rw [if_neg h]
  refine Trip.ghE coA_open ?_
  rintro m hm
  have s1 := named_new b m.tb m.mb 48 m.mv (.map (some m.db)) (.map (some m.ab)) (vi c.now) m.qs c.prods o.name hm h8 hi
  have s2 := told_ok b 48 (vp m.tb 0) m.mv (.map (some m.db)) (.map (some m.ab)) (vi c.now) c.marks ⟨1, c.prods.length, 0, 0⟩ (by omega)
  have h' : ¬ (8 : Int) ≤ c.prods.length := by omega
  simp only [coX, List.cons_append, List.nil_append]
  refine Trip.of_body Tryz.func29 rfl Tryz.ntmps29 Tryz.results29 rfl ?_
  refine Wsr ?_
  (refine WpL.step (Stp.boxV rfl (VC.ag _) rfl ?_); intro nb2)
  (refine WpL.step (Stp.alloc rfl ?_); intro nb3)
  refine Ls (Rdo.assign rfl) (Lnt (Wsr (Ls (Rdo.move rfl) (Ls (Rdo.fieldAddr0 rfl) (Ls (Rdo.load rfl (Lds.next (Lds.one rfl))) ?_)))))
  refine WpL.step (Sc (s1) rfl ?_)
  rintro _ _ ⟨v13_0, ⟨rfl, rfl⟩⟩
  refine Ll ?_
  refine Ls (Rdo.move rfl) (Ls (Rdo.extract rfl rfl) (Ls (Rdo.extract rfl rfl) (Ls (Rdo.extract rfl rfl) (Ls (Rdo.assign rfl) (Ls (Rdo.assign rfl) (Ls (Rdo.assign rfl) (Lnt (Wsr (Ls (Rdo.assign rfl) (Lnt (Wp.seq (Wp.block (Wsr ?_)))))))))))))
  refine Ls (Rdo.move rfl) (Ls (Rdo.not rfl) (Ls (Rdo.move rfl) (Lw rfl rfl (Rdo.move rfl) (Lw rfl rfl (Rdo.gei rfl rfl) (Ls (Rdo.pick_t rfl rfl) (Ls (Rdo.assign rfl) (Lnt (cL rfl (Wsr (Ls (Rdo.move rfl) (Ls (Rdo.not rfl) (Ls (Rdo.assign rfl) (Lnt ?_)))))))))))))
  refine Wp.condT rfl ?_
  refine Wp.region (Ls (Rdo.move rfl) (Ls (Rdo.nilCheck rfl) (Ls (Rdo.fieldAddr0 rfl) (Ls (Rdo.load rfl (Lds.next (Lds.one rfl))) (Ls (Rdo.move rfl) (Ls (Rdo.move rfl) ?_))))))
  refine WpL.step (Sc (Tabprod.set_ok _ _ _ _ _) rfl ?_)
  rintro _ _ ⟨rfl, rfl⟩
  refine Ll ?_
  refine WpL.nil (Blk.n (Thn.n (Wsr (Ls (Rdo.move rfl) (Ls (Rdo.move rfl) (Ls (Rdo.move rfl) (Ls (Rdo.move rfl) (Ls (Rdo.nilCheck rfl) (Ls (Rdo.fieldAddr0 rfl) (Ls (Rdo.load rfl (Lds.next (Lds.next (Lds.one rfl)))) ?_))))))))))
  refine Ls (Rdo.bld rfl (BldL.cons rfl (VC.i _ _) (by first | rfl | assumption | (simp <;> done)) (by repeat (first | exact LPut.nil _ | apply LPut.here | apply LPut.next)) (BldL.cons rfl (VC.i _ _) (by first | rfl | assumption | (simp <;> done)) (by repeat (first | exact LPut.nil _ | apply LPut.here | apply LPut.next)) (BldL.cons rfl (VC.i _ _) (by first | rfl | assumption | (simp <;> done)) (by repeat (first | exact LPut.nil _ | apply LPut.here | apply LPut.next)) (BldL.nil _))))) ?_
  refine WpL.step (Sc (s2) rfl ?_)
  rintro _ _ ⟨v75_0, ⟨v75_1, ⟨rfl, rfl⟩⟩⟩
  refine Ll ?_
  (refine WpL.step (Stp.appendN rfl rfl (Src.next (Src.next (Src.cel (by first | rfl | (simp <;> done) | (simp <;> omega))))) (by first | rfl | (simp <;> done) | (simp <;> omega)) (by first | assumption | exact oneCells1 rfl | exact oneCells1 (by assumption) | exact oneCells_bytesC _ | exact oneCells_votesC _ | (simp [oneCells, Value.oneCell'] <;> done)) (by first | omega | (simp <;> omega)) (by first | omega | (simp <;> omega)) rfl (by first | rfl | (simp <;> done)) ?_); intro na77 nc77)
  refine Ls (Rdo.assign rfl) (Lnt (Wsr (Ls (Rdo.move rfl) (Ls (Rdo.move rfl) (Ls (Rdo.nilCheck rfl) (Ls (Rdo.fieldAddr0 rfl) (Ls (Rdo.load rfl (Lds.next (Lds.next (Lds.next (Lds.next (Lds.next (Lds.next (Lds.one rfl)))))))) ?_)))))))
  refine Ls (Rdo.bld rfl (BldL.cons rfl (VC.i _ _) (by first | rfl | assumption | (simp <;> done)) (by repeat (first | exact LPut.nil _ | apply LPut.here | apply LPut.next)) (BldL.cons rfl (VC.i _ _) (by first | rfl | assumption | (simp <;> done)) (by repeat (first | exact LPut.nil _ | apply LPut.here | apply LPut.next)) (BldL.nil _)))) ?_
  refine Ls (Rdo.move rfl) ?_
  refine WpL.step (St rfl rfl (VC.ag _) ?_)
  refine Ls (Rdo.assign rfl) (Lnt (Wp.ret ?_))
  refine Ret.now (by repeat (first | exact ResV.nil | apply ResV.tmp rfl | apply ResV.cell rfl (by repeat (first | exact Lds.one rfl | (apply Lds.all; (first | rfl | assumption | (simp <;> fail))) | exact Lds.ione0 | exact Lds.ione rfl | (apply Lds.iall; (first | rfl | assumption | (simp <;> fail))) | apply Lds.next)))) (Gh.trans (b := cel v13_0 84 (prodC ⟨o.name, 0, 0, false, [], 0⟩ (.map none)) :: prodsA m.qs c.prods :: cel b 48 (coC c { m with mv := v75_0 }) :: cel m.tb 74 [.map (some m.mb)] :: mapA i64 m.mb (aset (tabE 0 m.qs) c.prods.length (vp v13_0 0)) ::
    rowA 61 4 v75_0 (c.marks ++ [(⟨1, c.prods.length, 0, 0⟩ : Mark)]).length ((c.marks ++ [(⟨1, c.prods.length, 0, 0⟩ : Mark)]).map markC).flatten :: mapA markV m.db (c.decided.map fun k => (k, vb true)) :: mapA askV m.ab (c.answers.map fun x => (x.1, .agg (repC x.2).toArray)) :: [markA (.slice na77 1 nc77) [⟨1, c.prods.length, 0, 0⟩]])
    Gk (Gh.trans (prodA_shut0 rfl) (Gh.trans (Gh.partN hm) ?_))) ⟨_, rfl, rfl⟩
  rw [tabE_put hm]
  refine Gh.trans Gk (fin1 (c := { c with prods := c.prods ++ [⟨o.name, 0, 0, false, [], 0⟩], marks := c.marks ++ [⟨1, c.prods.length, 0, 0⟩] }) { m with mv := v75_0, qs := m.qs ++ [v13_0] } (by simp [hm]))
theorem tab_open {b tb mb : Nat} {t : TypeId} {v1 v2 v3 v4 : Value} {qs : List Nat} {ps : List Prod} {i q : Nat} {p : Prod} (hqi : qs[i]? = some q) (hpi : ps[i]? = some p) :
    GhE (tabL b tb mb t v1 v2 v3 v4 qs ps) (fun _ : Value => True) (fun v => [cel q 84 (prodC p v), pmA v p.opn p.parts, holeA qs ps i, cel b t [vp tb 0, v1, v2, v3, v4], cel tb 74 [.map (some mb)], mapA i64 mb (tabE 0 qs)]) := by
  refine GhE.mk fun F w hl => ?_
  have h1 : Gh (tabL b tb mb t v1 v2 v3 v4 qs ps) (prodsA qs ps :: [cel b t [vp tb 0, v1, v2, v3, v4], cel tb 74 [.map (some mb)], mapA i64 mb (tabE 0 qs)]) := Gk
  exact prodA_open.use ((Gh.part1 hqi hpi).use (h1.use hl))
theorem named_at (b tb mb : Nat) (t : TypeId) (v1 v2 v3 v4 : Value) (qs : List Nat) (ps : List Prod) (s : List UInt8) (hq : qs.length = ps.length) (h8 : ps.length ≤ 8) (i q : Nat) (p : Prod) (hi : nameAt ps s = some i) (hqi : qs[i]? = some q) (hpi : ps[i]? = some p) :
    Trip Tryz.prog 54 [vp b 0, vs s] (tabL b tb mb t v1 v2 v3 v4 qs ps)
      (fun r l => ∃ v, r = .tuple #[vi i, vp q 0, vb true] ∧ l = [cel q 84 (prodC p v), pmA v p.opn p.parts, holeA qs ps i, cel b t [vp tb 0, v1, v2, v3, v4], cel tb 74 [.map (some mb)], mapA i64 mb (tabE 0 qs)]) := by
  refine Trip.viaG (named_in b tb mb t v1 v2 v3 v4 qs ps s hq h8 i q hi hqi) (rest := []) Tk.rfl_ ?_
  rintro v l' ⟨rfl, rfl⟩ F w hl
  rw [List.append_nil] at hl
  obtain ⟨v, _, h⟩ := (tab_open hqi hpi).use hl
  exact ⟨_, ⟨v, rfl, rfl⟩, h⟩
theorem again_used (b : Nat) (c : CoS) (o : Go.Proofs.YtccgdnocldmjeaaGreatDoor.Op) (h8 : c.prods.length ≤ 8) (i : Nat) (p : Prod) (hi : nameAt c.prods o.name = some i) (hpi : c.prods[i]? = some p) (h : 100 ≤ p.epoch) :
    Trip Tryz.prog 29 [vp b 0, .agg (opC o).toArray] [coA b c] (fun r l => ∃ v, r = .tuple #[.agg (repC (c.again i p).1).toArray, v] ∧ l = [coA b (c.again i p).2.2, markA v (c.again i p).2.1]) := by
  unfold CoS.again
  rw [if_pos h]
  refine Trip.ghE coA_open ?_
  rintro m hm
  obtain ⟨q, hqi⟩ : ∃ q, m.qs[i]? = some q := by
    have := (List.getElem?_eq_some_iff.1 hpi).1
    exact ⟨m.qs[i]'(by omega), List.getElem?_eq_getElem (by omega)⟩
  have s1 := named_at b m.tb m.mb 48 m.mv (.map (some m.db)) (.map (some m.ab)) (vi c.now) m.qs c.prods o.name hm h8 i q p hi hqi hpi
  simp only [coX, List.cons_append, List.nil_append]
  refine Trip.of_body Tryz.func29 rfl Tryz.ntmps29 Tryz.results29 rfl ?_
  refine Wsr ?_
  (refine WpL.step (Stp.boxV rfl (VC.ag _) rfl ?_); intro nb2)
  (refine WpL.step (Stp.alloc rfl ?_); intro nb3)
  refine Ls (Rdo.assign rfl) (Lnt (Wsr (Ls (Rdo.move rfl) (Ls (Rdo.fieldAddr0 rfl) (Ls (Rdo.load rfl (Lds.next (Lds.one rfl))) ?_)))))
  refine WpL.step (Sc (s1) rfl ?_)
  rintro _ _ ⟨v13_0, ⟨rfl, rfl⟩⟩
  refine Ll ?_
  refine Ls (Rdo.move rfl) (Ls (Rdo.extract rfl rfl) (Ls (Rdo.extract rfl rfl) (Ls (Rdo.extract rfl rfl) (Ls (Rdo.assign rfl) (Ls (Rdo.assign rfl) (Ls (Rdo.assign rfl) (Lnt (Wsr (Ls (Rdo.assign rfl) (Lnt (Wp.seq (Wp.block (Wsr ?_)))))))))))))
  refine Ls (Rdo.move rfl) (Ls (Rdo.not rfl) (Ls (Rdo.move rfl) (Lp rfl rfl (Lp rfl rfl (Ls (Rdo.pick_f rfl rfl) (Ls (Rdo.assign rfl) (Lnt ?_)))))))
  refine Wp.condF rfl ?_
  refine Wsr (Ls (Rdo.move rfl) (Ls (Rdo.not rfl) (Ls (Rdo.assign rfl) (Lnt ?_))))
  refine Wp.condF rfl ?_
  refine Wsr (Ls (Rdo.move rfl) (Ls (Rdo.nilCheck rfl) (Ls (Rdo.fieldAddr0 rfl) (Ls (Rdo.load rfl (Lds.one rfl)) (Ls (Rdo.gei rfl rfl) (Ls (Rdo.assign rfl) (Lnt (cK rfl (Wsr ?_)))))))))
  refine Ls (Rdo.bld rfl (BldL.cons rfl (VC.i _ _) (by first | rfl | assumption | (simp <;> done)) (by repeat (first | exact LPut.nil _ | apply LPut.here | apply LPut.next)) (BldL.nil _))) ?_
  refine WpL.step (St rfl rfl (VC.ag _) ?_)
  refine Ls (Rdo.assign rfl) (Lnt (Wp.ret ?_))
  refine Blk.r ?_
  refine Thn.r ?_
  exact Ret.now (by repeat (first | exact ResV.nil | apply ResV.tmp rfl | apply ResV.cell rfl (by repeat (first | exact Lds.one rfl | (apply Lds.all; (first | rfl | assumption | (simp <;> fail))) | exact Lds.ione0 | exact Lds.ione rfl | (apply Lds.iall; (first | rfl | assumption | (simp <;> fail))) | apply Lds.next)))) (Gh.trans (b := cel q 84 (prodC p v13_0) :: pmA v13_0 p.opn p.parts :: holeA m.qs c.prods i :: cel b 48 (coC c m) :: cel m.tb 74 [.map (some m.mb)] :: mapA i64 m.mb (tabE 0 m.qs) ::
    rowA 61 4 m.mv c.marks.length (c.marks.map markC).flatten :: mapA markV m.db (c.decided.map fun k => (k, vb true)) :: [mapA askV m.ab (c.answers.map fun x => (x.1, .agg (repC x.2).toArray))])
    Gk (Gh.trans prodA_shut (Gh.trans (Gh.part0 hqi hpi) (Gh.trans Gk (fin0 m hm))))) ⟨_, rfl, rfl⟩
theorem again_open (b : Nat) (c : CoS) (o : Go.Proofs.YtccgdnocldmjeaaGreatDoor.Op) (h8 : c.prods.length ≤ 8) (i : Nat) (p : Prod) (hi : nameAt c.prods o.name = some i) (hpi : c.prods[i]? = some p) (h : ¬ 100 ≤ p.epoch) (h0 : 0 ≤ p.epoch) (ho : p.opn = true) (hml : c.marks.length ≤ 900000) :
    Trip Tryz.prog 29 [vp b 0, .agg (opC o).toArray] [coA b c] (fun r l => ∃ v, r = .tuple #[.agg (repC (c.again i p).1).toArray, v] ∧ l = [coA b (c.again i p).2.2, markA v (c.again i p).2.1]) := by
  unfold CoS.again
  rw [if_neg h, if_pos ho]
  refine Trip.ghE coA_open ?_
  rintro m hm
  obtain ⟨q, hqi⟩ : ∃ q, m.qs[i]? = some q := by
    have := (List.getElem?_eq_some_iff.1 hpi).1
    exact ⟨m.qs[i]'(by omega), List.getElem?_eq_getElem (by omega)⟩
  have s1 := named_at b m.tb m.mb 48 m.mv (.map (some m.db)) (.map (some m.ab)) (vi c.now) m.qs c.prods o.name hm h8 i q p hi hqi hpi
  have s2 := fun pv => decides_ok b q 48 (vp m.tb 0) m.mv (.map (some m.ab)) (vi c.now) pv m.db c.marks c.decided i 3 p (by omega)
  have s3 := fun v1 => told_ok b 48 (vp m.tb 0) v1 (.map (some m.db)) (.map (some m.ab)) (vi c.now) (c.marks ++ [(⟨3, i, p.epoch, p.last⟩ : Mark)]) ⟨1, i, p.epoch + 1, 0⟩ (by simp; omega)
  simp only [coX, List.cons_append, List.nil_append]
  refine Trip.of_body Tryz.func29 rfl Tryz.ntmps29 Tryz.results29 rfl ?_
  refine Wsr ?_
  (refine WpL.step (Stp.boxV rfl (VC.ag _) rfl ?_); intro nb2)
  (refine WpL.step (Stp.alloc rfl ?_); intro nb3)
  refine Ls (Rdo.assign rfl) (Lnt (Wsr (Ls (Rdo.move rfl) (Ls (Rdo.fieldAddr0 rfl) (Ls (Rdo.load rfl (Lds.next (Lds.one rfl))) ?_)))))
  refine WpL.step (Sc (s1) rfl ?_)
  rintro _ _ ⟨v13_0, ⟨rfl, rfl⟩⟩
  refine Ll ?_
  refine Ls (Rdo.move rfl) (Ls (Rdo.extract rfl rfl) (Ls (Rdo.extract rfl rfl) (Ls (Rdo.extract rfl rfl) (Ls (Rdo.assign rfl) (Ls (Rdo.assign rfl) (Ls (Rdo.assign rfl) (Lnt (Wsr (Ls (Rdo.assign rfl) (Lnt (Wp.seq (Wp.block (Wsr ?_)))))))))))))
  refine Ls (Rdo.move rfl) (Ls (Rdo.not rfl) (Ls (Rdo.move rfl) (Lp rfl rfl (Lp rfl rfl (Ls (Rdo.pick_f rfl rfl) (Ls (Rdo.assign rfl) (Lnt ?_)))))))
  refine Wp.condF rfl ?_
  refine Wsr (Ls (Rdo.move rfl) (Ls (Rdo.not rfl) (Ls (Rdo.assign rfl) (Lnt ?_))))
  refine Wp.condF rfl ?_
  refine Wsr (Ls (Rdo.move rfl) (Ls (Rdo.nilCheck rfl) (Ls (Rdo.fieldAddr0 rfl) (Ls (Rdo.load rfl (Lds.one rfl)) (Ls (Rdo.gei rfl rfl) (Ls (Rdo.assign rfl) (Lnt (cL rfl (Wp.seq (Wsr (Ls (Rdo.move rfl) (Ls (Rdo.nilCheck rfl) (Ls (Rdo.fieldAddr0 rfl) ?_)))))))))))))
  refine Ls (Rdo.load rfl (Lds.one rfl)) (Lnt (cK rfl (Wp.region (Ls (Rdo.move rfl) (Ls (Rdo.move rfl) (Ls (Rdo.move rfl) ?_))))))
  refine WpL.step (Sc (s2 _) rfl ?_)
  rintro _ _ ⟨v77_0, ⟨v77_1, ⟨rfl, rfl⟩⟩⟩
  refine Ll ?_
  refine Ls (Rdo.assign rfl) (Lnt (Wsr (Ls (Rdo.move rfl) (Ls (Rdo.nilCheck rfl) (Ls (Rdo.fieldAddr0 rfl) (Ls (Rdo.load rfl (Lds.next (Lds.next (Lds.next (Lds.next (Lds.one rfl)))))) ?_))))))
  refine Ls (Rdo.add64 rfl rfl (by first | omega | (dsimp only; omega))) ?_
  refine Ls (Rdo.nilCheck rfl) (Ls (Rdo.fieldAddr0 rfl) ?_)
  refine WpL.step (Stp.storeV rfl rfl (VC.i _ _) rfl (Sts.next (Sts.next (Sts.next (Sts.next (Sp (oneCells1 rfl)))))) ?_)
  refine Lnt (Wp.region (Ls (Rdo.move rfl) (Ls (Rdo.nilCheck rfl) (Ls (Rdo.fieldAddr0 rfl) ?_))))
  refine WpL.step (Stp.storeV rfl rfl (VC.i _ _) rfl (Sts.next (Sts.next (Sts.next (Sts.next (Sp (oneCells1 rfl)))))) ?_)
  refine WpL.nil (Blk.n (Thn.n (Wsr (Ls (Rdo.move rfl) (Ls (Rdo.move rfl) (Ls (Rdo.move rfl) (Ls (Rdo.move rfl) (Ls (Rdo.nilCheck rfl) (Ls (Rdo.fieldAddr0 rfl) (Ls (Rdo.load rfl (Lds.next (Lds.next (Lds.next (Lds.next (Lds.one rfl)))))) ?_))))))))))
  refine Ls (Rdo.bld rfl (BldL.cons rfl (VC.i _ _) (by first | rfl | assumption | (simp <;> done)) (by repeat (first | exact LPut.nil _ | apply LPut.here | apply LPut.next)) (BldL.cons rfl (VC.i _ _) (by first | rfl | assumption | (simp <;> done)) (by repeat (first | exact LPut.nil _ | apply LPut.here | apply LPut.next)) (BldL.cons rfl (VC.i _ _) (by first | rfl | assumption | (simp <;> done)) (by repeat (first | exact LPut.nil _ | apply LPut.here | apply LPut.next)) (BldL.nil _))))) ?_
  refine WpL.step (Sc (s3 _) rfl ?_)
  rintro _ _ ⟨v113_0, ⟨v113_1, ⟨rfl, rfl⟩⟩⟩
  refine Ll ?_
  refine WpL.gh (Gh.row (b := v77_1) (n := 1) (sz := 4) (cs := markC ⟨3, i, p.epoch, p.last⟩) (Pk.next (Pk.next (Pk.next Pk.here))) rfl) ?_
  (refine WpL.step (Stp.appendP rfl rfl Pk.here (Src.next (Src.next (Src.cel (by first | rfl | (simp <;> done) | (simp <;> omega))))) (by first | rfl | (simp <;> done) | (simp <;> omega)) (by first | assumption | exact oneCells1 rfl | exact oneCells1 (by assumption) | exact oneCells_bytesC _ | exact oneCells_votesC _ | (simp [oneCells, Value.oneCell'] <;> done)) (by first | omega | (simp <;> omega)) (by first | omega | (simp <;> omega)) rfl (by first | rfl | (simp <;> done)) ?_); intro na0 nc0)
  refine Ls (Rdo.assign rfl) (Lnt (Wsr (Ls (Rdo.move rfl) (Ls (Rdo.move rfl) (Ls (Rdo.nilCheck rfl) (Ls (Rdo.fieldAddr0 rfl) (Ls (Rdo.load rfl (Lds.next (Lds.next (Lds.next (Lds.next (Lds.next (Lds.one rfl))))))) ?_)))))))
  refine Ls (Rdo.bld rfl (BldL.cons rfl (VC.i _ _) (by first | rfl | assumption | (simp <;> done)) (by repeat (first | exact LPut.nil _ | apply LPut.here | apply LPut.next)) (BldL.cons rfl (VC.i _ _) (by first | rfl | assumption | (simp <;> done)) (by repeat (first | exact LPut.nil _ | apply LPut.here | apply LPut.next)) (BldL.nil _)))) ?_
  refine Ls (Rdo.move rfl) ?_
  refine WpL.step (St rfl rfl (VC.ag _) ?_)
  refine Ls (Rdo.assign rfl) (Lnt (Wp.ret ?_))
  have hc : ((c.decide i p 3).put i { p with opn := false, parts := [], epoch := p.epoch + 1, last := 0 }).lay ⟨1, i, p.epoch + 1, 0⟩ =
    { c with prods := c.prods.set i { p with opn := false, parts := [], epoch := p.epoch + 1, last := 0 }, marks := c.marks ++ [⟨3, i, p.epoch, p.last⟩] ++ [⟨1, i, p.epoch + 1, 0⟩], decided := addD c.decided ⟨3, i, p.epoch, p.last⟩ } := by simp [CoS.lay, CoS.put, CoS.decide]
  rw [hc]
  refine Ret.now (by repeat (first | exact ResV.nil | apply ResV.tmp rfl | apply ResV.cell rfl (by repeat (first | exact Lds.one rfl | (apply Lds.all; (first | rfl | assumption | (simp <;> fail))) | exact Lds.ione0 | exact Lds.ione rfl | (apply Lds.iall; (first | rfl | assumption | (simp <;> fail))) | apply Lds.next)))) (Gh.trans (b := cel q 84 (prodC { p with opn := false, parts := [], epoch := p.epoch + 1, last := 0 } (.map none)) :: holeA m.qs c.prods i :: cel b 48 (coC c { m with mv := v113_0 }) :: cel m.tb 74 [.map (some m.mb)] :: mapA i64 m.mb (tabE 0 m.qs) ::
    rowA 61 4 v113_0 (c.marks ++ [(⟨3, i, p.epoch, p.last⟩ : Mark)] ++ [(⟨1, i, p.epoch + 1, 0⟩ : Mark)]).length ((c.marks ++ [(⟨3, i, p.epoch, p.last⟩ : Mark)] ++ [(⟨1, i, p.epoch + 1, 0⟩ : Mark)]).map markC).flatten :: mapA markV m.db (aset (c.decided.map fun k => (k, vb true)) ⟨3, i, p.epoch, p.last⟩ (vb true)) :: mapA askV m.ab (c.answers.map fun x => (x.1, .agg (repC x.2).toArray)) :: [markA (.slice na0 (1 + 1) nc0) [⟨3, i, p.epoch, p.last⟩, ⟨1, i, p.epoch + 1, 0⟩]])
    Gk (Gh.trans (prodA_shut0 (p := { p with opn := false, parts := [], epoch := p.epoch + 1, last := 0 }) rfl) (Gh.trans (Gh.part2 hqi (List.getElem?_eq_some_iff.1 hpi).1) ?_))) ⟨_, rfl, rfl⟩
  rw [aset_keys]
  exact Gh.trans Gk (fin1 (c := { c with prods := c.prods.set i { p with opn := false, parts := [], epoch := p.epoch + 1, last := 0 }, marks := c.marks ++ [⟨3, i, p.epoch, p.last⟩] ++ [⟨1, i, p.epoch + 1, 0⟩], decided := addD c.decided ⟨3, i, p.epoch, p.last⟩ }) { m with mv := v113_0 } (by simp [hm]))
theorem again_shut (b : Nat) (c : CoS) (o : Go.Proofs.YtccgdnocldmjeaaGreatDoor.Op) (h8 : c.prods.length ≤ 8) (i : Nat) (p : Prod) (hi : nameAt c.prods o.name = some i) (hpi : c.prods[i]? = some p) (h : ¬ 100 ≤ p.epoch) (h0 : 0 ≤ p.epoch) (ho : p.opn = false) (hml : c.marks.length ≤ 900000) :
    Trip Tryz.prog 29 [vp b 0, .agg (opC o).toArray] [coA b c] (fun r l => ∃ v, r = .tuple #[.agg (repC (c.again i p).1).toArray, v] ∧ l = [coA b (c.again i p).2.2, markA v (c.again i p).2.1]) := by
  unfold CoS.again
  rw [if_neg h, if_neg (by simp [ho])]
  refine Trip.ghE coA_open ?_
  rintro m hm
  obtain ⟨q, hqi⟩ : ∃ q, m.qs[i]? = some q := by
    have := (List.getElem?_eq_some_iff.1 hpi).1
    exact ⟨m.qs[i]'(by omega), List.getElem?_eq_getElem (by omega)⟩
  have s1 := named_at b m.tb m.mb 48 m.mv (.map (some m.db)) (.map (some m.ab)) (vi c.now) m.qs c.prods o.name hm h8 i q p hi hqi hpi
  have s3 := fun v1 => told_ok b 48 (vp m.tb 0) v1 (.map (some m.db)) (.map (some m.ab)) (vi c.now) c.marks ⟨1, i, p.epoch + 1, 0⟩ (by omega)
  simp only [coX, List.cons_append, List.nil_append]
  refine Trip.of_body Tryz.func29 rfl Tryz.ntmps29 Tryz.results29 rfl ?_
  refine Wsr ?_
  (refine WpL.step (Stp.boxV rfl (VC.ag _) rfl ?_); intro nb2)
  (refine WpL.step (Stp.alloc rfl ?_); intro nb3)
  refine Ls (Rdo.assign rfl) (Lnt (Wsr (Ls (Rdo.move rfl) (Ls (Rdo.fieldAddr0 rfl) (Ls (Rdo.load rfl (Lds.next (Lds.one rfl))) ?_)))))
  refine WpL.step (Sc (s1) rfl ?_)
  rintro _ _ ⟨v13_0, ⟨rfl, rfl⟩⟩
  refine Ll ?_
  refine Ls (Rdo.move rfl) (Ls (Rdo.extract rfl rfl) (Ls (Rdo.extract rfl rfl) (Ls (Rdo.extract rfl rfl) (Ls (Rdo.assign rfl) (Ls (Rdo.assign rfl) (Ls (Rdo.assign rfl) (Lnt (Wsr (Ls (Rdo.assign rfl) (Lnt (Wp.seq (Wp.block (Wsr ?_)))))))))))))
  refine Ls (Rdo.move rfl) (Ls (Rdo.not rfl) (Ls (Rdo.move rfl) (Lp rfl rfl (Lp rfl rfl (Ls (Rdo.pick_f rfl rfl) (Ls (Rdo.assign rfl) (Lnt ?_)))))))
  refine Wp.condF rfl ?_
  refine Wsr (Ls (Rdo.move rfl) (Ls (Rdo.not rfl) (Ls (Rdo.assign rfl) (Lnt ?_))))
  refine Wp.condF rfl ?_
  refine Wsr (Ls (Rdo.move rfl) (Ls (Rdo.nilCheck rfl) (Ls (Rdo.fieldAddr0 rfl) (Ls (Rdo.load rfl (Lds.one rfl)) (Ls (Rdo.gei rfl rfl) (Ls (Rdo.assign rfl) (Lnt (cL rfl (Wp.seq (Wsr (Ls (Rdo.move rfl) (Ls (Rdo.nilCheck rfl) (Ls (Rdo.fieldAddr0 rfl) ?_)))))))))))))
  refine Ls (Rdo.load rfl (Lds.one rfl)) (Lnt (cL rfl (Wp.skip (Thn.n (Wsr (Ls (Rdo.move rfl) (Ls (Rdo.nilCheck rfl) (Ls (Rdo.fieldAddr0 rfl) (Ls (Rdo.load rfl (Lds.one rfl)) ?_)))))))))
  refine Ls (Rdo.add64 rfl rfl (by first | omega | (dsimp only; omega))) ?_
  refine Ls (Rdo.nilCheck rfl) (Ls (Rdo.fieldAddr0 rfl) ?_)
  refine WpL.step (Stp.storeV rfl rfl (VC.i _ _) rfl (Sp (oneCells1 rfl)) ?_)
  refine Lnt (Wp.region (Ls (Rdo.move rfl) (Ls (Rdo.nilCheck rfl) (Ls (Rdo.fieldAddr0 rfl) ?_))))
  refine WpL.step (Stp.storeV rfl rfl (VC.i _ _) rfl (Sp (oneCells1 rfl)) ?_)
  refine WpL.nil (Blk.n (Thn.n (Wsr (Ls (Rdo.move rfl) (Ls (Rdo.move rfl) (Ls (Rdo.move rfl) (Ls (Rdo.move rfl) (Ls (Rdo.nilCheck rfl) (Ls (Rdo.fieldAddr0 rfl) (Ls (Rdo.load rfl (Lds.one rfl)) ?_))))))))))
  refine Ls (Rdo.bld rfl (BldL.cons rfl (VC.i _ _) (by first | rfl | assumption | (simp <;> done)) (by repeat (first | exact LPut.nil _ | apply LPut.here | apply LPut.next)) (BldL.cons rfl (VC.i _ _) (by first | rfl | assumption | (simp <;> done)) (by repeat (first | exact LPut.nil _ | apply LPut.here | apply LPut.next)) (BldL.cons rfl (VC.i _ _) (by first | rfl | assumption | (simp <;> done)) (by repeat (first | exact LPut.nil _ | apply LPut.here | apply LPut.next)) (BldL.nil _))))) ?_
  refine WpL.step (Sc (s3 _) rfl ?_)
  rintro _ _ ⟨v105_0, ⟨v105_1, ⟨rfl, rfl⟩⟩⟩
  refine Ll ?_
  (refine WpL.step (Stp.appendN rfl rfl (Src.next (Src.next (Src.cel (by first | rfl | (simp <;> done) | (simp <;> omega))))) (by first | rfl | (simp <;> done) | (simp <;> omega)) (by first | assumption | exact oneCells1 rfl | exact oneCells1 (by assumption) | exact oneCells_bytesC _ | exact oneCells_votesC _ | (simp [oneCells, Value.oneCell'] <;> done)) (by first | omega | (simp <;> omega)) (by first | omega | (simp <;> omega)) rfl (by first | rfl | (simp <;> done)) ?_); intro na107 nc107)
  refine Ls (Rdo.assign rfl) (Lnt (Wsr (Ls (Rdo.move rfl) (Ls (Rdo.move rfl) (Ls (Rdo.nilCheck rfl) (Ls (Rdo.fieldAddr0 rfl) (Ls (Rdo.load rfl (Lds.next (Lds.next (Lds.next (Lds.next (Lds.one rfl)))))) ?_)))))))
  refine Ls (Rdo.bld rfl (BldL.cons rfl (VC.i _ _) (by first | rfl | assumption | (simp <;> done)) (by repeat (first | exact LPut.nil _ | apply LPut.here | apply LPut.next)) (BldL.cons rfl (VC.i _ _) (by first | rfl | assumption | (simp <;> done)) (by repeat (first | exact LPut.nil _ | apply LPut.here | apply LPut.next)) (BldL.nil _)))) ?_
  refine Ls (Rdo.move rfl) ?_
  refine WpL.step (St rfl rfl (VC.ag _) ?_)
  refine Ls (Rdo.assign rfl) (Lnt (Wp.ret ?_))
  refine Ret.now (by repeat (first | exact ResV.nil | apply ResV.tmp rfl | apply ResV.cell rfl (by repeat (first | exact Lds.one rfl | (apply Lds.all; (first | rfl | assumption | (simp <;> fail))) | exact Lds.ione0 | exact Lds.ione rfl | (apply Lds.iall; (first | rfl | assumption | (simp <;> fail))) | apply Lds.next)))) (Gh.trans (b := cel q 84 (prodC { p with epoch := p.epoch + 1, last := 0 } v13_0) :: pmA v13_0 p.opn p.parts :: holeA m.qs c.prods i :: cel b 48 (coC c { m with mv := v105_0 }) :: cel m.tb 74 [.map (some m.mb)] :: mapA i64 m.mb (tabE 0 m.qs) ::
    rowA 61 4 v105_0 (c.marks ++ [(⟨1, i, p.epoch + 1, 0⟩ : Mark)]).length ((c.marks ++ [(⟨1, i, p.epoch + 1, 0⟩ : Mark)]).map markC).flatten :: mapA markV m.db (c.decided.map fun k => (k, vb true)) :: mapA askV m.ab (c.answers.map fun x => (x.1, .agg (repC x.2).toArray)) :: [markA (.slice na107 1 nc107) [⟨1, i, p.epoch + 1, 0⟩]])
    Gk (Gh.trans (prodA_shut (p := { p with epoch := p.epoch + 1, last := 0 })) (Gh.trans (Gh.part2 hqi (List.getElem?_eq_some_iff.1 hpi).1) ?_))) ⟨_, rfl, rfl⟩
  exact Gh.trans Gk (fin1 (c := (c.put i { p with epoch := p.epoch + 1, last := 0 }).lay ⟨1, i, p.epoch + 1, 0⟩) { m with mv := v105_0 } (by simp [CoS.lay, CoS.put, hm]))
theorem nameAt_get {ps : List Prod} {s : List UInt8} {i : Nat} (h : nameAt ps s = some i) : ∃ p, ps[i]? = some p ∧ p.name = s := by
  obtain ⟨h1, h2, _⟩ := List.findIdx?_eq_some_iff_getElem.1 h
  exact ⟨ps[i], List.getElem?_eq_getElem h1, by simpa using h2⟩
theorem begins_ok (b : Nat) (c : CoS) (o : Go.Proofs.YtccgdnocldmjeaaGreatDoor.Op) (h8 : c.prods.length ≤ 8) (hml : c.marks.length ≤ 900000) (hep : ∀ p ∈ c.prods, 0 ≤ p.epoch) :
    Trip Tryz.prog 29 [vp b 0, .agg (opC o).toArray] [coA b c] (fun r l => ∃ v, r = .tuple #[.agg (repC (c.begins o.name).1).toArray, v] ∧ l = [coA b (c.begins o.name).2.2, markA v (c.begins o.name).2.1]) := by
  cases hi : nameAt c.prods o.name with
  | none =>
    by_cases h : 8 ≤ c.prods.length
    · have h1 := begins_full b c o h8 hi h
      unfold CoS.begins
      simp only [hi]
      rw [if_pos h]
      exact h1
    · exact begins_new b c o h8 hi h hml
  | some i =>
    obtain ⟨p, hpi, _⟩ := nameAt_get hi
    have hb : c.begins o.name = c.again i p := by
      unfold CoS.begins
      simp only [hi]
      rw [List.getD_eq_getElem?_getD, hpi]
      rfl
    have h0 := hep p (List.mem_of_getElem? hpi)
    rw [hb]
    by_cases h : 100 ≤ p.epoch
    · exact again_used b c o h8 i p hi hpi h
    · cases ho : p.opn with
      | true => exact again_open b c o h8 i p hi hpi h h0 ho hml
      | false => exact again_shut b c o h8 i p hi hpi h h0 ho hml
end Go.Proofs.YtccgdnocldmjeaaGreatDoor
namespace Go.Proofs.YtccgdnocldmjeaaGreatDoor
open Go
set_option maxHeartbeats 4000000
set_option linter.unusedSimpArgs false
set_option linter.unusedVariables false
set_option maxRecDepth 20000
theorem ends_now (b q db : Nat) (v0 v1 v3 v4 pv : Value) (ms ds : List Mark) (o : Go.Proofs.YtccgdnocldmjeaaGreatDoor.Op) (p : Prod) (hl : ms.length ≤ 1000000) (h1 : p.opn = true) (h2 : o.txn = p.last) :
    Trip Tryz.prog 33 [vp b 0, .agg (opC o).toArray, vp q 0] [cel b 48 [v0, v1, .map (some db), v3, v4], rowA 61 4 v1 ms.length (ms.map markC).flatten, mapA markV db (ds.map fun k => (k, vb true)), cel q 84 (prodC p pv)]
      (fun r l => ∃ v1' nb, r = .tuple #[vi 0, .slice (some ⟨nb, 0, none⟩) 1 1] ∧ l = [cel b 48 [v0, v1', .map (some db), v3, v4], rowA 61 4 v1' (ms ++ [(⟨kindOf o.commit, o.producer, p.epoch, p.last⟩ : Mark)]).length ((ms ++ [(⟨kindOf o.commit, o.producer, p.epoch, p.last⟩ : Mark)]).map markC).flatten, cel nb 61 (markC ⟨kindOf o.commit, o.producer, p.epoch, p.last⟩),
        mapA markV db (aset (ds.map fun k => (k, vb true)) ⟨kindOf o.commit, o.producer, p.epoch, p.last⟩ (vb true)), cel q 84 (prodC { p with opn := false } (.map none))]) := by
  have s1 := fun kind => decides_ok b q 48 v0 v1 v3 v4 pv db ms ds o.producer kind p hl
  cases hc : o.commit with
  | true =>
    have s2 := s1 2
    clear s1
    simp only [kindOf, if_true]
    refine Trip.of_body Tryz.func33 rfl Tryz.ntmps33 Tryz.results33 rfl ?_
    refine Wsr ?_
    (refine WpL.step (Stp.boxV rfl (VC.ag _) rfl ?_); intro nb2)
    refine Ls (Rdo.assign rfl) (Ls (Rdo.assign rfl) (Lnt (Wsr (Ls (Rdo.assign rfl) (Lnt (Wp.seq (Wsr (Ls (Rdo.fieldAddr0 rfl) (Ls (Rdo.load rfl (Lds.one rfl)) (Lnt (cK rfl (Wp.region (Ls (Rdo.assign rfl) ?_)))))))))))))
    refine Lnt (Wp.seq (Wp.block (Wp.seq ?_)))
    refine Wp.draw (by kernel_rfl) ?_
    refine Qt (i := 0) rfl (Rdo.move rfl) (Qt (i := 1) rfl (Rdo.nilCheck rfl) (Qt (i := 2) rfl (Rdo.fieldAddr0 rfl) ?_))
    refine Qo (i := 3) rfl (Stp.rd (Rdo.load rfl (Lds.next (Lds.next (Lds.next (Lds.next (Lds.one rfl)))))) rfl ?_)
    refine Qt (i := 4) rfl (Rdo.move rfl) ?_
    refine WpR.tT 16 rfl (by first | rfl | assumption | (simp only [decide_eq_true_eq, decide_eq_false_iff_not, Bool.not_eq_true', Bool.not_eq_false', List.length_cons, List.length_nil]; first | assumption | omega) | (simp <;> done) | (simp <;> omega)) ?_
    refine Qw (i := 5) rfl rfl rfl (Rdo.fieldAddr0 rfl) (Qw (i := 7) rfl rfl rfl (Rdo.move rfl) (Qw (i := 8) rfl rfl rfl (Rdo.nilCheck rfl) (Qw (i := 9) rfl rfl rfl (Rdo.fieldAddr0 rfl) ?_)))
    refine WpR.phaseL (m := 0) #[true, true, true, true, true, true, true, true, true, true, true, true, true, true] 5 _ rfl (by kernel_rfl) (Tk.cons Pk.here (Tk.cons (Pk.next (Pk.next (Pk.next Pk.here))) Tk.nil)) ?_
    refine Aw (i := 6) rfl rfl rfl (Rdo.load rfl (Lds.one rfl)) (Aw (i := 10) rfl rfl rfl (Rdo.load rfl (Lds.next (Lds.one rfl))) (Aw (i := 11) rfl rfl rfl (Rdo.eqi rfl rfl) (At (i := 12) rfl (Rdo.pick_t rfl rfl) (At (i := 13) rfl (Rdo.assign rfl) ?_))))
    refine WpA.stop (by kernel_rfl) ?_
    refine Ql ?_
    refine WpR.done (by kernel_rfl) ?_
    refine Thn.n (cK rfl (Wsr (Ls (Rdo.move rfl) (Ls (Rdo.fieldAddr0 rfl) (Ls (Rdo.load rfl (Lds.one rfl)) (Ls (Rdo.move rfl) (Ls (Rdo.move rfl) ?_)))))))
    refine WpL.step (Sc (s2) rfl ?_)
    rintro _ _ ⟨v57_0, ⟨v57_1, ⟨rfl, rfl⟩⟩⟩
    refine Ll ?_
    refine Ls (Rdo.assign rfl) (Ls (Rdo.assign rfl) (Lnt (Wp.ret ?_)))
    refine Blk.r ?_
    refine Thn.r ?_
    refine Rt (ResV.tmp rfl (ResV.tmp rfl ResV.nil)) ⟨_, ⟨_, ⟨rfl, rfl⟩⟩⟩
  | false =>
    have s2 := s1 3
    clear s1
    simp only [kindOf, Bool.false_eq_true, if_false]
    refine Trip.of_body Tryz.func33 rfl Tryz.ntmps33 Tryz.results33 rfl ?_
    refine Wsr ?_
    (refine WpL.step (Stp.boxV rfl (VC.ag _) rfl ?_); intro nb2)
    refine Ls (Rdo.assign rfl) (Ls (Rdo.assign rfl) (Lnt (Wsr (Ls (Rdo.assign rfl) (Lnt (Wp.seq (Wsr (Ls (Rdo.fieldAddr0 rfl) (Ls (Rdo.load rfl (Lds.one rfl)) (Lnt (cL rfl (Wp.skip (Thn.n ?_)))))))))))))
    refine Wp.seq (Wp.block (Wp.seq ?_))
    refine Wp.draw (by kernel_rfl) ?_
    refine Qt (i := 0) rfl (Rdo.move rfl) (Qt (i := 1) rfl (Rdo.nilCheck rfl) (Qt (i := 2) rfl (Rdo.fieldAddr0 rfl) ?_))
    refine Qo (i := 3) rfl (Stp.rd (Rdo.load rfl (Lds.next (Lds.next (Lds.next (Lds.next (Lds.one rfl)))))) rfl ?_)
    refine Qt (i := 4) rfl (Rdo.move rfl) ?_
    refine WpR.tT 16 rfl (by first | rfl | assumption | (simp only [decide_eq_true_eq, decide_eq_false_iff_not, Bool.not_eq_true', Bool.not_eq_false', List.length_cons, List.length_nil]; first | assumption | omega) | (simp <;> done) | (simp <;> omega)) ?_
    refine Qw (i := 5) rfl rfl rfl (Rdo.fieldAddr0 rfl) (Qw (i := 7) rfl rfl rfl (Rdo.move rfl) (Qw (i := 8) rfl rfl rfl (Rdo.nilCheck rfl) (Qw (i := 9) rfl rfl rfl (Rdo.fieldAddr0 rfl) ?_)))
    refine WpR.phaseL (m := 0) #[true, true, true, true, true, true, true, true, true, true, true, true, true, true] 5 _ rfl (by kernel_rfl) (Tk.cons Pk.here (Tk.cons (Pk.next (Pk.next (Pk.next Pk.here))) Tk.nil)) ?_
    refine Aw (i := 6) rfl rfl rfl (Rdo.load rfl (Lds.one rfl)) (Aw (i := 10) rfl rfl rfl (Rdo.load rfl (Lds.next (Lds.one rfl))) (Aw (i := 11) rfl rfl rfl (Rdo.eqi rfl rfl) (At (i := 12) rfl (Rdo.pick_t rfl rfl) (At (i := 13) rfl (Rdo.assign rfl) ?_))))
    refine WpA.stop (by kernel_rfl) ?_
    refine Ql ?_
    refine WpR.done (by kernel_rfl) ?_
    refine Thn.n (cK rfl (Wsr (Ls (Rdo.move rfl) (Ls (Rdo.fieldAddr0 rfl) (Ls (Rdo.load rfl (Lds.one rfl)) (Ls (Rdo.move rfl) (Ls (Rdo.move rfl) ?_)))))))
    refine WpL.step (Sc (s2) rfl ?_)
    rintro _ _ ⟨v55_0, ⟨v55_1, ⟨rfl, rfl⟩⟩⟩
    refine Ll ?_
    refine Ls (Rdo.assign rfl) (Ls (Rdo.assign rfl) (Lnt (Wp.ret ?_)))
    refine Blk.r ?_
    refine Thn.r ?_
    refine Rt (ResV.tmp rfl (ResV.tmp rfl ResV.nil)) ⟨_, ⟨_, ⟨rfl, rfl⟩⟩⟩
theorem mapVal_keys (ds : List Mark) (m : Mark) : mapVal (ds.map fun k => (k, vb true)) m (vb false) = vb (Decidable.decide (m ∈ ds)) := by
  unfold mapVal
  rw [alook_keys]
  by_cases h : m ∈ ds
  · rw [if_pos h]; simp [h]
  · rw [if_neg h]; simp [h]
theorem ends_else (b q db : Nat) (v0 v1 v3 v4 pv : Value) (ds : List Mark) (o : Go.Proofs.YtccgdnocldmjeaaGreatDoor.Op) (p : Prod) (h : ¬ (p.opn = true ∧ o.txn = p.last)) :
    Trip Tryz.prog 33 [vp b 0, .agg (opC o).toArray, vp q 0] [cel b 48 [v0, v1, .map (some db), v3, v4], mapA markV db (ds.map fun k => (k, vb true)), cel q 84 (prodC p pv)]
      (fun r l => r = .tuple #[vi (if (⟨kindOf o.commit, o.producer, o.epoch, o.txn⟩ : Mark) ∈ ds then 0 else 6), vnil] ∧ l = [cel b 48 [v0, v1, .map (some db), v3, v4], mapA markV db (ds.map fun k => (k, vb true)), cel q 84 (prodC p pv)]) := by
  by_cases hd : (⟨kindOf o.commit, o.producer, o.epoch, o.txn⟩ : Mark) ∈ ds
  · rw [if_pos hd]
    have hv := mapVal_keys ds ⟨kindOf o.commit, o.producer, o.epoch, o.txn⟩
    rw [decide_eq_true hd] at hv
    cases ho : p.opn with
    | true =>
      have h2 : ¬ o.txn = p.last := fun h3 => h ⟨ho, h3⟩
      cases hc : o.commit with
      | true =>
        rw [hc] at hv
        simp only [kindOf, if_true, Bool.false_eq_true, if_false] at hv
        refine Trip.of_body Tryz.func33 rfl Tryz.ntmps33 Tryz.results33 rfl ?_
        refine Wsr ?_
        (refine WpL.step (Stp.boxV rfl (VC.ag _) rfl ?_); intro nb2)
        refine Ls (Rdo.assign rfl) (Ls (Rdo.assign rfl) (Lnt (Wsr (Ls (Rdo.assign rfl) (Lnt (Wp.seq (Wsr (Ls (Rdo.fieldAddr0 rfl) (Ls (Rdo.load rfl (Lds.one rfl)) (Lnt (cK rfl (Wp.region (Ls (Rdo.assign rfl) ?_)))))))))))))
        refine Lnt (Wp.seq (Wp.block (Wp.seq ?_)))
        refine Wp.draw (by kernel_rfl) ?_
        refine Qt (i := 0) rfl (Rdo.move rfl) (Qt (i := 1) rfl (Rdo.nilCheck rfl) (Qt (i := 2) rfl (Rdo.fieldAddr0 rfl) ?_))
        refine Qo (i := 3) rfl (Stp.rd (Rdo.load rfl (Lds.next (Lds.next (Lds.next (Lds.one rfl))))) rfl ?_)
        refine Qt (i := 4) rfl (Rdo.move rfl) ?_
        refine WpR.tT 16 rfl (by first | rfl | assumption | (simp only [decide_eq_true_eq, decide_eq_false_iff_not, Bool.not_eq_true', Bool.not_eq_false', List.length_cons, List.length_nil]; first | assumption | omega) | (simp <;> done) | (simp <;> omega)) ?_
        refine Qw (i := 5) rfl rfl rfl (Rdo.fieldAddr0 rfl) (Qw (i := 7) rfl rfl rfl (Rdo.move rfl) (Qw (i := 8) rfl rfl rfl (Rdo.nilCheck rfl) (Qw (i := 9) rfl rfl rfl (Rdo.fieldAddr0 rfl) ?_)))
        refine WpR.phaseL (m := 0) #[true, true, true, true, true, true, true, true, true, true, true, true, true, true] 5 _ rfl (by kernel_rfl) (Tk.cons Pk.here (Tk.cons (Pk.next (Pk.next Pk.here)) Tk.nil)) ?_
        refine Aw (i := 6) rfl rfl rfl (Rdo.load rfl (Lds.one rfl)) (Aw (i := 10) rfl rfl rfl (Rdo.load rfl (Lds.next (Lds.one rfl))) (Aw (i := 11) rfl rfl rfl (Rdo.eqi rfl rfl) (At (i := 12) rfl (Rdo.pick_t rfl rfl) (At (i := 13) rfl (Rdo.assign rfl) ?_))))
        refine WpA.stop (by kernel_rfl) ?_
        refine Ql ?_
        refine WpR.done (by kernel_rfl) ?_
        refine Thn.n (cL rfl (Wp.seq ?_))
        refine Wp.draw (by kernel_rfl) ?_
        refine Qt (i := 0) rfl (Rdo.move rfl) (Qt (i := 1) rfl (Rdo.nilCheck rfl) (Qt (i := 2) rfl (Rdo.fieldAddr0 rfl) (Qt (i := 4) rfl (Rdo.move rfl) (Qt (i := 5) rfl (Rdo.fieldAddr0 rfl) (Qt (i := 7) rfl (Rdo.fieldAddr0 rfl) (Qt (i := 9) rfl (Rdo.fieldAddr0 rfl) ?_))))))
        refine WpR.load (i := 6) [3, 8, 10] rfl (by kernel_rfl) (by kernel_rfl) (by kernel_rfl) (by kernel_rfl) (by kernel_rfl) rfl Tk.rfl_ (Harm.rd rfl (Rdo.load rfl (Lds.next (Lds.next (Lds.one rfl)))) (Harm.rd rfl (Rdo.load rfl (Lds.one rfl)) (Harm.rd rfl (Rdo.load rfl (Lds.one rfl)) Harm.nil))) (Rdo.load rfl (Lds.one rfl)) rfl ?_
        refine WpR.load (i := 8) [3, 10] rfl (by kernel_rfl) (by kernel_rfl) (by kernel_rfl) (by kernel_rfl) (by kernel_rfl) rfl Tk.rfl_ (Harm.rd rfl (Rdo.load rfl (Lds.next (Lds.next (Lds.one rfl)))) (Harm.rd rfl (Rdo.load rfl (Lds.one rfl)) Harm.nil)) (Rdo.load rfl (Lds.one rfl)) rfl ?_
        refine WpR.load (i := 10) [3] rfl (by kernel_rfl) (by kernel_rfl) (by kernel_rfl) (by kernel_rfl) (by kernel_rfl) rfl Tk.rfl_ (Harm.rd rfl (Rdo.load rfl (Lds.next (Lds.next (Lds.one rfl)))) Harm.nil) (Rdo.load rfl (Lds.one rfl)) rfl ?_
        refine Qt (i := 11) rfl (Rdo.bld rfl (BldL.cons rfl (VC.i _ _) (by first | rfl | assumption | (simp <;> done)) (by repeat (first | exact LPut.nil _ | apply LPut.here | apply LPut.next)) (BldL.cons rfl (VC.i _ _) (by first | rfl | assumption | (simp <;> done)) (by repeat (first | exact LPut.nil _ | apply LPut.here | apply LPut.next)) (BldL.cons rfl (VC.i _ _) (by first | rfl | assumption | (simp <;> done)) (by repeat (first | exact LPut.nil _ | apply LPut.here | apply LPut.next)) (BldL.cons rfl (VC.i _ _) (by first | rfl | assumption | (simp <;> done)) (by repeat (first | exact LPut.nil _ | apply LPut.here | apply LPut.next)) (BldL.nil _)))))) ?_
        refine Qo (i := 3) rfl (Stp.rd (Rdo.load rfl (Lds.next (Lds.next (Lds.one rfl)))) rfl ?_)
        refine Qo (i := 12) rfl (Stp.rd (Rdo.lookup1 (enc := markV) (k := (⟨2, o.producer, o.epoch, o.txn⟩ : Mark)) rfl rfl (Mps.next (Mps.next (Mps.next Mps.here)))) rfl ?_)
        rw [hv]
        refine Qt (i := 13) rfl (Rdo.assign rfl) ?_
        refine WpR.done (by kernel_rfl) ?_
        refine Thn.n ?_
        refine Wp.condT rfl ?_
        refine Wsr (Ls (Rdo.assign rfl) (Ls (Rdo.assign rfl) (Lnt (Wp.ret ?_))))
        refine Blk.r ?_
        refine Thn.r ?_
        refine Rt (ResV.tmp rfl (ResV.tmp rfl ResV.nil)) ⟨rfl, rfl⟩
      | false =>
        rw [hc] at hv
        simp only [kindOf, if_true, Bool.false_eq_true, if_false] at hv
        refine Trip.of_body Tryz.func33 rfl Tryz.ntmps33 Tryz.results33 rfl ?_
        refine Wsr ?_
        (refine WpL.step (Stp.boxV rfl (VC.ag _) rfl ?_); intro nb2)
        refine Ls (Rdo.assign rfl) (Ls (Rdo.assign rfl) (Lnt (Wsr (Ls (Rdo.assign rfl) (Lnt (Wp.seq (Wsr (Ls (Rdo.fieldAddr0 rfl) (Ls (Rdo.load rfl (Lds.one rfl)) (Lnt (cL rfl (Wp.skip (Thn.n ?_)))))))))))))
        refine Wp.seq (Wp.block (Wp.seq ?_))
        refine Wp.draw (by kernel_rfl) ?_
        refine Qt (i := 0) rfl (Rdo.move rfl) (Qt (i := 1) rfl (Rdo.nilCheck rfl) (Qt (i := 2) rfl (Rdo.fieldAddr0 rfl) ?_))
        refine Qo (i := 3) rfl (Stp.rd (Rdo.load rfl (Lds.next (Lds.next (Lds.next (Lds.one rfl))))) rfl ?_)
        refine Qt (i := 4) rfl (Rdo.move rfl) ?_
        refine WpR.tT 16 rfl (by first | rfl | assumption | (simp only [decide_eq_true_eq, decide_eq_false_iff_not, Bool.not_eq_true', Bool.not_eq_false', List.length_cons, List.length_nil]; first | assumption | omega) | (simp <;> done) | (simp <;> omega)) ?_
        refine Qw (i := 5) rfl rfl rfl (Rdo.fieldAddr0 rfl) (Qw (i := 7) rfl rfl rfl (Rdo.move rfl) (Qw (i := 8) rfl rfl rfl (Rdo.nilCheck rfl) (Qw (i := 9) rfl rfl rfl (Rdo.fieldAddr0 rfl) ?_)))
        refine WpR.phaseL (m := 0) #[true, true, true, true, true, true, true, true, true, true, true, true, true, true] 5 _ rfl (by kernel_rfl) (Tk.cons Pk.here (Tk.cons (Pk.next (Pk.next Pk.here)) Tk.nil)) ?_
        refine Aw (i := 6) rfl rfl rfl (Rdo.load rfl (Lds.one rfl)) (Aw (i := 10) rfl rfl rfl (Rdo.load rfl (Lds.next (Lds.one rfl))) (Aw (i := 11) rfl rfl rfl (Rdo.eqi rfl rfl) (At (i := 12) rfl (Rdo.pick_t rfl rfl) (At (i := 13) rfl (Rdo.assign rfl) ?_))))
        refine WpA.stop (by kernel_rfl) ?_
        refine Ql ?_
        refine WpR.done (by kernel_rfl) ?_
        refine Thn.n (cL rfl (Wp.seq ?_))
        refine Wp.draw (by kernel_rfl) ?_
        refine Qt (i := 0) rfl (Rdo.move rfl) (Qt (i := 1) rfl (Rdo.nilCheck rfl) (Qt (i := 2) rfl (Rdo.fieldAddr0 rfl) (Qt (i := 4) rfl (Rdo.move rfl) (Qt (i := 5) rfl (Rdo.fieldAddr0 rfl) (Qt (i := 7) rfl (Rdo.fieldAddr0 rfl) (Qt (i := 9) rfl (Rdo.fieldAddr0 rfl) ?_))))))
        refine WpR.load (i := 6) [3, 8, 10] rfl (by kernel_rfl) (by kernel_rfl) (by kernel_rfl) (by kernel_rfl) (by kernel_rfl) rfl Tk.rfl_ (Harm.rd rfl (Rdo.load rfl (Lds.next (Lds.next (Lds.one rfl)))) (Harm.rd rfl (Rdo.load rfl (Lds.one rfl)) (Harm.rd rfl (Rdo.load rfl (Lds.one rfl)) Harm.nil))) (Rdo.load rfl (Lds.one rfl)) rfl ?_
        refine WpR.load (i := 8) [3, 10] rfl (by kernel_rfl) (by kernel_rfl) (by kernel_rfl) (by kernel_rfl) (by kernel_rfl) rfl Tk.rfl_ (Harm.rd rfl (Rdo.load rfl (Lds.next (Lds.next (Lds.one rfl)))) (Harm.rd rfl (Rdo.load rfl (Lds.one rfl)) Harm.nil)) (Rdo.load rfl (Lds.one rfl)) rfl ?_
        refine WpR.load (i := 10) [3] rfl (by kernel_rfl) (by kernel_rfl) (by kernel_rfl) (by kernel_rfl) (by kernel_rfl) rfl Tk.rfl_ (Harm.rd rfl (Rdo.load rfl (Lds.next (Lds.next (Lds.one rfl)))) Harm.nil) (Rdo.load rfl (Lds.one rfl)) rfl ?_
        refine Qt (i := 11) rfl (Rdo.bld rfl (BldL.cons rfl (VC.i _ _) (by first | rfl | assumption | (simp <;> done)) (by repeat (first | exact LPut.nil _ | apply LPut.here | apply LPut.next)) (BldL.cons rfl (VC.i _ _) (by first | rfl | assumption | (simp <;> done)) (by repeat (first | exact LPut.nil _ | apply LPut.here | apply LPut.next)) (BldL.cons rfl (VC.i _ _) (by first | rfl | assumption | (simp <;> done)) (by repeat (first | exact LPut.nil _ | apply LPut.here | apply LPut.next)) (BldL.cons rfl (VC.i _ _) (by first | rfl | assumption | (simp <;> done)) (by repeat (first | exact LPut.nil _ | apply LPut.here | apply LPut.next)) (BldL.nil _)))))) ?_
        refine Qo (i := 3) rfl (Stp.rd (Rdo.load rfl (Lds.next (Lds.next (Lds.one rfl)))) rfl ?_)
        refine Qo (i := 12) rfl (Stp.rd (Rdo.lookup1 (enc := markV) (k := (⟨3, o.producer, o.epoch, o.txn⟩ : Mark)) rfl rfl (Mps.next (Mps.next (Mps.next Mps.here)))) rfl ?_)
        rw [hv]
        refine Qt (i := 13) rfl (Rdo.assign rfl) ?_
        refine WpR.done (by kernel_rfl) ?_
        refine Thn.n ?_
        refine Wp.condT rfl ?_
        refine Wsr (Ls (Rdo.assign rfl) (Ls (Rdo.assign rfl) (Lnt (Wp.ret ?_))))
        refine Blk.r ?_
        refine Thn.r ?_
        refine Rt (ResV.tmp rfl (ResV.tmp rfl ResV.nil)) ⟨rfl, rfl⟩
    | false =>
      cases hc : o.commit with
      | true =>
        rw [hc] at hv
        simp only [kindOf, if_true, Bool.false_eq_true, if_false] at hv
        refine Trip.of_body Tryz.func33 rfl Tryz.ntmps33 Tryz.results33 rfl ?_
        refine Wsr ?_
        (refine WpL.step (Stp.boxV rfl (VC.ag _) rfl ?_); intro nb2)
        refine Ls (Rdo.assign rfl) (Ls (Rdo.assign rfl) (Lnt (Wsr (Ls (Rdo.assign rfl) (Lnt (Wp.seq (Wsr (Ls (Rdo.fieldAddr0 rfl) (Ls (Rdo.load rfl (Lds.one rfl)) (Lnt (cK rfl (Wp.region (Ls (Rdo.assign rfl) ?_)))))))))))))
        refine Lnt (Wp.seq (Wp.block (Wp.seq ?_)))
        refine Wp.draw (by kernel_rfl) ?_
        refine Qt (i := 0) rfl (Rdo.move rfl) (Qt (i := 1) rfl (Rdo.nilCheck rfl) (Qt (i := 2) rfl (Rdo.fieldAddr0 rfl) ?_))
        refine Qo (i := 3) rfl (Stp.rd (Rdo.load rfl (Lds.next (Lds.next (Lds.next (Lds.one rfl))))) rfl ?_)
        refine Qt (i := 4) rfl (Rdo.move rfl) ?_
        refine WpR.tF 16 rfl (by first | rfl | assumption | (simp only [decide_eq_true_eq, decide_eq_false_iff_not, Bool.not_eq_true', Bool.not_eq_false', List.length_cons, List.length_nil]; first | assumption | omega) | (simp <;> done) | (simp <;> omega)) ?_
        refine Qp (i := 5) rfl rfl rfl (Qp (i := 6) rfl rfl rfl (Qp (i := 7) rfl rfl rfl (Qp (i := 8) rfl rfl rfl (Qp (i := 9) rfl rfl rfl (Qp (i := 10) rfl rfl rfl (Qp (i := 11) rfl rfl rfl (Qt (i := 12) rfl (Rdo.pick_f rfl rfl) (Qt (i := 13) rfl (Rdo.assign rfl) ?_))))))))
        refine WpR.done (by kernel_rfl) ?_
        refine Thn.n ?_
        refine Wp.condF rfl ?_
        refine Wp.seq ?_
        refine Wp.draw (by kernel_rfl) ?_
        refine Qt (i := 0) rfl (Rdo.move rfl) (Qt (i := 1) rfl (Rdo.nilCheck rfl) (Qt (i := 2) rfl (Rdo.fieldAddr0 rfl) (Qt (i := 4) rfl (Rdo.move rfl) (Qt (i := 5) rfl (Rdo.fieldAddr0 rfl) (Qt (i := 7) rfl (Rdo.fieldAddr0 rfl) (Qt (i := 9) rfl (Rdo.fieldAddr0 rfl) ?_))))))
        refine WpR.load (i := 6) [3, 8, 10] rfl (by kernel_rfl) (by kernel_rfl) (by kernel_rfl) (by kernel_rfl) (by kernel_rfl) rfl Tk.rfl_ (Harm.rd rfl (Rdo.load rfl (Lds.next (Lds.one rfl))) (Harm.rd rfl (Rdo.load rfl (Lds.one rfl)) (Harm.rd rfl (Rdo.load rfl (Lds.one rfl)) Harm.nil))) (Rdo.load rfl (Lds.one rfl)) rfl ?_
        refine WpR.load (i := 8) [3, 10] rfl (by kernel_rfl) (by kernel_rfl) (by kernel_rfl) (by kernel_rfl) (by kernel_rfl) rfl Tk.rfl_ (Harm.rd rfl (Rdo.load rfl (Lds.next (Lds.one rfl))) (Harm.rd rfl (Rdo.load rfl (Lds.one rfl)) Harm.nil)) (Rdo.load rfl (Lds.one rfl)) rfl ?_
        refine WpR.load (i := 10) [3] rfl (by kernel_rfl) (by kernel_rfl) (by kernel_rfl) (by kernel_rfl) (by kernel_rfl) rfl Tk.rfl_ (Harm.rd rfl (Rdo.load rfl (Lds.next (Lds.one rfl))) Harm.nil) (Rdo.load rfl (Lds.one rfl)) rfl ?_
        refine Qt (i := 11) rfl (Rdo.bld rfl (BldL.cons rfl (VC.i _ _) (by first | rfl | assumption | (simp <;> done)) (by repeat (first | exact LPut.nil _ | apply LPut.here | apply LPut.next)) (BldL.cons rfl (VC.i _ _) (by first | rfl | assumption | (simp <;> done)) (by repeat (first | exact LPut.nil _ | apply LPut.here | apply LPut.next)) (BldL.cons rfl (VC.i _ _) (by first | rfl | assumption | (simp <;> done)) (by repeat (first | exact LPut.nil _ | apply LPut.here | apply LPut.next)) (BldL.cons rfl (VC.i _ _) (by first | rfl | assumption | (simp <;> done)) (by repeat (first | exact LPut.nil _ | apply LPut.here | apply LPut.next)) (BldL.nil _)))))) ?_
        refine Qo (i := 3) rfl (Stp.rd (Rdo.load rfl (Lds.next (Lds.one rfl))) rfl ?_)
        refine Qo (i := 12) rfl (Stp.rd (Rdo.lookup1 (enc := markV) (k := (⟨2, o.producer, o.epoch, o.txn⟩ : Mark)) rfl rfl (Mps.next (Mps.next Mps.here))) rfl ?_)
        rw [hv]
        refine Qt (i := 13) rfl (Rdo.assign rfl) ?_
        refine WpR.done (by kernel_rfl) ?_
        refine Thn.n ?_
        refine Wp.condT rfl ?_
        refine Wsr (Ls (Rdo.assign rfl) (Ls (Rdo.assign rfl) (Lnt (Wp.ret ?_))))
        refine Blk.r ?_
        refine Thn.r ?_
        refine Rt (ResV.tmp rfl (ResV.tmp rfl ResV.nil)) ⟨rfl, rfl⟩
      | false =>
        rw [hc] at hv
        simp only [kindOf, if_true, Bool.false_eq_true, if_false] at hv
        refine Trip.of_body Tryz.func33 rfl Tryz.ntmps33 Tryz.results33 rfl ?_
        refine Wsr ?_
        (refine WpL.step (Stp.boxV rfl (VC.ag _) rfl ?_); intro nb2)
        refine Ls (Rdo.assign rfl) (Ls (Rdo.assign rfl) (Lnt (Wsr (Ls (Rdo.assign rfl) (Lnt (Wp.seq (Wsr (Ls (Rdo.fieldAddr0 rfl) (Ls (Rdo.load rfl (Lds.one rfl)) (Lnt (cL rfl (Wp.skip (Thn.n ?_)))))))))))))
        refine Wp.seq (Wp.block (Wp.seq ?_))
        refine Wp.draw (by kernel_rfl) ?_
        refine Qt (i := 0) rfl (Rdo.move rfl) (Qt (i := 1) rfl (Rdo.nilCheck rfl) (Qt (i := 2) rfl (Rdo.fieldAddr0 rfl) ?_))
        refine Qo (i := 3) rfl (Stp.rd (Rdo.load rfl (Lds.next (Lds.next (Lds.next (Lds.one rfl))))) rfl ?_)
        refine Qt (i := 4) rfl (Rdo.move rfl) ?_
        refine WpR.tF 16 rfl (by first | rfl | assumption | (simp only [decide_eq_true_eq, decide_eq_false_iff_not, Bool.not_eq_true', Bool.not_eq_false', List.length_cons, List.length_nil]; first | assumption | omega) | (simp <;> done) | (simp <;> omega)) ?_
        refine Qp (i := 5) rfl rfl rfl (Qp (i := 6) rfl rfl rfl (Qp (i := 7) rfl rfl rfl (Qp (i := 8) rfl rfl rfl (Qp (i := 9) rfl rfl rfl (Qp (i := 10) rfl rfl rfl (Qp (i := 11) rfl rfl rfl (Qt (i := 12) rfl (Rdo.pick_f rfl rfl) (Qt (i := 13) rfl (Rdo.assign rfl) ?_))))))))
        refine WpR.done (by kernel_rfl) ?_
        refine Thn.n ?_
        refine Wp.condF rfl ?_
        refine Wp.seq ?_
        refine Wp.draw (by kernel_rfl) ?_
        refine Qt (i := 0) rfl (Rdo.move rfl) (Qt (i := 1) rfl (Rdo.nilCheck rfl) (Qt (i := 2) rfl (Rdo.fieldAddr0 rfl) (Qt (i := 4) rfl (Rdo.move rfl) (Qt (i := 5) rfl (Rdo.fieldAddr0 rfl) (Qt (i := 7) rfl (Rdo.fieldAddr0 rfl) (Qt (i := 9) rfl (Rdo.fieldAddr0 rfl) ?_))))))
        refine WpR.load (i := 6) [3, 8, 10] rfl (by kernel_rfl) (by kernel_rfl) (by kernel_rfl) (by kernel_rfl) (by kernel_rfl) rfl Tk.rfl_ (Harm.rd rfl (Rdo.load rfl (Lds.next (Lds.one rfl))) (Harm.rd rfl (Rdo.load rfl (Lds.one rfl)) (Harm.rd rfl (Rdo.load rfl (Lds.one rfl)) Harm.nil))) (Rdo.load rfl (Lds.one rfl)) rfl ?_
        refine WpR.load (i := 8) [3, 10] rfl (by kernel_rfl) (by kernel_rfl) (by kernel_rfl) (by kernel_rfl) (by kernel_rfl) rfl Tk.rfl_ (Harm.rd rfl (Rdo.load rfl (Lds.next (Lds.one rfl))) (Harm.rd rfl (Rdo.load rfl (Lds.one rfl)) Harm.nil)) (Rdo.load rfl (Lds.one rfl)) rfl ?_
        refine WpR.load (i := 10) [3] rfl (by kernel_rfl) (by kernel_rfl) (by kernel_rfl) (by kernel_rfl) (by kernel_rfl) rfl Tk.rfl_ (Harm.rd rfl (Rdo.load rfl (Lds.next (Lds.one rfl))) Harm.nil) (Rdo.load rfl (Lds.one rfl)) rfl ?_
        refine Qt (i := 11) rfl (Rdo.bld rfl (BldL.cons rfl (VC.i _ _) (by first | rfl | assumption | (simp <;> done)) (by repeat (first | exact LPut.nil _ | apply LPut.here | apply LPut.next)) (BldL.cons rfl (VC.i _ _) (by first | rfl | assumption | (simp <;> done)) (by repeat (first | exact LPut.nil _ | apply LPut.here | apply LPut.next)) (BldL.cons rfl (VC.i _ _) (by first | rfl | assumption | (simp <;> done)) (by repeat (first | exact LPut.nil _ | apply LPut.here | apply LPut.next)) (BldL.cons rfl (VC.i _ _) (by first | rfl | assumption | (simp <;> done)) (by repeat (first | exact LPut.nil _ | apply LPut.here | apply LPut.next)) (BldL.nil _)))))) ?_
        refine Qo (i := 3) rfl (Stp.rd (Rdo.load rfl (Lds.next (Lds.one rfl))) rfl ?_)
        refine Qo (i := 12) rfl (Stp.rd (Rdo.lookup1 (enc := markV) (k := (⟨3, o.producer, o.epoch, o.txn⟩ : Mark)) rfl rfl (Mps.next (Mps.next Mps.here))) rfl ?_)
        rw [hv]
        refine Qt (i := 13) rfl (Rdo.assign rfl) ?_
        refine WpR.done (by kernel_rfl) ?_
        refine Thn.n ?_
        refine Wp.condT rfl ?_
        refine Wsr (Ls (Rdo.assign rfl) (Ls (Rdo.assign rfl) (Lnt (Wp.ret ?_))))
        refine Blk.r ?_
        refine Thn.r ?_
        refine Rt (ResV.tmp rfl (ResV.tmp rfl ResV.nil)) ⟨rfl, rfl⟩
  · rw [if_neg hd]
    have hv := mapVal_keys ds ⟨kindOf o.commit, o.producer, o.epoch, o.txn⟩
    rw [decide_eq_false hd] at hv
    cases ho : p.opn with
    | true =>
      have h2 : ¬ o.txn = p.last := fun h3 => h ⟨ho, h3⟩
      cases hc : o.commit with
      | true =>
        rw [hc] at hv
        simp only [kindOf, if_true, Bool.false_eq_true, if_false] at hv
        refine Trip.of_body Tryz.func33 rfl Tryz.ntmps33 Tryz.results33 rfl ?_
        refine Wsr ?_
        (refine WpL.step (Stp.boxV rfl (VC.ag _) rfl ?_); intro nb2)
        refine Ls (Rdo.assign rfl) (Ls (Rdo.assign rfl) (Lnt (Wsr (Ls (Rdo.assign rfl) (Lnt (Wp.seq (Wsr (Ls (Rdo.fieldAddr0 rfl) (Ls (Rdo.load rfl (Lds.one rfl)) (Lnt (cK rfl (Wp.region (Ls (Rdo.assign rfl) ?_)))))))))))))
        refine Lnt (Wp.seq (Wp.block (Wp.seq ?_)))
        refine Wp.draw (by kernel_rfl) ?_
        refine Qt (i := 0) rfl (Rdo.move rfl) (Qt (i := 1) rfl (Rdo.nilCheck rfl) (Qt (i := 2) rfl (Rdo.fieldAddr0 rfl) ?_))
        refine Qo (i := 3) rfl (Stp.rd (Rdo.load rfl (Lds.next (Lds.next (Lds.next (Lds.one rfl))))) rfl ?_)
        refine Qt (i := 4) rfl (Rdo.move rfl) ?_
        refine WpR.tT 16 rfl (by first | rfl | assumption | (simp only [decide_eq_true_eq, decide_eq_false_iff_not, Bool.not_eq_true', Bool.not_eq_false', List.length_cons, List.length_nil]; first | assumption | omega) | (simp <;> done) | (simp <;> omega)) ?_
        refine Qw (i := 5) rfl rfl rfl (Rdo.fieldAddr0 rfl) (Qw (i := 7) rfl rfl rfl (Rdo.move rfl) (Qw (i := 8) rfl rfl rfl (Rdo.nilCheck rfl) (Qw (i := 9) rfl rfl rfl (Rdo.fieldAddr0 rfl) ?_)))
        refine WpR.phaseL (m := 0) #[true, true, true, true, true, true, true, true, true, true, true, true, true, true] 5 _ rfl (by kernel_rfl) (Tk.cons Pk.here (Tk.cons (Pk.next (Pk.next Pk.here)) Tk.nil)) ?_
        refine Aw (i := 6) rfl rfl rfl (Rdo.load rfl (Lds.one rfl)) (Aw (i := 10) rfl rfl rfl (Rdo.load rfl (Lds.next (Lds.one rfl))) (Aw (i := 11) rfl rfl rfl (Rdo.eqi rfl rfl) (At (i := 12) rfl (Rdo.pick_t rfl rfl) (At (i := 13) rfl (Rdo.assign rfl) ?_))))
        refine WpA.stop (by kernel_rfl) ?_
        refine Ql ?_
        refine WpR.done (by kernel_rfl) ?_
        refine Thn.n (cL rfl (Wp.seq ?_))
        refine Wp.draw (by kernel_rfl) ?_
        refine Qt (i := 0) rfl (Rdo.move rfl) (Qt (i := 1) rfl (Rdo.nilCheck rfl) (Qt (i := 2) rfl (Rdo.fieldAddr0 rfl) (Qt (i := 4) rfl (Rdo.move rfl) (Qt (i := 5) rfl (Rdo.fieldAddr0 rfl) (Qt (i := 7) rfl (Rdo.fieldAddr0 rfl) (Qt (i := 9) rfl (Rdo.fieldAddr0 rfl) ?_))))))
        refine WpR.load (i := 6) [3, 8, 10] rfl (by kernel_rfl) (by kernel_rfl) (by kernel_rfl) (by kernel_rfl) (by kernel_rfl) rfl Tk.rfl_ (Harm.rd rfl (Rdo.load rfl (Lds.next (Lds.next (Lds.one rfl)))) (Harm.rd rfl (Rdo.load rfl (Lds.one rfl)) (Harm.rd rfl (Rdo.load rfl (Lds.one rfl)) Harm.nil))) (Rdo.load rfl (Lds.one rfl)) rfl ?_
        refine WpR.load (i := 8) [3, 10] rfl (by kernel_rfl) (by kernel_rfl) (by kernel_rfl) (by kernel_rfl) (by kernel_rfl) rfl Tk.rfl_ (Harm.rd rfl (Rdo.load rfl (Lds.next (Lds.next (Lds.one rfl)))) (Harm.rd rfl (Rdo.load rfl (Lds.one rfl)) Harm.nil)) (Rdo.load rfl (Lds.one rfl)) rfl ?_
        refine WpR.load (i := 10) [3] rfl (by kernel_rfl) (by kernel_rfl) (by kernel_rfl) (by kernel_rfl) (by kernel_rfl) rfl Tk.rfl_ (Harm.rd rfl (Rdo.load rfl (Lds.next (Lds.next (Lds.one rfl)))) Harm.nil) (Rdo.load rfl (Lds.one rfl)) rfl ?_
        refine Qt (i := 11) rfl (Rdo.bld rfl (BldL.cons rfl (VC.i _ _) (by first | rfl | assumption | (simp <;> done)) (by repeat (first | exact LPut.nil _ | apply LPut.here | apply LPut.next)) (BldL.cons rfl (VC.i _ _) (by first | rfl | assumption | (simp <;> done)) (by repeat (first | exact LPut.nil _ | apply LPut.here | apply LPut.next)) (BldL.cons rfl (VC.i _ _) (by first | rfl | assumption | (simp <;> done)) (by repeat (first | exact LPut.nil _ | apply LPut.here | apply LPut.next)) (BldL.cons rfl (VC.i _ _) (by first | rfl | assumption | (simp <;> done)) (by repeat (first | exact LPut.nil _ | apply LPut.here | apply LPut.next)) (BldL.nil _)))))) ?_
        refine Qo (i := 3) rfl (Stp.rd (Rdo.load rfl (Lds.next (Lds.next (Lds.one rfl)))) rfl ?_)
        refine Qo (i := 12) rfl (Stp.rd (Rdo.lookup1 (enc := markV) (k := (⟨2, o.producer, o.epoch, o.txn⟩ : Mark)) rfl rfl (Mps.next (Mps.next (Mps.next Mps.here)))) rfl ?_)
        rw [hv]
        refine Qt (i := 13) rfl (Rdo.assign rfl) ?_
        refine WpR.done (by kernel_rfl) ?_
        refine Thn.n ?_
        refine Wp.condF rfl ?_
        refine Wp.skip (Blk.n (Thn.n (Wsr (Ls (Rdo.assign rfl) (Ls (Rdo.assign rfl) (Lnt (Wp.ret ?_)))))))
        refine Rt (ResV.tmp rfl (ResV.tmp rfl ResV.nil)) ⟨rfl, rfl⟩
      | false =>
        rw [hc] at hv
        simp only [kindOf, if_true, Bool.false_eq_true, if_false] at hv
        refine Trip.of_body Tryz.func33 rfl Tryz.ntmps33 Tryz.results33 rfl ?_
        refine Wsr ?_
        (refine WpL.step (Stp.boxV rfl (VC.ag _) rfl ?_); intro nb2)
        refine Ls (Rdo.assign rfl) (Ls (Rdo.assign rfl) (Lnt (Wsr (Ls (Rdo.assign rfl) (Lnt (Wp.seq (Wsr (Ls (Rdo.fieldAddr0 rfl) (Ls (Rdo.load rfl (Lds.one rfl)) (Lnt (cL rfl (Wp.skip (Thn.n ?_)))))))))))))
        refine Wp.seq (Wp.block (Wp.seq ?_))
        refine Wp.draw (by kernel_rfl) ?_
        refine Qt (i := 0) rfl (Rdo.move rfl) (Qt (i := 1) rfl (Rdo.nilCheck rfl) (Qt (i := 2) rfl (Rdo.fieldAddr0 rfl) ?_))
        refine Qo (i := 3) rfl (Stp.rd (Rdo.load rfl (Lds.next (Lds.next (Lds.next (Lds.one rfl))))) rfl ?_)
        refine Qt (i := 4) rfl (Rdo.move rfl) ?_
        refine WpR.tT 16 rfl (by first | rfl | assumption | (simp only [decide_eq_true_eq, decide_eq_false_iff_not, Bool.not_eq_true', Bool.not_eq_false', List.length_cons, List.length_nil]; first | assumption | omega) | (simp <;> done) | (simp <;> omega)) ?_
        refine Qw (i := 5) rfl rfl rfl (Rdo.fieldAddr0 rfl) (Qw (i := 7) rfl rfl rfl (Rdo.move rfl) (Qw (i := 8) rfl rfl rfl (Rdo.nilCheck rfl) (Qw (i := 9) rfl rfl rfl (Rdo.fieldAddr0 rfl) ?_)))
        refine WpR.phaseL (m := 0) #[true, true, true, true, true, true, true, true, true, true, true, true, true, true] 5 _ rfl (by kernel_rfl) (Tk.cons Pk.here (Tk.cons (Pk.next (Pk.next Pk.here)) Tk.nil)) ?_
        refine Aw (i := 6) rfl rfl rfl (Rdo.load rfl (Lds.one rfl)) (Aw (i := 10) rfl rfl rfl (Rdo.load rfl (Lds.next (Lds.one rfl))) (Aw (i := 11) rfl rfl rfl (Rdo.eqi rfl rfl) (At (i := 12) rfl (Rdo.pick_t rfl rfl) (At (i := 13) rfl (Rdo.assign rfl) ?_))))
        refine WpA.stop (by kernel_rfl) ?_
        refine Ql ?_
        refine WpR.done (by kernel_rfl) ?_
        refine Thn.n (cL rfl (Wp.seq ?_))
        refine Wp.draw (by kernel_rfl) ?_
        refine Qt (i := 0) rfl (Rdo.move rfl) (Qt (i := 1) rfl (Rdo.nilCheck rfl) (Qt (i := 2) rfl (Rdo.fieldAddr0 rfl) (Qt (i := 4) rfl (Rdo.move rfl) (Qt (i := 5) rfl (Rdo.fieldAddr0 rfl) (Qt (i := 7) rfl (Rdo.fieldAddr0 rfl) (Qt (i := 9) rfl (Rdo.fieldAddr0 rfl) ?_))))))
        refine WpR.load (i := 6) [3, 8, 10] rfl (by kernel_rfl) (by kernel_rfl) (by kernel_rfl) (by kernel_rfl) (by kernel_rfl) rfl Tk.rfl_ (Harm.rd rfl (Rdo.load rfl (Lds.next (Lds.next (Lds.one rfl)))) (Harm.rd rfl (Rdo.load rfl (Lds.one rfl)) (Harm.rd rfl (Rdo.load rfl (Lds.one rfl)) Harm.nil))) (Rdo.load rfl (Lds.one rfl)) rfl ?_
        refine WpR.load (i := 8) [3, 10] rfl (by kernel_rfl) (by kernel_rfl) (by kernel_rfl) (by kernel_rfl) (by kernel_rfl) rfl Tk.rfl_ (Harm.rd rfl (Rdo.load rfl (Lds.next (Lds.next (Lds.one rfl)))) (Harm.rd rfl (Rdo.load rfl (Lds.one rfl)) Harm.nil)) (Rdo.load rfl (Lds.one rfl)) rfl ?_
        refine WpR.load (i := 10) [3] rfl (by kernel_rfl) (by kernel_rfl) (by kernel_rfl) (by kernel_rfl) (by kernel_rfl) rfl Tk.rfl_ (Harm.rd rfl (Rdo.load rfl (Lds.next (Lds.next (Lds.one rfl)))) Harm.nil) (Rdo.load rfl (Lds.one rfl)) rfl ?_
        refine Qt (i := 11) rfl (Rdo.bld rfl (BldL.cons rfl (VC.i _ _) (by first | rfl | assumption | (simp <;> done)) (by repeat (first | exact LPut.nil _ | apply LPut.here | apply LPut.next)) (BldL.cons rfl (VC.i _ _) (by first | rfl | assumption | (simp <;> done)) (by repeat (first | exact LPut.nil _ | apply LPut.here | apply LPut.next)) (BldL.cons rfl (VC.i _ _) (by first | rfl | assumption | (simp <;> done)) (by repeat (first | exact LPut.nil _ | apply LPut.here | apply LPut.next)) (BldL.cons rfl (VC.i _ _) (by first | rfl | assumption | (simp <;> done)) (by repeat (first | exact LPut.nil _ | apply LPut.here | apply LPut.next)) (BldL.nil _)))))) ?_
        refine Qo (i := 3) rfl (Stp.rd (Rdo.load rfl (Lds.next (Lds.next (Lds.one rfl)))) rfl ?_)
        refine Qo (i := 12) rfl (Stp.rd (Rdo.lookup1 (enc := markV) (k := (⟨3, o.producer, o.epoch, o.txn⟩ : Mark)) rfl rfl (Mps.next (Mps.next (Mps.next Mps.here)))) rfl ?_)
        rw [hv]
        refine Qt (i := 13) rfl (Rdo.assign rfl) ?_
        refine WpR.done (by kernel_rfl) ?_
        refine Thn.n ?_
        refine Wp.condF rfl ?_
        refine Wp.skip (Blk.n (Thn.n (Wsr (Ls (Rdo.assign rfl) (Ls (Rdo.assign rfl) (Lnt (Wp.ret ?_)))))))
        refine Rt (ResV.tmp rfl (ResV.tmp rfl ResV.nil)) ⟨rfl, rfl⟩
    | false =>
      cases hc : o.commit with
      | true =>
        rw [hc] at hv
        simp only [kindOf, if_true, Bool.false_eq_true, if_false] at hv
        refine Trip.of_body Tryz.func33 rfl Tryz.ntmps33 Tryz.results33 rfl ?_
        refine Wsr ?_
        (refine WpL.step (Stp.boxV rfl (VC.ag _) rfl ?_); intro nb2)
        refine Ls (Rdo.assign rfl) (Ls (Rdo.assign rfl) (Lnt (Wsr (Ls (Rdo.assign rfl) (Lnt (Wp.seq (Wsr (Ls (Rdo.fieldAddr0 rfl) (Ls (Rdo.load rfl (Lds.one rfl)) (Lnt (cK rfl (Wp.region (Ls (Rdo.assign rfl) ?_)))))))))))))
        refine Lnt (Wp.seq (Wp.block (Wp.seq ?_)))
        refine Wp.draw (by kernel_rfl) ?_
        refine Qt (i := 0) rfl (Rdo.move rfl) (Qt (i := 1) rfl (Rdo.nilCheck rfl) (Qt (i := 2) rfl (Rdo.fieldAddr0 rfl) ?_))
        refine Qo (i := 3) rfl (Stp.rd (Rdo.load rfl (Lds.next (Lds.next (Lds.next (Lds.one rfl))))) rfl ?_)
        refine Qt (i := 4) rfl (Rdo.move rfl) ?_
        refine WpR.tF 16 rfl (by first | rfl | assumption | (simp only [decide_eq_true_eq, decide_eq_false_iff_not, Bool.not_eq_true', Bool.not_eq_false', List.length_cons, List.length_nil]; first | assumption | omega) | (simp <;> done) | (simp <;> omega)) ?_
        refine Qp (i := 5) rfl rfl rfl (Qp (i := 6) rfl rfl rfl (Qp (i := 7) rfl rfl rfl (Qp (i := 8) rfl rfl rfl (Qp (i := 9) rfl rfl rfl (Qp (i := 10) rfl rfl rfl (Qp (i := 11) rfl rfl rfl (Qt (i := 12) rfl (Rdo.pick_f rfl rfl) (Qt (i := 13) rfl (Rdo.assign rfl) ?_))))))))
        refine WpR.done (by kernel_rfl) ?_
        refine Thn.n ?_
        refine Wp.condF rfl ?_
        refine Wp.seq ?_
        refine Wp.draw (by kernel_rfl) ?_
        refine Qt (i := 0) rfl (Rdo.move rfl) (Qt (i := 1) rfl (Rdo.nilCheck rfl) (Qt (i := 2) rfl (Rdo.fieldAddr0 rfl) (Qt (i := 4) rfl (Rdo.move rfl) (Qt (i := 5) rfl (Rdo.fieldAddr0 rfl) (Qt (i := 7) rfl (Rdo.fieldAddr0 rfl) (Qt (i := 9) rfl (Rdo.fieldAddr0 rfl) ?_))))))
        refine WpR.load (i := 6) [3, 8, 10] rfl (by kernel_rfl) (by kernel_rfl) (by kernel_rfl) (by kernel_rfl) (by kernel_rfl) rfl Tk.rfl_ (Harm.rd rfl (Rdo.load rfl (Lds.next (Lds.one rfl))) (Harm.rd rfl (Rdo.load rfl (Lds.one rfl)) (Harm.rd rfl (Rdo.load rfl (Lds.one rfl)) Harm.nil))) (Rdo.load rfl (Lds.one rfl)) rfl ?_
        refine WpR.load (i := 8) [3, 10] rfl (by kernel_rfl) (by kernel_rfl) (by kernel_rfl) (by kernel_rfl) (by kernel_rfl) rfl Tk.rfl_ (Harm.rd rfl (Rdo.load rfl (Lds.next (Lds.one rfl))) (Harm.rd rfl (Rdo.load rfl (Lds.one rfl)) Harm.nil)) (Rdo.load rfl (Lds.one rfl)) rfl ?_
        refine WpR.load (i := 10) [3] rfl (by kernel_rfl) (by kernel_rfl) (by kernel_rfl) (by kernel_rfl) (by kernel_rfl) rfl Tk.rfl_ (Harm.rd rfl (Rdo.load rfl (Lds.next (Lds.one rfl))) Harm.nil) (Rdo.load rfl (Lds.one rfl)) rfl ?_
        refine Qt (i := 11) rfl (Rdo.bld rfl (BldL.cons rfl (VC.i _ _) (by first | rfl | assumption | (simp <;> done)) (by repeat (first | exact LPut.nil _ | apply LPut.here | apply LPut.next)) (BldL.cons rfl (VC.i _ _) (by first | rfl | assumption | (simp <;> done)) (by repeat (first | exact LPut.nil _ | apply LPut.here | apply LPut.next)) (BldL.cons rfl (VC.i _ _) (by first | rfl | assumption | (simp <;> done)) (by repeat (first | exact LPut.nil _ | apply LPut.here | apply LPut.next)) (BldL.cons rfl (VC.i _ _) (by first | rfl | assumption | (simp <;> done)) (by repeat (first | exact LPut.nil _ | apply LPut.here | apply LPut.next)) (BldL.nil _)))))) ?_
        refine Qo (i := 3) rfl (Stp.rd (Rdo.load rfl (Lds.next (Lds.one rfl))) rfl ?_)
        refine Qo (i := 12) rfl (Stp.rd (Rdo.lookup1 (enc := markV) (k := (⟨2, o.producer, o.epoch, o.txn⟩ : Mark)) rfl rfl (Mps.next (Mps.next Mps.here))) rfl ?_)
        rw [hv]
        refine Qt (i := 13) rfl (Rdo.assign rfl) ?_
        refine WpR.done (by kernel_rfl) ?_
        refine Thn.n ?_
        refine Wp.condF rfl ?_
        refine Wp.skip (Blk.n (Thn.n (Wsr (Ls (Rdo.assign rfl) (Ls (Rdo.assign rfl) (Lnt (Wp.ret ?_)))))))
        refine Rt (ResV.tmp rfl (ResV.tmp rfl ResV.nil)) ⟨rfl, rfl⟩
      | false =>
        rw [hc] at hv
        simp only [kindOf, if_true, Bool.false_eq_true, if_false] at hv
        refine Trip.of_body Tryz.func33 rfl Tryz.ntmps33 Tryz.results33 rfl ?_
        refine Wsr ?_
        (refine WpL.step (Stp.boxV rfl (VC.ag _) rfl ?_); intro nb2)
        refine Ls (Rdo.assign rfl) (Ls (Rdo.assign rfl) (Lnt (Wsr (Ls (Rdo.assign rfl) (Lnt (Wp.seq (Wsr (Ls (Rdo.fieldAddr0 rfl) (Ls (Rdo.load rfl (Lds.one rfl)) (Lnt (cL rfl (Wp.skip (Thn.n ?_)))))))))))))
        refine Wp.seq (Wp.block (Wp.seq ?_))
        refine Wp.draw (by kernel_rfl) ?_
        refine Qt (i := 0) rfl (Rdo.move rfl) (Qt (i := 1) rfl (Rdo.nilCheck rfl) (Qt (i := 2) rfl (Rdo.fieldAddr0 rfl) ?_))
        refine Qo (i := 3) rfl (Stp.rd (Rdo.load rfl (Lds.next (Lds.next (Lds.next (Lds.one rfl))))) rfl ?_)
        refine Qt (i := 4) rfl (Rdo.move rfl) ?_
        refine WpR.tF 16 rfl (by first | rfl | assumption | (simp only [decide_eq_true_eq, decide_eq_false_iff_not, Bool.not_eq_true', Bool.not_eq_false', List.length_cons, List.length_nil]; first | assumption | omega) | (simp <;> done) | (simp <;> omega)) ?_
        refine Qp (i := 5) rfl rfl rfl (Qp (i := 6) rfl rfl rfl (Qp (i := 7) rfl rfl rfl (Qp (i := 8) rfl rfl rfl (Qp (i := 9) rfl rfl rfl (Qp (i := 10) rfl rfl rfl (Qp (i := 11) rfl rfl rfl (Qt (i := 12) rfl (Rdo.pick_f rfl rfl) (Qt (i := 13) rfl (Rdo.assign rfl) ?_))))))))
        refine WpR.done (by kernel_rfl) ?_
        refine Thn.n ?_
        refine Wp.condF rfl ?_
        refine Wp.seq ?_
        refine Wp.draw (by kernel_rfl) ?_
        refine Qt (i := 0) rfl (Rdo.move rfl) (Qt (i := 1) rfl (Rdo.nilCheck rfl) (Qt (i := 2) rfl (Rdo.fieldAddr0 rfl) (Qt (i := 4) rfl (Rdo.move rfl) (Qt (i := 5) rfl (Rdo.fieldAddr0 rfl) (Qt (i := 7) rfl (Rdo.fieldAddr0 rfl) (Qt (i := 9) rfl (Rdo.fieldAddr0 rfl) ?_))))))
        refine WpR.load (i := 6) [3, 8, 10] rfl (by kernel_rfl) (by kernel_rfl) (by kernel_rfl) (by kernel_rfl) (by kernel_rfl) rfl Tk.rfl_ (Harm.rd rfl (Rdo.load rfl (Lds.next (Lds.one rfl))) (Harm.rd rfl (Rdo.load rfl (Lds.one rfl)) (Harm.rd rfl (Rdo.load rfl (Lds.one rfl)) Harm.nil))) (Rdo.load rfl (Lds.one rfl)) rfl ?_
        refine WpR.load (i := 8) [3, 10] rfl (by kernel_rfl) (by kernel_rfl) (by kernel_rfl) (by kernel_rfl) (by kernel_rfl) rfl Tk.rfl_ (Harm.rd rfl (Rdo.load rfl (Lds.next (Lds.one rfl))) (Harm.rd rfl (Rdo.load rfl (Lds.one rfl)) Harm.nil)) (Rdo.load rfl (Lds.one rfl)) rfl ?_
        refine WpR.load (i := 10) [3] rfl (by kernel_rfl) (by kernel_rfl) (by kernel_rfl) (by kernel_rfl) (by kernel_rfl) rfl Tk.rfl_ (Harm.rd rfl (Rdo.load rfl (Lds.next (Lds.one rfl))) Harm.nil) (Rdo.load rfl (Lds.one rfl)) rfl ?_
        refine Qt (i := 11) rfl (Rdo.bld rfl (BldL.cons rfl (VC.i _ _) (by first | rfl | assumption | (simp <;> done)) (by repeat (first | exact LPut.nil _ | apply LPut.here | apply LPut.next)) (BldL.cons rfl (VC.i _ _) (by first | rfl | assumption | (simp <;> done)) (by repeat (first | exact LPut.nil _ | apply LPut.here | apply LPut.next)) (BldL.cons rfl (VC.i _ _) (by first | rfl | assumption | (simp <;> done)) (by repeat (first | exact LPut.nil _ | apply LPut.here | apply LPut.next)) (BldL.cons rfl (VC.i _ _) (by first | rfl | assumption | (simp <;> done)) (by repeat (first | exact LPut.nil _ | apply LPut.here | apply LPut.next)) (BldL.nil _)))))) ?_
        refine Qo (i := 3) rfl (Stp.rd (Rdo.load rfl (Lds.next (Lds.one rfl))) rfl ?_)
        refine Qo (i := 12) rfl (Stp.rd (Rdo.lookup1 (enc := markV) (k := (⟨3, o.producer, o.epoch, o.txn⟩ : Mark)) rfl rfl (Mps.next (Mps.next Mps.here))) rfl ?_)
        rw [hv]
        refine Qt (i := 13) rfl (Rdo.assign rfl) ?_
        refine WpR.done (by kernel_rfl) ?_
        refine Thn.n ?_
        refine Wp.condF rfl ?_
        refine Wp.skip (Blk.n (Thn.n (Wsr (Ls (Rdo.assign rfl) (Ls (Rdo.assign rfl) (Lnt (Wp.ret ?_)))))))
        refine Rt (ResV.tmp rfl (ResV.tmp rfl ResV.nil)) ⟨rfl, rfl⟩
end Go.Proofs.YtccgdnocldmjeaaGreatDoor
namespace Go.Proofs.YtccgdnocldmjeaaGreatDoor
open Go
set_option maxHeartbeats 4000000
set_option linter.unusedSimpArgs false
set_option linter.unusedVariables false
set_option maxRecDepth 20000
open Tabprod
abbrev ticL (b nc nm : Nat) (m : CoM) (r : CoS × List Mark) (mv v : Value) : List HP :=
  [prodsA m.qs r.1.prods, cel nm 28 [v], cel nc 24 [vp b 0], cel b 48 (coC r.1 { m with mv := mv }), markA v r.2, rowA 61 4 mv r.1.marks.length (r.1.marks.map markC).flatten,
   mapA markV m.db (r.1.decided.map fun k => (k, vb true)), mapA askV m.ab (r.1.answers.map fun x => (x.1, .agg (repC x.2).toArray)), cel m.tb 74 [.map (some m.mb)], mapA i64 m.mb (tabE 0 m.qs)]
theorem markA_snoc (v : Value) (ms : List Mark) (m : Mark) : rowA 61 4 v (ms.length + 1) ((ms.map markC).flatten ++ markC m) = markA v (ms ++ [m]) := by
  have h1 : (ms ++ [m]).length = ms.length + 1 := by simp
  have h2 : ((ms ++ [m]).map markC).flatten = (ms.map markC).flatten ++ markC m := by simp
  unfold markA
  rw [h1, h2]
theorem ticks_ok (b : Nat) (c : CoS) (h8 : c.prods.length ≤ 8) (hml : c.marks.length ≤ 900000) (hn : 0 ≤ c.now ∧ c.now ≤ 1000000) (hbg : ∀ p ∈ c.prods, 0 ≤ p.began ∧ p.began ≤ 2000000) :
    Trip Tryz.prog 30 [vp b 0] [coA b c] (fun r l => ∃ v, r = v ∧ l = [coA b c.ticks.2, markA v c.ticks.1]) := by
  refine Trip.ghE coA_open ?_
  rintro m hm
  simp only [coX, List.cons_append, List.nil_append]
  refine Trip.of_body Tryz.func30 rfl Tryz.ntmps30 Tryz.results30 rfl ?_
  refine Wsr ?_
  (refine WpL.step (Stp.boxV rfl (VC.p _) rfl ?_); intro nb2)
  refine Ls (Rdo.assign rfl) (Lnt (Wsr (Ls (Rdo.load rfl (Lds.one rfl)) (Ls (Rdo.nilCheck rfl) (Ls (Rdo.fieldAddr0 rfl) (Ls (Rdo.load rfl (Lds.next (Lds.one rfl))) ?_))))))
  refine Ls (Rdo.add64 rfl rfl (by first | omega | (dsimp only; omega))) ?_
  refine Ls (Rdo.nilCheck rfl) (Ls (Rdo.fieldAddr0 rfl) ?_)
  refine WpL.step (Stp.storeV rfl rfl (VC.i _ _) rfl (Sts.next (Sp (oneCells1 rfl))) ?_)
  refine Lnt (Wsr ?_)
  (refine WpL.step (Stp.alloc rfl ?_); intro nb20)
  refine Lnt (Wp.seq (Wsr (Ls (Rdo.load rfl (Lds.next (Lds.one rfl))) (Ls (Rdo.nilCheck rfl) (Ls (Rdo.fieldAddr0 rfl) (Ls (Rdo.load rfl (Lds.next (Lds.next (Lds.one rfl)))) ?_))))))
  refine WpL.step (Sc (Tabprod.all_ok _) rfl ?_)
  rintro _ _ ⟨v31_0, ⟨v31_1, ⟨rfl, rfl⟩⟩⟩
  refine Ll ?_
  refine Lnt (Wp.block ?_)
  refine Wp.rangeFunc (ps := [18, 19]) rfl (by kernel_rfl) (allIter v31_0 v31_1 m.tb m.mb _ _ (tabE 0 m.qs) (tabE 0 m.qs) (List.Perm.refl _) (tabE_keys 0 m.qs) (by rw [tabE_length]; omega)) (fun _ => rfl) rfl
    (fun pre l => ∃ mv v, l = ticL b nb2 nb20 m (c.tickN pre.length) mv v) (fun j pre l => False)
    (l0 := ticL b nb2 nb20 m (c.tickN 0) m.mv vnil) (Gh.trans (Gh.nil 61 4) Gk) ⟨m.mv, vnil, rfl⟩
    (Bor.tk (Tk.cons (Pk.next (Pk.next (Pk.next (Pk.next (Pk.next (Pk.next (Pk.next (Pk.next Pk.here)))))))) (Tk.cons (Pk.next (Pk.next (Pk.next (Pk.next (Pk.next (Pk.next (Pk.next (Pk.next Pk.here)))))))) Tk.nil)) Gk) ?_ ?_ ?_
  · rintro lp rec pre ⟨x, u⟩ rest _ hs ⟨mv, v, rfl⟩ st pe
    have hg : (tabE 0 m.qs)[pre.length]? = some (x, u) := by rw [← hs]; simp
    rw [tabE_get] at hg
    obtain ⟨q, hqi, hxu⟩ := Option.map_eq_some_iff.1 hg
    simp only [Nat.zero_add] at hxu
    obtain ⟨rfl, rfl⟩ := _root_.Prod.mk.inj hxu
    have hlt : pre.length < m.qs.length := (List.getElem?_eq_some_iff.1 hqi).1
    obtain ⟨s1, s2, s3, s4, s5⟩ := c.tickN_spec pre.length
    obtain ⟨p, hpi⟩ : ∃ p, c.prods[pre.length]? = some p := ⟨c.prods[pre.length]'(by omega), List.getElem?_eq_getElem (by omega)⟩
    have hpt := c.tickN_at pre.length pre.length (Nat.le_refl _)
    rw [hpi] at hpt
    have hbp := hbg p (List.mem_of_getElem? hpi)
    have hsucc := c.tickN_succ pre.length
    unfold CoS.tick1 at hsucc
    have hml2 : (c.tickN pre.length).1.marks.length ≤ 1000000 := by rw [s4, List.length_append]; omega
    generalize hN : pre.length = N at *
    generalize hR : c.tickN N = r at *
    rw [List.getD_eq_getElem?_getD, hpt, Option.getD_some] at hsucc
    have hlen : (pre ++ [((N : Int), vp q 0)]).length = N + 1 := by simp [hN]
    refine Wp.gh (Gh.part1 hqi hpt) (Wp.ghE prodA_open ?_)
    rintro pv _
    have hnow : r.1.now = c.now + 1 := s2
    obtain ⟨now', hnow'⟩ : ∃ n, n = r.1.now := ⟨_, rfl⟩
    have t1 := fun w => decides_ok b q 48 (vp m.tb 0) mv (.map (some m.ab)) w pv m.db r.1.marks r.1.decided N 3 p hml2
    have hsh : ∀ l, Gh (cel q 84 (prodC p pv) :: pmA pv p.opn p.parts :: holeA m.qs r.1.prods N :: l) (prodsA m.qs r.1.prods :: l) := fun l => Gh.trans prodA_shut (Gh.part0 hqi hpt)
    cases ho : p.opn with
    | false =>
      have ha : r.1.ages p = false := by simp [CoS.ages, ho]
      rw [ha, if_neg (by simp)] at hsucc
      refine Wsr (Ls (Rdo.assign rfl) (Lnt (Wp.region (Ls (Rdo.assign rfl) (WpL.nil ?_)))))
      refine ⟨rfl, fun st pe => ?_⟩
      refine Wp.block (Wp.seq ?_)
      refine Wp.draw (by kernel_rfl) ?_
      refine Qt (i := 0) rfl (Rdo.move rfl) (Qt (i := 1) rfl (Rdo.nilCheck rfl) (Qt (i := 2) rfl (Rdo.fieldAddr0 rfl) ?_))
      refine Qo (i := 3) rfl (Stp.rd (Rdo.load rfl (Lds.one rfl)) rfl ?_)
      refine Qt (i := 4) rfl (Rdo.move rfl) ?_
      refine WpR.tF 24 rfl (by first | rfl | assumption | (simp only [decide_eq_true_eq, decide_eq_false_iff_not, Bool.not_eq_true', Bool.not_eq_false', List.length_cons, List.length_nil]; first | assumption | omega) | (simp <;> done) | (simp <;> omega)) ?_
      refine Qp (i := 5) rfl rfl rfl (Qp (i := 6) rfl rfl rfl (Qp (i := 7) rfl rfl rfl (Qp (i := 8) rfl rfl rfl (Qp (i := 9) rfl rfl rfl (Qp (i := 10) rfl rfl rfl (Qp (i := 11) rfl rfl rfl (Qp (i := 12) rfl rfl rfl (Qp (i := 13) rfl rfl rfl (Qp (i := 14) rfl rfl rfl (Qt (i := 15) rfl (Rdo.pick_f rfl rfl) ?_))))))))))
      refine WpR.done (by kernel_rfl) ?_
      refine Thn.n ?_
      refine Wp.condF rfl ?_
      refine Wp.skip (Blk.n ?_)
      rw [ho] at hsh
      exact ⟨ticL b nb2 nb20 m r mv v, Gh.trans Gk (hsh _), mv, v, by rw [hlen, hsucc]⟩
    | true =>
      by_cases hg5 : 5 ≤ r.1.now - p.began
      · have ha : r.1.ages p = true := by simp [CoS.ages, ho, hg5]
        rw [ha, if_pos rfl] at hsucc
        refine Wsr (Ls (Rdo.assign rfl) (Lnt (Wp.region (Ls (Rdo.assign rfl) (WpL.nil ?_)))))
        refine ⟨rfl, fun st pe => ?_⟩
        refine Wp.block (Wp.seq ?_)
        refine Wp.draw (by kernel_rfl) ?_
        refine Qt (i := 0) rfl (Rdo.move rfl) (Qt (i := 1) rfl (Rdo.nilCheck rfl) (Qt (i := 2) rfl (Rdo.fieldAddr0 rfl) ?_))
        refine Qo (i := 3) rfl (Stp.rd (Rdo.load rfl (Lds.one rfl)) rfl ?_)
        refine Qt (i := 4) rfl (Rdo.move rfl) ?_
        refine WpR.tT 24 rfl (by first | rfl | assumption | (simp only [decide_eq_true_eq, decide_eq_false_iff_not, Bool.not_eq_true', Bool.not_eq_false', List.length_cons, List.length_nil]; first | assumption | omega) | (simp <;> done) | (simp <;> omega)) ?_
        refine Qw (i := 9) rfl rfl rfl (Rdo.move rfl) (Qw (i := 10) rfl rfl rfl (Rdo.nilCheck rfl) (Qw (i := 11) rfl rfl rfl (Rdo.fieldAddr0 rfl) ?_))
        refine WpR.phaseL (m := 0) #[true, true, true, true, true, true, true, true, true, true, true, true, true, true, true, true] 8 _ rfl (by kernel_rfl) (Tk.cons Pk.here (Tk.cons (Pk.next (Pk.next (Pk.next Pk.here))) (Tk.cons (Pk.next (Pk.next (Pk.next Pk.here))) Tk.nil))) ?_
        refine Aw (i := 5) rfl rfl rfl (Rdo.load rfl (Lds.next (Lds.one rfl))) (Aw (i := 6) rfl rfl rfl (Rdo.nilCheck rfl) (Aw (i := 7) rfl rfl rfl (Rdo.fieldAddr0 rfl) (Aw (i := 8) rfl rfl rfl (Rdo.load rfl (Lds.next (Lds.next (Lds.one rfl)))) (Aw (i := 12) rfl rfl rfl (Rdo.load rfl (Lds.one rfl)) ?_))))
        refine Aw (i := 13) rfl rfl rfl (Rdo.sub64 rfl rfl (by omega)) ?_
        refine Aw (i := 14) rfl rfl rfl (Rdo.gei rfl rfl) (At (i := 15) rfl (Rdo.pick_t rfl rfl) ?_)
        refine WpA.stop (by kernel_rfl) ?_
        refine Ql ?_
        refine WpR.done (by kernel_rfl) ?_
        refine Thn.n (cK rfl ?_)
        refine Wp.draw (by kernel_rfl) ?_
        refine Qt (i := 2) rfl (Rdo.move rfl) (Qt (i := 3) rfl (Rdo.move rfl) ?_)
        refine WpR.load (i := 1) [0] rfl (by kernel_rfl) (by kernel_rfl) (by kernel_rfl) (by kernel_rfl) (by kernel_rfl) rfl Tk.rfl_ (Harm.rd rfl (Rdo.load rfl (Lds.next (Lds.next (Lds.next (Lds.next (Lds.next (Lds.one rfl))))))) Harm.nil) (Rdo.load rfl (Lds.next (Lds.one rfl))) rfl ?_
        refine WpR.phaseL (m := 1) #[true, true, true, true, true, true, false] 3 _ rfl (by kernel_rfl) (Tk.cons (Pk.next (Pk.next (Pk.next (Pk.next (Pk.next Pk.here))))) Tk.nil) ?_
        refine At (i := 0) rfl (Rdo.load rfl (Lds.one rfl)) ?_
        refine WpA.one (i := 4) rfl (by kernel_rfl) (Sc (t1 _) rfl ?_)
        rintro _ _ ⟨v33_0, ⟨v33_1, ⟨rfl, rfl⟩⟩⟩
        refine WpA.lst (by simp only [List.cons_append, List.nil_append]; exact rfl) ?_
        (refine WpA.one (i := 5) rfl (by kernel_rfl) (Stp.appendP rfl rfl (Pk.next (Pk.next (Pk.next (Pk.next (Pk.next (Pk.next (Pk.next (Pk.next Pk.here)))))))) (Src.next (Src.next (Src.cel (by first | rfl | (simp <;> done) | (simp <;> omega))))) (by first | rfl | (simp <;> done) | (simp <;> omega)) (by first | assumption | exact oneCells1 rfl | exact oneCells1 (by assumption) | exact oneCells_bytesC _ | exact oneCells_votesC _ | (simp [oneCells, Value.oneCell'] <;> done)) (by first | omega | (simp <;> omega)) (by first | omega | (simp <;> omega)) rfl (by first | rfl | (simp <;> done)) ?_); intro na35 nc35)
        refine WpA.stop (by kernel_rfl) ?_
        refine Ql ?_
        refine Qo (i := 6) rfl (Stp.storeV rfl rfl (VC.sl _ _ _) rfl (Sp (oneCells1 rfl)) ?_)
        refine WpR.done (by kernel_rfl) ?_
        refine Blk.n ?_
        rw [markA_snoc, aset_keys]
        refine ⟨ticL b nb2 nb20 m (r.1.decide N p 3, r.2 ++ [⟨3, N, p.epoch, p.last⟩]) v33_0 (.slice na35 (r.2.length + 1) nc35), Gh.trans Gk (Gh.trans (prodA_shut0 (q := q) (p := { p with opn := false, parts := [] }) rfl) (Gh.part2 hqi (List.getElem?_eq_some_iff.1 hpt).1)), _, _, by rw [hlen, hsucc]⟩
      · have ha : r.1.ages p = false := by simp [CoS.ages, hg5]
        rw [ha, if_neg (by simp)] at hsucc
        refine Wsr (Ls (Rdo.assign rfl) (Lnt (Wp.region (Ls (Rdo.assign rfl) (WpL.nil ?_)))))
        refine ⟨rfl, fun st pe => ?_⟩
        refine Wp.block (Wp.seq ?_)
        refine Wp.draw (by kernel_rfl) ?_
        refine Qt (i := 0) rfl (Rdo.move rfl) (Qt (i := 1) rfl (Rdo.nilCheck rfl) (Qt (i := 2) rfl (Rdo.fieldAddr0 rfl) ?_))
        refine Qo (i := 3) rfl (Stp.rd (Rdo.load rfl (Lds.one rfl)) rfl ?_)
        refine Qt (i := 4) rfl (Rdo.move rfl) ?_
        refine WpR.tT 24 rfl (by first | rfl | assumption | (simp only [decide_eq_true_eq, decide_eq_false_iff_not, Bool.not_eq_true', Bool.not_eq_false', List.length_cons, List.length_nil]; first | assumption | omega) | (simp <;> done) | (simp <;> omega)) ?_
        refine Qw (i := 9) rfl rfl rfl (Rdo.move rfl) (Qw (i := 10) rfl rfl rfl (Rdo.nilCheck rfl) (Qw (i := 11) rfl rfl rfl (Rdo.fieldAddr0 rfl) ?_))
        refine WpR.phaseL (m := 0) #[true, true, true, true, true, true, true, true, true, true, true, true, true, true, true, true] 8 _ rfl (by kernel_rfl) (Tk.cons Pk.here (Tk.cons (Pk.next (Pk.next (Pk.next Pk.here))) (Tk.cons (Pk.next (Pk.next (Pk.next Pk.here))) Tk.nil))) ?_
        refine Aw (i := 5) rfl rfl rfl (Rdo.load rfl (Lds.next (Lds.one rfl))) (Aw (i := 6) rfl rfl rfl (Rdo.nilCheck rfl) (Aw (i := 7) rfl rfl rfl (Rdo.fieldAddr0 rfl) (Aw (i := 8) rfl rfl rfl (Rdo.load rfl (Lds.next (Lds.next (Lds.one rfl)))) (Aw (i := 12) rfl rfl rfl (Rdo.load rfl (Lds.one rfl)) ?_))))
        refine Aw (i := 13) rfl rfl rfl (Rdo.sub64 rfl rfl (by omega)) ?_
        refine Aw (i := 14) rfl rfl rfl (Rdo.gei rfl rfl) (At (i := 15) rfl (Rdo.pick_t rfl rfl) ?_)
        refine WpA.stop (by kernel_rfl) ?_
        refine Ql ?_
        refine WpR.done (by kernel_rfl) ?_
        refine Thn.n (cL rfl (Wp.skip (Blk.n ?_)))
        rw [ho] at hsh
        exact ⟨ticL b nb2 nb20 m r mv v, Gh.trans Gk (hsh _), mv, v, by rw [hlen, hsucc]⟩
  · rintro xs _ rfl ⟨mv, v, rfl⟩
    rw [tabE_length, hm]
    refine Blk.n (Thn.n (Wsr (Ls (Rdo.load rfl (Lds.next (Lds.one rfl))) (Ls (Rdo.assign rfl) (Lnt (Wp.ret ?_))))))
    refine Ret.now (by repeat (first | exact ResV.nil | apply ResV.tmp rfl | apply ResV.cell rfl (by repeat (first | exact Lds.one rfl | (apply Lds.all; (first | rfl | assumption | (simp <;> fail))) | exact Lds.ione0 | exact Lds.ione rfl | (apply Lds.iall; (first | rfl | assumption | (simp <;> fail))) | apply Lds.next)))) (Gh.trans Gk (fin1 (c := (c.tickN c.prods.length).1) (ms := (c.tickN c.prods.length).2) { m with mv := mv } ?_)) ⟨_, rfl, rfl⟩
    rw [(c.tickN_spec c.prods.length).1]
    exact hm
  · rintro j pre l' h
    exact h.elim
end Go.Proofs.YtccgdnocldmjeaaGreatDoor
namespace Go.Proofs.YtccgdnocldmjeaaGreatDoor
open Go
set_option maxHeartbeats 4000000
set_option linter.unusedSimpArgs false
set_option linter.unusedVariables false
set_option maxRecDepth 20000
open Tabprod
abbrev coH (b : Nat) (c : CoS) (m : CoM) : List HP :=
  [cel b 48 (coC c m), cel m.tb 74 [.map (some m.mb)], mapA i64 m.mb (tabE 0 m.qs), rowA 61 4 m.mv c.marks.length (c.marks.map markC).flatten,
   mapA markV m.db (c.decided.map fun k => (k, vb true)), mapA askV m.ab (c.answers.map fun x => (x.1, .agg (repC x.2).toArray))]
theorem coA_at {b : Nat} {c : CoS} {i : Nat} {p : Prod} (hpi : c.prods[i]? = some p) : GhE [coA b c] (fun x : CoM × Nat × Value => x.1.qs.length = c.prods.length ∧ x.1.qs[i]? = some x.2.1)
    (fun x => cel x.2.1 84 (prodC p x.2.2) :: pmA x.2.2 p.opn p.parts :: holeA x.1.qs c.prods i :: coH b c x.1) := by
  refine GhE.mk fun F w hl => ?_
  obtain ⟨m, hm, h⟩ := coA_open.use hl
  obtain ⟨q, hqi⟩ : ∃ q, m.qs[i]? = some q := by
    have := (List.getElem?_eq_some_iff.1 hpi).1
    exact ⟨m.qs[i]'(by omega), List.getElem?_eq_getElem (by omega)⟩
  have h1 : Gh (coX b c m ++ []) (prodsA m.qs c.prods :: coH b c m) := Gk
  obtain ⟨v, _, h2⟩ := prodA_open.use ((Gh.part1 hqi hpi).use (h1.use h))
  exact ⟨(m, q, v), ⟨hm, hqi⟩, h2⟩
theorem coA_put {b : Nat} {c c' : CoS} {m : CoM} {i q : Nat} {p' : Prod} {l : List HP} (hm : m.qs.length = c.prods.length) (hqi : m.qs[i]? = some q) (h : c'.prods = c.prods.set i p') :
    Gh (prodA q p' :: holeA m.qs c.prods i :: coH b c' m ++ l) (coA b c' :: l) := by
  have hi : i < c.prods.length := by rw [← hm]; exact (List.getElem?_eq_some_iff.1 hqi).1
  refine Gh.trans (Gh.part2 hqi hi) ?_
  rw [← h]
  refine Gh.trans ?_ (coA_shut m (by rw [h, List.length_set]; exact hm))
  exact Gh.perm (List.perm_middle (l₁ := [_, _, _]).symm)
theorem pmA_open {v : Value} {parts : List Int} {l : List HP} : GhE (pmA v true parts :: l) (fun mb : Nat => v = .map (some mb)) (fun mb => mapA i64 mb (parts.map fun k => (k, vb true)) :: l) := by
  unfold pmA
  rw [if_pos rfl]
  refine GhE.mk fun F w hl => ?_
  obtain ⟨mb, _, h⟩ := (GhE.open_ (f := fun mb : Nat => [pureH (v = .map (some mb)), mapA i64 mb (parts.map fun k => (k, vb true))]) Pk.here).use hl
  obtain ⟨h1, h2⟩ := Holds.open_pure h
  exact ⟨mb, h1, h2⟩
theorem prodA_shutM {q mb : Nat} {p : Prod} {l : List HP} (h : p.opn = true) : Gh (cel q 84 (prodC p (.map (some mb))) :: mapA i64 mb (p.parts.map fun k => (k, vb true)) :: l) (prodA q p :: l) := by
  refine Gh.trans (Gh.mk fun F w hl => ?_) (prodA_shut (v := .map (some mb)))
  have h1 := hl.perm (List.Perm.swap _ _ _)
  have h2 := Holds.shut_pure (φ := (Value.map (some mb)) = Value.map (some mb)) rfl h1
  have g := Gh.shut (rest := cel q 84 (prodC p (.map (some mb))) :: l) (f := fun mb' : Nat => [pureH ((Value.map (some mb)) = Value.map (some mb')), mapA i64 mb' (p.parts.map fun k => (k, vb true))]) mb (Tk.cons Pk.here (Tk.cons Pk.here (Tk.mk fun F w h => h)))
  have h3 := g.use h2
  unfold pmA
  rw [if_pos h]
  exact h3.perm (List.Perm.swap _ _ _)
theorem get_at {b mb : Nat} {qs : List Nat} {n : Int} {q : Nat} (h0 : 0 ≤ n) (hq : qs[n.toNat]? = some q) : Trip Tryz.prog 31 [vp b 0, vi n] (tabA b mb (tabE 0 qs))
    (fun r l => r = .tuple #[vp q 0, vb true] ∧ l = tabA b mb (tabE 0 qs)) := by
  have h1 := get_ok b mb (tabE 0 qs) n
  have h2 : alook (tabE 0 qs) n = some (vp q 0) := by
    have := (List.getElem?_eq_some_iff.1 hq).1
    rw [tabE_look, if_pos (by omega), Nat.sub_zero, hq]; rfl
  unfold mapVal at h1
  rw [h2] at h1
  exact h1
theorem get_none {b mb : Nat} {qs : List Nat} {n : Int} (h0 : ¬ (0 ≤ n ∧ n < qs.length)) : Trip Tryz.prog 31 [vp b 0, vi n] (tabA b mb (tabE 0 qs))
    (fun r l => r = .tuple #[.pointer none, vb false] ∧ l = tabA b mb (tabE 0 qs)) := by
  have h1 := get_ok b mb (tabE 0 qs) n
  have h2 : alook (tabE 0 qs) n = none := by rw [tabE_look, if_neg (by omega)]
  unfold mapVal at h1
  rw [h2] at h1
  exact h1
theorem does_init (b : Nat) (c : CoS) (o : Go.Proofs.YtccgdnocldmjeaaGreatDoor.Op) (h8 : c.prods.length ≤ 8) (hml : c.marks.length ≤ 900000) (hep : ∀ p ∈ c.prods, 0 ≤ p.epoch) (hk : o.kind = 1) :
    Trip Tryz.prog 13 [vp b 0, .agg (opC o).toArray] [coA b c] (fun r l => ∃ v, r = .tuple #[.agg (repC (c.begins o.name).1).toArray, v] ∧ l = [coA b (c.begins o.name).2.2, markA v (c.begins o.name).2.1]) := by
  have s1 := begins_ok b c o h8 hml hep
  refine Trip.of_body Tryz.func13 rfl Tryz.ntmps13 Tryz.results13 rfl ?_
  refine Wsr ?_
  (refine WpL.step (Stp.boxV rfl (VC.ag _) rfl ?_); intro nb2)
  (refine WpL.step (Stp.alloc rfl ?_); intro nb3)
  refine Ls (Rdo.assign rfl) (Lnt (Wp.seq (Wsr (Ls (Rdo.fieldAddr0 rfl) (Ls (Rdo.load rfl (Lds.next (Lds.one rfl))) (Lnt (Wp.block (Wsr (Ls (Rdo.eqi rfl rfl) (Ls (Rdo.assign rfl) (Lnt (cK rfl (Wsr ?_)))))))))))))
  refine Ls (Rdo.move rfl) ?_
  refine Ls (Rdo.load rfl (Lds.next Ld)) ?_
  refine WpL.step (Sc (s1) rfl ?_)
  rintro _ _ ⟨v27_0, ⟨rfl, rfl⟩⟩
  refine Ll ?_
  refine Ls (Rdo.extract rfl rfl) (Ls (Rdo.extract rfl rfl) ?_)
  refine WpL.step (St rfl rfl (VC.ag _) ?_)
  refine Ls (Rdo.assign rfl) (Lnt (Wp.ret ?_))
  refine Blk.r ?_
  refine Thn.r ?_
  refine Rt (ResV.cell rfl (by repeat (first | exact Lds.one rfl | (apply Lds.all; (first | rfl | assumption | (simp <;> fail))) | exact Lds.ione0 | exact Lds.ione rfl | (apply Lds.iall; (first | rfl | assumption | (simp <;> fail))) | apply Lds.next)) (ResV.tmp rfl ResV.nil)) ⟨_, ⟨rfl, rfl⟩⟩
theorem does_tick (b : Nat) (c : CoS) (o : Go.Proofs.YtccgdnocldmjeaaGreatDoor.Op) (h8 : c.prods.length ≤ 8) (hml : c.marks.length ≤ 900000) (hn : 0 ≤ c.now ∧ c.now ≤ 1000000) (hbg : ∀ p ∈ c.prods, 0 ≤ p.began ∧ p.began ≤ 2000000) (hk : o.kind = 4) :
    Trip Tryz.prog 13 [vp b 0, .agg (opC o).toArray] [coA b c] (fun r l => ∃ v, r = .tuple #[.agg (repC ⟨0, 0, 0⟩).toArray, v] ∧ l = [coA b c.ticks.2, markA v c.ticks.1]) := by
  have s1 := ticks_ok b c h8 hml hn hbg
  refine Trip.of_body Tryz.func13 rfl Tryz.ntmps13 Tryz.results13 rfl ?_
  refine Wsr ?_
  (refine WpL.step (Stp.boxV rfl (VC.ag _) rfl ?_); intro nb2)
  (refine WpL.step (Stp.alloc rfl ?_); intro nb3)
  refine Ls (Rdo.assign rfl) (Lnt (Wp.seq (Wsr (Ls (Rdo.fieldAddr0 rfl) (Ls (Rdo.load rfl (Lds.next (Lds.one rfl))) (Lnt (Wp.block (Wsr (Ls (Rdo.eqi rfl rfl) (Ls (Rdo.assign rfl) (Lnt (cL rfl (Wsr ?_)))))))))))))
  refine Ls (Rdo.eqi rfl rfl) (Ls (Rdo.assign rfl) (Lnt (cK rfl (Wsr (Ls (Rdo.bld rfl (BldL.nil _)) (Ls (Rdo.move rfl) ?_))))))
  refine WpL.step (Sc (s1) rfl ?_)
  rintro _ _ ⟨v34_0, ⟨rfl, rfl⟩⟩
  refine Ll ?_
  refine WpL.step (St rfl rfl (VC.ag _) ?_)
  refine Ls (Rdo.assign rfl) (Lnt (Wp.ret ?_))
  refine Blk.r ?_
  refine Thn.r ?_
  refine Rt (ResV.cell rfl (by repeat (first | exact Lds.one rfl | (apply Lds.all; (first | rfl | assumption | (simp <;> fail))) | exact Lds.ione0 | exact Lds.ione rfl | (apply Lds.iall; (first | rfl | assumption | (simp <;> fail))) | apply Lds.next)) (ResV.tmp rfl ResV.nil)) ⟨_, ⟨rfl, rfl⟩⟩
theorem does_none (b : Nat) (c : CoS) (o : Go.Proofs.YtccgdnocldmjeaaGreatDoor.Op) (hk : ¬ o.kind = 1) (hk4 : ¬ o.kind = 4) (hp : ¬ (0 ≤ o.producer ∧ o.producer < c.prods.length)) :
    Trip Tryz.prog 13 [vp b 0, .agg (opC o).toArray] [coA b c] (fun r l => ∃ v, r = .tuple #[.agg (repC ⟨4, 0, 0⟩).toArray, v] ∧ l = [coA b c, markA v []]) := by
  refine Trip.ghE coA_open ?_
  rintro m hm
  have s1 := get_none (b := m.tb) (mb := m.mb) (qs := m.qs) (n := o.producer) (by rw [hm]; exact hp)
  simp only [coX, List.cons_append, List.nil_append]
  refine Trip.of_body Tryz.func13 rfl Tryz.ntmps13 Tryz.results13 rfl ?_
  refine Wsr ?_
  (refine WpL.step (Stp.boxV rfl (VC.ag _) rfl ?_); intro nb2)
  (refine WpL.step (Stp.alloc rfl ?_); intro nb3)
  refine Ls (Rdo.assign rfl) (Lnt (Wp.seq (Wsr (Ls (Rdo.fieldAddr0 rfl) (Ls (Rdo.load rfl (Lds.next (Lds.one rfl))) (Lnt (Wp.block (Wsr (Ls (Rdo.eqi rfl rfl) (Ls (Rdo.assign rfl) (Lnt (cL rfl (Wsr ?_)))))))))))))
  refine Ls (Rdo.eqi rfl rfl) (Ls (Rdo.assign rfl) (Lnt (cL rfl (Wp.skip (Blk.n (Thn.n (Wp.seq ?_)))))))
  refine Wp.draw (by kernel_rfl) ?_
  refine Qt (i := 0) rfl (Rdo.move rfl) (Qt (i := 1) rfl (Rdo.nilCheck rfl) (Qt (i := 2) rfl (Rdo.fieldAddr0 rfl) (Qt (i := 4) rfl (Rdo.fieldAddr0 rfl) ?_)))
  refine WpR.load (i := 3) [5] rfl (by kernel_rfl) (by kernel_rfl) (by kernel_rfl) (by kernel_rfl) (by kernel_rfl) rfl Tk.rfl_ (Harm.rd rfl (Rdo.load rfl (Lds.next (Lds.one rfl))) Harm.nil) (Rdo.load rfl (Lds.next (Lds.next (Lds.one rfl)))) rfl ?_
  refine Qo (i := 5) rfl (Stp.rd (Rdo.load rfl (Lds.next (Lds.one rfl))) rfl ?_)
  refine Qo (i := 6) rfl (Sc (s1) rfl ?_)
  rintro _ _ ⟨rfl, rfl⟩
  refine Ql ?_
  refine Qt (i := 7) rfl (Rdo.move rfl) (Qt (i := 8) rfl (Rdo.extract rfl rfl) (Qt (i := 9) rfl (Rdo.extract rfl rfl) (Qt (i := 10) rfl (Rdo.assign rfl) (Qt (i := 11) rfl (Rdo.assign rfl) ?_))))
  refine WpR.done (by kernel_rfl) ?_
  refine Thn.n (Wp.seq (Wp.block (Wsr (Ls (Rdo.move rfl) (Ls (Rdo.not rfl) (Ls (Rdo.assign rfl) (Lnt ?_)))))))
  refine Wp.condT rfl ?_
  refine Wsr ?_
  refine Ls (Rdo.bld rfl (BldL.cons rfl (VC.i _ _) (by first | rfl | assumption | (simp <;> done)) (by repeat (first | exact LPut.nil _ | apply LPut.here | apply LPut.next)) (BldL.nil _))) ?_
  refine WpL.step (St rfl rfl (VC.ag _) ?_)
  refine Ls (Rdo.assign rfl) (Lnt (Wp.ret ?_))
  refine Blk.r ?_
  refine Thn.r ?_
  exact Ret.now (by repeat (first | exact ResV.nil | apply ResV.tmp rfl | apply ResV.cell rfl (by repeat (first | exact Lds.one rfl | (apply Lds.all; (first | rfl | assumption | (simp <;> fail))) | exact Lds.ione0 | exact Lds.ione rfl | (apply Lds.iall; (first | rfl | assumption | (simp <;> fail))) | apply Lds.next)))) (Gh.trans Gk (fin0 m hm)) ⟨_, rfl, rfl⟩
end Go.Proofs.YtccgdnocldmjeaaGreatDoor
namespace Go.Proofs.YtccgdnocldmjeaaGreatDoor
open Go
set_option maxHeartbeats 4000000
set_option linter.unusedSimpArgs false
set_option linter.unusedVariables false
set_option maxRecDepth 20000
open Tabprod
theorem does_fenced (b : Nat) (c : CoS) (o : Go.Proofs.YtccgdnocldmjeaaGreatDoor.Op) (p : Prod) (hk : ¬ o.kind = 1) (hk4 : ¬ o.kind = 4) (h0 : 0 ≤ o.producer) (hpi : c.prods[o.producer.toNat]? = some p) (he : ¬ o.epoch = p.epoch) :
    Trip Tryz.prog 13 [vp b 0, .agg (opC o).toArray] [coA b c] (fun r l => ∃ v, r = .tuple #[.agg (repC ⟨5, 0, 0⟩).toArray, v] ∧ l = [coA b c, markA v []]) := by
  refine Trip.ghE (coA_at hpi) ?_
  rintro ⟨m, q, v⟩ ⟨hm, hqi⟩
  simp only at hm hqi
  have s1 := get_at (b := m.tb) (mb := m.mb) h0 hqi
  refine Trip.of_body Tryz.func13 rfl Tryz.ntmps13 Tryz.results13 rfl ?_
  refine Wsr ?_
  (refine WpL.step (Stp.boxV rfl (VC.ag _) rfl ?_); intro nb2)
  (refine WpL.step (Stp.alloc rfl ?_); intro nb3)
  refine Ls (Rdo.assign rfl) (Lnt (Wp.seq (Wsr (Ls (Rdo.fieldAddr0 rfl) (Ls (Rdo.load rfl (Lds.next (Lds.one rfl))) (Lnt (Wp.block (Wsr (Ls (Rdo.eqi rfl rfl) (Ls (Rdo.assign rfl) (Lnt (cL rfl (Wsr ?_)))))))))))))
  refine Ls (Rdo.eqi rfl rfl) (Ls (Rdo.assign rfl) (Lnt (cL rfl (Wp.skip (Blk.n (Thn.n (Wp.seq ?_)))))))
  refine Wp.draw (by kernel_rfl) ?_
  refine Qt (i := 0) rfl (Rdo.move rfl) (Qt (i := 1) rfl (Rdo.nilCheck rfl) (Qt (i := 2) rfl (Rdo.fieldAddr0 rfl) (Qt (i := 4) rfl (Rdo.fieldAddr0 rfl) ?_)))
  refine WpR.load (i := 3) [5] rfl (by kernel_rfl) (by kernel_rfl) (by kernel_rfl) (by kernel_rfl) (by kernel_rfl) rfl Tk.rfl_ (Harm.rd rfl (Rdo.load rfl (Lds.next (Lds.one rfl))) Harm.nil) (Rdo.load rfl (Lds.next (Lds.next (Lds.next (Lds.next (Lds.next (Lds.one rfl))))))) rfl ?_
  refine Qo (i := 5) rfl (Stp.rd (Rdo.load rfl (Lds.next (Lds.one rfl))) rfl ?_)
  refine Qo (i := 6) rfl (Sc (s1) rfl ?_)
  rintro _ _ ⟨rfl, rfl⟩
  refine Ql ?_
  refine Qt (i := 7) rfl (Rdo.move rfl) (Qt (i := 8) rfl (Rdo.extract rfl rfl) (Qt (i := 9) rfl (Rdo.extract rfl rfl) (Qt (i := 10) rfl (Rdo.assign rfl) (Qt (i := 11) rfl (Rdo.assign rfl) ?_))))
  refine WpR.done (by kernel_rfl) ?_
  refine Thn.n (Wp.seq (Wp.block (Wsr (Ls (Rdo.move rfl) (Ls (Rdo.not rfl) (Ls (Rdo.assign rfl) (Lnt ?_)))))))
  refine Wp.condF rfl ?_
  refine Wp.seq ?_
  refine Wp.draw (by kernel_rfl) ?_
  refine Qt (i := 0) rfl (Rdo.fieldAddr0 rfl) (Qt (i := 2) rfl (Rdo.move rfl) (Qt (i := 3) rfl (Rdo.nilCheck rfl) (Qt (i := 4) rfl (Rdo.fieldAddr0 rfl) ?_)))
  refine WpR.load (i := 1) [5] rfl (by kernel_rfl) (by kernel_rfl) (by kernel_rfl) (by kernel_rfl) (by kernel_rfl) rfl Tk.rfl_ (Harm.rd rfl (Rdo.load rfl (Lds.next (Lds.next (Lds.next (Lds.next (Lds.one rfl)))))) Harm.nil) (Rdo.load rfl (Lds.next (Lds.next (Lds.next (Lds.one rfl))))) rfl ?_
  refine Qo (i := 5) rfl (Stp.rd (Rdo.load rfl (Lds.next (Lds.next (Lds.next (Lds.next (Lds.one rfl)))))) rfl ?_)
  refine Qt (i := 6) rfl (Rdo.nei rfl rfl) (Qt (i := 7) rfl (Rdo.assign rfl) ?_)
  refine WpR.done (by kernel_rfl) ?_
  refine Thn.n (cK rfl (Wsr ?_))
  refine Ls (Rdo.bld rfl (BldL.cons rfl (VC.i _ _) (by first | rfl | assumption | (simp <;> done)) (by repeat (first | exact LPut.nil _ | apply LPut.here | apply LPut.next)) (BldL.nil _))) ?_
  refine WpL.step (St rfl rfl (VC.ag _) ?_)
  refine Ls (Rdo.assign rfl) (Lnt (Wp.ret ?_))
  refine Blk.r ?_
  refine Thn.r ?_
  refine Ret.now (by repeat (first | exact ResV.nil | apply ResV.tmp rfl | apply ResV.cell rfl (by repeat (first | exact Lds.one rfl | (apply Lds.all; (first | rfl | assumption | (simp <;> fail))) | exact Lds.ione0 | exact Lds.ione rfl | (apply Lds.iall; (first | rfl | assumption | (simp <;> fail))) | apply Lds.next)))) (Gh.trans (b := cel q 84 (prodC p v) :: pmA v p.opn p.parts :: holeA m.qs c.prods o.producer.toNat :: coH b c m ++ []) Gk (Gh.trans prodA_shut (Gh.trans (coA_put (c' := c) hm hqi (set_same hpi).symm) (Gh.trans (Gh.nil 61 4) (Gh.perm (List.Perm.swap _ _ _)))))) ⟨_, rfl, rfl⟩
theorem does_add6 (b : Nat) (c : CoS) (o : Go.Proofs.YtccgdnocldmjeaaGreatDoor.Op) (p : Prod) (hk : ¬ o.kind = 1) (hk4 : ¬ o.kind = 4) (h0 : 0 ≤ o.producer) (hpi : c.prods[o.producer.toNat]? = some p) (he : o.epoch = p.epoch) (h2 : o.kind = 2) (h3 : p.opn = true) (h4 : ¬ o.txn = p.last) :
    Trip Tryz.prog 13 [vp b 0, .agg (opC o).toArray] [coA b c] (fun r l => ∃ v, r = .tuple #[.agg (repC ⟨6, 0, 0⟩).toArray, v] ∧ l = [coA b c, markA v []]) := by
  refine Trip.ghE (coA_at hpi) ?_
  rintro ⟨m, q, v⟩ ⟨hm, hqi⟩
  simp only at hm hqi
  have s1 := get_at (b := m.tb) (mb := m.mb) h0 hqi
  have s2 := adds_open b q 48 (vp m.tb 0) m.mv (.map (some m.db)) (.map (some m.ab)) (vi c.now) v o p h3 h4
  refine Trip.of_body Tryz.func13 rfl Tryz.ntmps13 Tryz.results13 rfl ?_
  refine Wsr ?_
  (refine WpL.step (Stp.boxV rfl (VC.ag _) rfl ?_); intro nb2)
  (refine WpL.step (Stp.alloc rfl ?_); intro nb3)
  refine Ls (Rdo.assign rfl) (Lnt (Wp.seq (Wsr (Ls (Rdo.fieldAddr0 rfl) (Ls (Rdo.load rfl (Lds.next (Lds.one rfl))) (Lnt (Wp.block (Wsr (Ls (Rdo.eqi rfl rfl) (Ls (Rdo.assign rfl) (Lnt (cL rfl (Wsr ?_)))))))))))))
  refine Ls (Rdo.eqi rfl rfl) (Ls (Rdo.assign rfl) (Lnt (cL rfl (Wp.skip (Blk.n (Thn.n (Wp.seq ?_)))))))
  refine Wp.draw (by kernel_rfl) ?_
  refine Qt (i := 0) rfl (Rdo.move rfl) (Qt (i := 1) rfl (Rdo.nilCheck rfl) (Qt (i := 2) rfl (Rdo.fieldAddr0 rfl) (Qt (i := 4) rfl (Rdo.fieldAddr0 rfl) ?_)))
  refine WpR.load (i := 3) [5] rfl (by kernel_rfl) (by kernel_rfl) (by kernel_rfl) (by kernel_rfl) (by kernel_rfl) rfl Tk.rfl_ (Harm.rd rfl (Rdo.load rfl (Lds.next (Lds.one rfl))) Harm.nil) (Rdo.load rfl (Lds.next (Lds.next (Lds.next (Lds.next (Lds.next (Lds.one rfl))))))) rfl ?_
  refine Qo (i := 5) rfl (Stp.rd (Rdo.load rfl (Lds.next (Lds.one rfl))) rfl ?_)
  refine Qo (i := 6) rfl (Sc (s1) rfl ?_)
  rintro _ _ ⟨rfl, rfl⟩
  refine Ql ?_
  refine Qt (i := 7) rfl (Rdo.move rfl) (Qt (i := 8) rfl (Rdo.extract rfl rfl) (Qt (i := 9) rfl (Rdo.extract rfl rfl) (Qt (i := 10) rfl (Rdo.assign rfl) (Qt (i := 11) rfl (Rdo.assign rfl) ?_))))
  refine WpR.done (by kernel_rfl) ?_
  refine Thn.n (Wp.seq (Wp.block (Wsr (Ls (Rdo.move rfl) (Ls (Rdo.not rfl) (Ls (Rdo.assign rfl) (Lnt ?_)))))))
  refine Wp.condF rfl ?_
  refine Wp.seq ?_
  refine Wp.draw (by kernel_rfl) ?_
  refine Qt (i := 0) rfl (Rdo.fieldAddr0 rfl) (Qt (i := 2) rfl (Rdo.move rfl) (Qt (i := 3) rfl (Rdo.nilCheck rfl) (Qt (i := 4) rfl (Rdo.fieldAddr0 rfl) ?_)))
  refine WpR.load (i := 1) [5] rfl (by kernel_rfl) (by kernel_rfl) (by kernel_rfl) (by kernel_rfl) (by kernel_rfl) rfl Tk.rfl_ (Harm.rd rfl (Rdo.load rfl (Lds.next (Lds.next (Lds.next (Lds.next (Lds.one rfl)))))) Harm.nil) (Rdo.load rfl (Lds.next (Lds.next (Lds.next (Lds.one rfl))))) rfl ?_
  refine Qo (i := 5) rfl (Stp.rd (Rdo.load rfl (Lds.next (Lds.next (Lds.next (Lds.next (Lds.one rfl)))))) rfl ?_)
  refine Qt (i := 6) rfl (Rdo.nei rfl rfl) (Qt (i := 7) rfl (Rdo.assign rfl) ?_)
  refine WpR.done (by kernel_rfl) ?_
  refine Thn.n (cL rfl (Wsr (Ls (Rdo.fieldAddr0 rfl) (Ls (Rdo.load rfl (Lds.next (Lds.next (Lds.next (Lds.one rfl))))) (Ls (Rdo.eqi rfl rfl) (Ls (Rdo.assign rfl) (Lnt (cK rfl (Wsr (Ls (Rdo.move rfl) ?_))))))))))
  refine Ls (Rdo.load rfl (Lds.next (Lds.next (Lds.next Ld)))) ?_
  refine Ls (Rdo.move rfl) ?_
  refine WpL.step (Sc (s2) rfl ?_)
  rintro _ _ ⟨rfl, rfl⟩
  refine Ll ?_
  refine Ls (Rdo.bld rfl (BldL.cons rfl (VC.i _ _) (by first | rfl | assumption | (simp <;> done)) (by repeat (first | exact LPut.nil _ | apply LPut.here | apply LPut.next)) (BldL.nil _))) ?_
  refine WpL.step (St rfl rfl (VC.ag _) ?_)
  refine Ls (Rdo.assign rfl) (Lnt (Wp.ret ?_))
  refine Blk.r ?_
  refine Thn.r ?_
  refine Ret.now (by repeat (first | exact ResV.nil | apply ResV.tmp rfl | apply ResV.cell rfl (by repeat (first | exact Lds.one rfl | (apply Lds.all; (first | rfl | assumption | (simp <;> fail))) | exact Lds.ione0 | exact Lds.ione rfl | (apply Lds.iall; (first | rfl | assumption | (simp <;> fail))) | apply Lds.next)))) (Gh.trans (b := cel q 84 (prodC p v) :: pmA v p.opn p.parts :: holeA m.qs c.prods o.producer.toNat :: coH b c m ++ []) Gk (Gh.trans prodA_shut (Gh.trans (coA_put (c' := c) hm hqi (set_same hpi).symm) (Gh.trans (Gh.nil 61 4) (Gh.perm (List.Perm.swap _ _ _)))))) ⟨_, rfl, rfl⟩
theorem does_add7 (b : Nat) (c : CoS) (o : Go.Proofs.YtccgdnocldmjeaaGreatDoor.Op) (p : Prod) (hk : ¬ o.kind = 1) (hk4 : ¬ o.kind = 4) (h0 : 0 ≤ o.producer) (hpi : c.prods[o.producer.toNat]? = some p) (he : o.epoch = p.epoch) (h2 : o.kind = 2) (h3 : p.opn = false) (h4 : 100 ≤ p.last) :
    Trip Tryz.prog 13 [vp b 0, .agg (opC o).toArray] [coA b c] (fun r l => ∃ v, r = .tuple #[.agg (repC ⟨7, 0, 0⟩).toArray, v] ∧ l = [coA b c, markA v []]) := by
  refine Trip.ghE (coA_at hpi) ?_
  rintro ⟨m, q, v⟩ ⟨hm, hqi⟩
  simp only at hm hqi
  have s1 := get_at (b := m.tb) (mb := m.mb) h0 hqi
  have s2 := adds_used b q 48 (vp m.tb 0) m.mv (.map (some m.db)) (.map (some m.ab)) (vi c.now) v o p h3 h4
  refine Trip.of_body Tryz.func13 rfl Tryz.ntmps13 Tryz.results13 rfl ?_
  refine Wsr ?_
  (refine WpL.step (Stp.boxV rfl (VC.ag _) rfl ?_); intro nb2)
  (refine WpL.step (Stp.alloc rfl ?_); intro nb3)
  refine Ls (Rdo.assign rfl) (Lnt (Wp.seq (Wsr (Ls (Rdo.fieldAddr0 rfl) (Ls (Rdo.load rfl (Lds.next (Lds.one rfl))) (Lnt (Wp.block (Wsr (Ls (Rdo.eqi rfl rfl) (Ls (Rdo.assign rfl) (Lnt (cL rfl (Wsr ?_)))))))))))))
  refine Ls (Rdo.eqi rfl rfl) (Ls (Rdo.assign rfl) (Lnt (cL rfl (Wp.skip (Blk.n (Thn.n (Wp.seq ?_)))))))
  refine Wp.draw (by kernel_rfl) ?_
  refine Qt (i := 0) rfl (Rdo.move rfl) (Qt (i := 1) rfl (Rdo.nilCheck rfl) (Qt (i := 2) rfl (Rdo.fieldAddr0 rfl) (Qt (i := 4) rfl (Rdo.fieldAddr0 rfl) ?_)))
  refine WpR.load (i := 3) [5] rfl (by kernel_rfl) (by kernel_rfl) (by kernel_rfl) (by kernel_rfl) (by kernel_rfl) rfl Tk.rfl_ (Harm.rd rfl (Rdo.load rfl (Lds.next (Lds.one rfl))) Harm.nil) (Rdo.load rfl (Lds.next (Lds.next (Lds.next (Lds.next (Lds.next (Lds.one rfl))))))) rfl ?_
  refine Qo (i := 5) rfl (Stp.rd (Rdo.load rfl (Lds.next (Lds.one rfl))) rfl ?_)
  refine Qo (i := 6) rfl (Sc (s1) rfl ?_)
  rintro _ _ ⟨rfl, rfl⟩
  refine Ql ?_
  refine Qt (i := 7) rfl (Rdo.move rfl) (Qt (i := 8) rfl (Rdo.extract rfl rfl) (Qt (i := 9) rfl (Rdo.extract rfl rfl) (Qt (i := 10) rfl (Rdo.assign rfl) (Qt (i := 11) rfl (Rdo.assign rfl) ?_))))
  refine WpR.done (by kernel_rfl) ?_
  refine Thn.n (Wp.seq (Wp.block (Wsr (Ls (Rdo.move rfl) (Ls (Rdo.not rfl) (Ls (Rdo.assign rfl) (Lnt ?_)))))))
  refine Wp.condF rfl ?_
  refine Wp.seq ?_
  refine Wp.draw (by kernel_rfl) ?_
  refine Qt (i := 0) rfl (Rdo.fieldAddr0 rfl) (Qt (i := 2) rfl (Rdo.move rfl) (Qt (i := 3) rfl (Rdo.nilCheck rfl) (Qt (i := 4) rfl (Rdo.fieldAddr0 rfl) ?_)))
  refine WpR.load (i := 1) [5] rfl (by kernel_rfl) (by kernel_rfl) (by kernel_rfl) (by kernel_rfl) (by kernel_rfl) rfl Tk.rfl_ (Harm.rd rfl (Rdo.load rfl (Lds.next (Lds.next (Lds.next (Lds.next (Lds.one rfl)))))) Harm.nil) (Rdo.load rfl (Lds.next (Lds.next (Lds.next (Lds.one rfl))))) rfl ?_
  refine Qo (i := 5) rfl (Stp.rd (Rdo.load rfl (Lds.next (Lds.next (Lds.next (Lds.next (Lds.one rfl)))))) rfl ?_)
  refine Qt (i := 6) rfl (Rdo.nei rfl rfl) (Qt (i := 7) rfl (Rdo.assign rfl) ?_)
  refine WpR.done (by kernel_rfl) ?_
  refine Thn.n (cL rfl (Wsr (Ls (Rdo.fieldAddr0 rfl) (Ls (Rdo.load rfl (Lds.next (Lds.next (Lds.next (Lds.one rfl))))) (Ls (Rdo.eqi rfl rfl) (Ls (Rdo.assign rfl) (Lnt (cK rfl (Wsr (Ls (Rdo.move rfl) ?_))))))))))
  refine Ls (Rdo.load rfl (Lds.next (Lds.next (Lds.next Ld)))) ?_
  refine Ls (Rdo.move rfl) ?_
  refine WpL.step (Sc (s2) rfl ?_)
  rintro _ _ ⟨rfl, rfl⟩
  refine Ll ?_
  refine Ls (Rdo.bld rfl (BldL.cons rfl (VC.i _ _) (by first | rfl | assumption | (simp <;> done)) (by repeat (first | exact LPut.nil _ | apply LPut.here | apply LPut.next)) (BldL.nil _))) ?_
  refine WpL.step (St rfl rfl (VC.ag _) ?_)
  refine Ls (Rdo.assign rfl) (Lnt (Wp.ret ?_))
  refine Blk.r ?_
  refine Thn.r ?_
  refine Ret.now (by repeat (first | exact ResV.nil | apply ResV.tmp rfl | apply ResV.cell rfl (by repeat (first | exact Lds.one rfl | (apply Lds.all; (first | rfl | assumption | (simp <;> fail))) | exact Lds.ione0 | exact Lds.ione rfl | (apply Lds.iall; (first | rfl | assumption | (simp <;> fail))) | apply Lds.next)))) (Gh.trans (b := cel q 84 (prodC p v) :: pmA v p.opn p.parts :: holeA m.qs c.prods o.producer.toNat :: coH b c m ++ []) Gk (Gh.trans prodA_shut (Gh.trans (coA_put (c' := c) hm hqi (set_same hpi).symm) (Gh.trans (Gh.nil 61 4) (Gh.perm (List.Perm.swap _ _ _)))))) ⟨_, rfl, rfl⟩
theorem does_addB (b : Nat) (c : CoS) (o : Go.Proofs.YtccgdnocldmjeaaGreatDoor.Op) (p : Prod) (hk : ¬ o.kind = 1) (hk4 : ¬ o.kind = 4) (h0 : 0 ≤ o.producer) (hpi : c.prods[o.producer.toNat]? = some p) (he : o.epoch = p.epoch) (h2 : o.kind = 2) (h3 : p.opn = false) (h4 : ¬ 100 ≤ p.last) (h5 : ¬ o.txn - 1 = p.last) (h6 : 0 ≤ o.txn ∧ o.txn ≤ 1000000) :
    Trip Tryz.prog 13 [vp b 0, .agg (opC o).toArray] [coA b c] (fun r l => ∃ v, r = .tuple #[.agg (repC ⟨6, 0, 0⟩).toArray, v] ∧ l = [coA b c, markA v []]) := by
  refine Trip.ghE (coA_at hpi) ?_
  rintro ⟨m, q, v⟩ ⟨hm, hqi⟩
  simp only at hm hqi
  have s1 := get_at (b := m.tb) (mb := m.mb) h0 hqi
  have s2 := adds_bad b q 48 (vp m.tb 0) m.mv (.map (some m.db)) (.map (some m.ab)) (vi c.now) v o p h3 h4 h5 h6
  refine Trip.of_body Tryz.func13 rfl Tryz.ntmps13 Tryz.results13 rfl ?_
  refine Wsr ?_
  (refine WpL.step (Stp.boxV rfl (VC.ag _) rfl ?_); intro nb2)
  (refine WpL.step (Stp.alloc rfl ?_); intro nb3)
  refine Ls (Rdo.assign rfl) (Lnt (Wp.seq (Wsr (Ls (Rdo.fieldAddr0 rfl) (Ls (Rdo.load rfl (Lds.next (Lds.one rfl))) (Lnt (Wp.block (Wsr (Ls (Rdo.eqi rfl rfl) (Ls (Rdo.assign rfl) (Lnt (cL rfl (Wsr ?_)))))))))))))
  refine Ls (Rdo.eqi rfl rfl) (Ls (Rdo.assign rfl) (Lnt (cL rfl (Wp.skip (Blk.n (Thn.n (Wp.seq ?_)))))))
  refine Wp.draw (by kernel_rfl) ?_
  refine Qt (i := 0) rfl (Rdo.move rfl) (Qt (i := 1) rfl (Rdo.nilCheck rfl) (Qt (i := 2) rfl (Rdo.fieldAddr0 rfl) (Qt (i := 4) rfl (Rdo.fieldAddr0 rfl) ?_)))
  refine WpR.load (i := 3) [5] rfl (by kernel_rfl) (by kernel_rfl) (by kernel_rfl) (by kernel_rfl) (by kernel_rfl) rfl Tk.rfl_ (Harm.rd rfl (Rdo.load rfl (Lds.next (Lds.one rfl))) Harm.nil) (Rdo.load rfl (Lds.next (Lds.next (Lds.next (Lds.next (Lds.next (Lds.one rfl))))))) rfl ?_
  refine Qo (i := 5) rfl (Stp.rd (Rdo.load rfl (Lds.next (Lds.one rfl))) rfl ?_)
  refine Qo (i := 6) rfl (Sc (s1) rfl ?_)
  rintro _ _ ⟨rfl, rfl⟩
  refine Ql ?_
  refine Qt (i := 7) rfl (Rdo.move rfl) (Qt (i := 8) rfl (Rdo.extract rfl rfl) (Qt (i := 9) rfl (Rdo.extract rfl rfl) (Qt (i := 10) rfl (Rdo.assign rfl) (Qt (i := 11) rfl (Rdo.assign rfl) ?_))))
  refine WpR.done (by kernel_rfl) ?_
  refine Thn.n (Wp.seq (Wp.block (Wsr (Ls (Rdo.move rfl) (Ls (Rdo.not rfl) (Ls (Rdo.assign rfl) (Lnt ?_)))))))
  refine Wp.condF rfl ?_
  refine Wp.seq ?_
  refine Wp.draw (by kernel_rfl) ?_
  refine Qt (i := 0) rfl (Rdo.fieldAddr0 rfl) (Qt (i := 2) rfl (Rdo.move rfl) (Qt (i := 3) rfl (Rdo.nilCheck rfl) (Qt (i := 4) rfl (Rdo.fieldAddr0 rfl) ?_)))
  refine WpR.load (i := 1) [5] rfl (by kernel_rfl) (by kernel_rfl) (by kernel_rfl) (by kernel_rfl) (by kernel_rfl) rfl Tk.rfl_ (Harm.rd rfl (Rdo.load rfl (Lds.next (Lds.next (Lds.next (Lds.next (Lds.one rfl)))))) Harm.nil) (Rdo.load rfl (Lds.next (Lds.next (Lds.next (Lds.one rfl))))) rfl ?_
  refine Qo (i := 5) rfl (Stp.rd (Rdo.load rfl (Lds.next (Lds.next (Lds.next (Lds.next (Lds.one rfl)))))) rfl ?_)
  refine Qt (i := 6) rfl (Rdo.nei rfl rfl) (Qt (i := 7) rfl (Rdo.assign rfl) ?_)
  refine WpR.done (by kernel_rfl) ?_
  refine Thn.n (cL rfl (Wsr (Ls (Rdo.fieldAddr0 rfl) (Ls (Rdo.load rfl (Lds.next (Lds.next (Lds.next (Lds.one rfl))))) (Ls (Rdo.eqi rfl rfl) (Ls (Rdo.assign rfl) (Lnt (cK rfl (Wsr (Ls (Rdo.move rfl) ?_))))))))))
  refine Ls (Rdo.load rfl (Lds.next (Lds.next (Lds.next Ld)))) ?_
  refine Ls (Rdo.move rfl) ?_
  refine WpL.step (Sc (s2) rfl ?_)
  rintro _ _ ⟨rfl, rfl⟩
  refine Ll ?_
  refine Ls (Rdo.bld rfl (BldL.cons rfl (VC.i _ _) (by first | rfl | assumption | (simp <;> done)) (by repeat (first | exact LPut.nil _ | apply LPut.here | apply LPut.next)) (BldL.nil _))) ?_
  refine WpL.step (St rfl rfl (VC.ag _) ?_)
  refine Ls (Rdo.assign rfl) (Lnt (Wp.ret ?_))
  refine Blk.r ?_
  refine Thn.r ?_
  refine Ret.now (by repeat (first | exact ResV.nil | apply ResV.tmp rfl | apply ResV.cell rfl (by repeat (first | exact Lds.one rfl | (apply Lds.all; (first | rfl | assumption | (simp <;> fail))) | exact Lds.ione0 | exact Lds.ione rfl | (apply Lds.iall; (first | rfl | assumption | (simp <;> fail))) | apply Lds.next)))) (Gh.trans (b := cel q 84 (prodC p v) :: pmA v p.opn p.parts :: holeA m.qs c.prods o.producer.toNat :: coH b c m ++ []) Gk (Gh.trans prodA_shut (Gh.trans (coA_put (c' := c) hm hqi (set_same hpi).symm) (Gh.trans (Gh.nil 61 4) (Gh.perm (List.Perm.swap _ _ _)))))) ⟨_, rfl, rfl⟩
theorem does_addN (b : Nat) (c : CoS) (o : Go.Proofs.YtccgdnocldmjeaaGreatDoor.Op) (p : Prod) (hk : ¬ o.kind = 1) (hk4 : ¬ o.kind = 4) (h0 : 0 ≤ o.producer) (hpi : c.prods[o.producer.toNat]? = some p) (he : o.epoch = p.epoch) (h2 : o.kind = 2) (h3 : p.opn = false) (h4 : ¬ 100 ≤ p.last) (h5 : o.txn - 1 = p.last) (h6 : 0 ≤ o.txn ∧ o.txn ≤ 1000000) :
    Trip Tryz.prog 13 [vp b 0, .agg (opC o).toArray] [coA b c] (fun r l => ∃ v, r = .tuple #[.agg (repC ⟨0, 0, 0⟩).toArray, v] ∧ l = [coA b (c.put o.producer.toNat { p with opn := true, last := o.txn, began := c.now, parts := [o.part] }), markA v []]) := by
  refine Trip.ghE (coA_at hpi) ?_
  rintro ⟨m, q, v⟩ ⟨hm, hqi⟩
  simp only at hm hqi
  have s1 := get_at (b := m.tb) (mb := m.mb) h0 hqi
  have s2 := adds_new b q 48 (vp m.tb 0) m.mv (.map (some m.db)) (.map (some m.ab)) v c.now o p h3 h4 h5 h6
  refine Trip.of_body Tryz.func13 rfl Tryz.ntmps13 Tryz.results13 rfl ?_
  refine Wsr ?_
  (refine WpL.step (Stp.boxV rfl (VC.ag _) rfl ?_); intro nb2)
  (refine WpL.step (Stp.alloc rfl ?_); intro nb3)
  refine Ls (Rdo.assign rfl) (Lnt (Wp.seq (Wsr (Ls (Rdo.fieldAddr0 rfl) (Ls (Rdo.load rfl (Lds.next (Lds.one rfl))) (Lnt (Wp.block (Wsr (Ls (Rdo.eqi rfl rfl) (Ls (Rdo.assign rfl) (Lnt (cL rfl (Wsr ?_)))))))))))))
  refine Ls (Rdo.eqi rfl rfl) (Ls (Rdo.assign rfl) (Lnt (cL rfl (Wp.skip (Blk.n (Thn.n (Wp.seq ?_)))))))
  refine Wp.draw (by kernel_rfl) ?_
  refine Qt (i := 0) rfl (Rdo.move rfl) (Qt (i := 1) rfl (Rdo.nilCheck rfl) (Qt (i := 2) rfl (Rdo.fieldAddr0 rfl) (Qt (i := 4) rfl (Rdo.fieldAddr0 rfl) ?_)))
  refine WpR.load (i := 3) [5] rfl (by kernel_rfl) (by kernel_rfl) (by kernel_rfl) (by kernel_rfl) (by kernel_rfl) rfl Tk.rfl_ (Harm.rd rfl (Rdo.load rfl (Lds.next (Lds.one rfl))) Harm.nil) (Rdo.load rfl (Lds.next (Lds.next (Lds.next (Lds.next (Lds.next (Lds.one rfl))))))) rfl ?_
  refine Qo (i := 5) rfl (Stp.rd (Rdo.load rfl (Lds.next (Lds.one rfl))) rfl ?_)
  refine Qo (i := 6) rfl (Sc (s1) rfl ?_)
  rintro _ _ ⟨rfl, rfl⟩
  refine Ql ?_
  refine Qt (i := 7) rfl (Rdo.move rfl) (Qt (i := 8) rfl (Rdo.extract rfl rfl) (Qt (i := 9) rfl (Rdo.extract rfl rfl) (Qt (i := 10) rfl (Rdo.assign rfl) (Qt (i := 11) rfl (Rdo.assign rfl) ?_))))
  refine WpR.done (by kernel_rfl) ?_
  refine Thn.n (Wp.seq (Wp.block (Wsr (Ls (Rdo.move rfl) (Ls (Rdo.not rfl) (Ls (Rdo.assign rfl) (Lnt ?_)))))))
  refine Wp.condF rfl ?_
  refine Wp.seq ?_
  refine Wp.draw (by kernel_rfl) ?_
  refine Qt (i := 0) rfl (Rdo.fieldAddr0 rfl) (Qt (i := 2) rfl (Rdo.move rfl) (Qt (i := 3) rfl (Rdo.nilCheck rfl) (Qt (i := 4) rfl (Rdo.fieldAddr0 rfl) ?_)))
  refine WpR.load (i := 1) [5] rfl (by kernel_rfl) (by kernel_rfl) (by kernel_rfl) (by kernel_rfl) (by kernel_rfl) rfl Tk.rfl_ (Harm.rd rfl (Rdo.load rfl (Lds.next (Lds.next (Lds.next (Lds.next (Lds.one rfl)))))) Harm.nil) (Rdo.load rfl (Lds.next (Lds.next (Lds.next (Lds.one rfl))))) rfl ?_
  refine Qo (i := 5) rfl (Stp.rd (Rdo.load rfl (Lds.next (Lds.next (Lds.next (Lds.next (Lds.one rfl)))))) rfl ?_)
  refine Qt (i := 6) rfl (Rdo.nei rfl rfl) (Qt (i := 7) rfl (Rdo.assign rfl) ?_)
  refine WpR.done (by kernel_rfl) ?_
  refine Thn.n (cL rfl (Wsr (Ls (Rdo.fieldAddr0 rfl) (Ls (Rdo.load rfl (Lds.next (Lds.next (Lds.next (Lds.one rfl))))) (Ls (Rdo.eqi rfl rfl) (Ls (Rdo.assign rfl) (Lnt (cK rfl (Wsr (Ls (Rdo.move rfl) ?_))))))))))
  refine Ls (Rdo.load rfl (Lds.next (Lds.next (Lds.next Ld)))) ?_
  refine Ls (Rdo.move rfl) ?_
  refine WpL.step (Sc (s2) rfl ?_)
  rintro _ _ ⟨v88_0, ⟨rfl, rfl⟩⟩
  refine Ll ?_
  refine Ls (Rdo.bld rfl (BldL.cons rfl (VC.i _ _) (by first | rfl | assumption | (simp <;> done)) (by repeat (first | exact LPut.nil _ | apply LPut.here | apply LPut.next)) (BldL.nil _))) ?_
  refine WpL.step (St rfl rfl (VC.ag _) ?_)
  refine Ls (Rdo.assign rfl) (Lnt (Wp.ret ?_))
  refine Blk.r ?_
  refine Thn.r ?_
  refine Ret.now (by repeat (first | exact ResV.nil | apply ResV.tmp rfl | apply ResV.cell rfl (by repeat (first | exact Lds.one rfl | (apply Lds.all; (first | rfl | assumption | (simp <;> fail))) | exact Lds.ione0 | exact Lds.ione rfl | (apply Lds.iall; (first | rfl | assumption | (simp <;> fail))) | apply Lds.next)))) (Gh.trans (b := cel q 84 (prodC { p with opn := true, last := o.txn, began := c.now, parts := [o.part] } (.map (some v88_0))) :: mapA i64 v88_0 (({ p with opn := true, last := o.txn, began := c.now, parts := [o.part] } : Prod).parts.map fun k => (k, vb true)) :: holeA m.qs c.prods o.producer.toNat :: coH b (c.put o.producer.toNat { p with opn := true, last := o.txn, began := c.now, parts := [o.part] }) m ++ []) Gk (Gh.trans (prodA_shutM (p := { p with opn := true, last := o.txn, began := c.now, parts := [o.part] }) rfl) (Gh.trans (coA_put (c' := c.put o.producer.toNat { p with opn := true, last := o.txn, began := c.now, parts := [o.part] }) hm hqi rfl) (Gh.trans (Gh.nil 61 4) (Gh.perm (List.Perm.swap _ _ _)))))) ⟨_, rfl, rfl⟩
theorem does_addI (b : Nat) (c : CoS) (o : Go.Proofs.YtccgdnocldmjeaaGreatDoor.Op) (p : Prod) (hk : ¬ o.kind = 1) (hk4 : ¬ o.kind = 4) (h0 : 0 ≤ o.producer) (hpi : c.prods[o.producer.toNat]? = some p) (he : o.epoch = p.epoch) (h2 : o.kind = 2) (h3 : p.opn = true) (h4 : o.txn = p.last) :
    Trip Tryz.prog 13 [vp b 0, .agg (opC o).toArray] [coA b c] (fun r l => ∃ v, r = .tuple #[.agg (repC ⟨0, 0, 0⟩).toArray, v] ∧ l = [coA b (c.put o.producer.toNat { p with parts := addI p.parts o.part }), markA v []]) := by
  refine Trip.ghE (coA_at hpi) ?_
  rintro ⟨m, q, v⟩ ⟨hm, hqi⟩
  simp only at hm hqi
  have s1 := get_at (b := m.tb) (mb := m.mb) h0 hqi
  have e1 : pmA v p.opn p.parts = pmA v true p.parts := by rw [h3]
  simp only [e1]
  refine Trip.gh (Gh.perm (List.Perm.swap _ _ _)) (Trip.ghE pmA_open ?_)
  rintro mb rfl
  have s2 := adds_in b q mb 48 (vp m.tb 0) m.mv (.map (some m.db)) (.map (some m.ab)) (vi c.now) o p (p.parts.map fun k => (k, vb true)) h3 h4
  rw [aset_keys] at s2
  refine Trip.of_body Tryz.func13 rfl Tryz.ntmps13 Tryz.results13 rfl ?_
  refine Wsr ?_
  (refine WpL.step (Stp.boxV rfl (VC.ag _) rfl ?_); intro nb2)
  (refine WpL.step (Stp.alloc rfl ?_); intro nb3)
  refine Ls (Rdo.assign rfl) (Lnt (Wp.seq (Wsr (Ls (Rdo.fieldAddr0 rfl) (Ls (Rdo.load rfl (Lds.next (Lds.one rfl))) (Lnt (Wp.block (Wsr (Ls (Rdo.eqi rfl rfl) (Ls (Rdo.assign rfl) (Lnt (cL rfl (Wsr ?_)))))))))))))
  refine Ls (Rdo.eqi rfl rfl) (Ls (Rdo.assign rfl) (Lnt (cL rfl (Wp.skip (Blk.n (Thn.n (Wp.seq ?_)))))))
  refine Wp.draw (by kernel_rfl) ?_
  refine Qt (i := 0) rfl (Rdo.move rfl) (Qt (i := 1) rfl (Rdo.nilCheck rfl) (Qt (i := 2) rfl (Rdo.fieldAddr0 rfl) (Qt (i := 4) rfl (Rdo.fieldAddr0 rfl) ?_)))
  refine WpR.load (i := 3) [5] rfl (by kernel_rfl) (by kernel_rfl) (by kernel_rfl) (by kernel_rfl) (by kernel_rfl) rfl Tk.rfl_ (Harm.rd rfl (Rdo.load rfl (Lds.next (Lds.one rfl))) Harm.nil) (Rdo.load rfl (Lds.next (Lds.next (Lds.next (Lds.next (Lds.next (Lds.one rfl))))))) rfl ?_
  refine Qo (i := 5) rfl (Stp.rd (Rdo.load rfl (Lds.next (Lds.one rfl))) rfl ?_)
  refine Qo (i := 6) rfl (Sc (s1) rfl ?_)
  rintro _ _ ⟨rfl, rfl⟩
  refine Ql ?_
  refine Qt (i := 7) rfl (Rdo.move rfl) (Qt (i := 8) rfl (Rdo.extract rfl rfl) (Qt (i := 9) rfl (Rdo.extract rfl rfl) (Qt (i := 10) rfl (Rdo.assign rfl) (Qt (i := 11) rfl (Rdo.assign rfl) ?_))))
  refine WpR.done (by kernel_rfl) ?_
  refine Thn.n (Wp.seq (Wp.block (Wsr (Ls (Rdo.move rfl) (Ls (Rdo.not rfl) (Ls (Rdo.assign rfl) (Lnt ?_)))))))
  refine Wp.condF rfl ?_
  refine Wp.seq ?_
  refine Wp.draw (by kernel_rfl) ?_
  refine Qt (i := 0) rfl (Rdo.fieldAddr0 rfl) (Qt (i := 2) rfl (Rdo.move rfl) (Qt (i := 3) rfl (Rdo.nilCheck rfl) (Qt (i := 4) rfl (Rdo.fieldAddr0 rfl) ?_)))
  refine WpR.load (i := 1) [5] rfl (by kernel_rfl) (by kernel_rfl) (by kernel_rfl) (by kernel_rfl) (by kernel_rfl) rfl Tk.rfl_ (Harm.rd rfl (Rdo.load rfl (Lds.next (Lds.next (Lds.next (Lds.next (Lds.next (Lds.one rfl))))))) Harm.nil) (Rdo.load rfl (Lds.next (Lds.next (Lds.next (Lds.one rfl))))) rfl ?_
  refine Qo (i := 5) rfl (Stp.rd (Rdo.load rfl (Lds.next (Lds.next (Lds.next (Lds.next (Lds.next (Lds.one rfl))))))) rfl ?_)
  refine Qt (i := 6) rfl (Rdo.nei rfl rfl) (Qt (i := 7) rfl (Rdo.assign rfl) ?_)
  refine WpR.done (by kernel_rfl) ?_
  refine Thn.n (cL rfl (Wsr (Ls (Rdo.fieldAddr0 rfl) (Ls (Rdo.load rfl (Lds.next (Lds.next (Lds.next (Lds.one rfl))))) (Ls (Rdo.eqi rfl rfl) (Ls (Rdo.assign rfl) (Lnt (cK rfl (Wsr (Ls (Rdo.move rfl) ?_))))))))))
  refine Ls (Rdo.load rfl (Lds.next (Lds.next (Lds.next Ld)))) ?_
  refine Ls (Rdo.move rfl) ?_
  refine WpL.step (Sc (s2) rfl ?_)
  rintro _ _ ⟨rfl, rfl⟩
  refine Ll ?_
  refine Ls (Rdo.bld rfl (BldL.cons rfl (VC.i _ _) (by first | rfl | assumption | (simp <;> done)) (by repeat (first | exact LPut.nil _ | apply LPut.here | apply LPut.next)) (BldL.nil _))) ?_
  refine WpL.step (St rfl rfl (VC.ag _) ?_)
  refine Ls (Rdo.assign rfl) (Lnt (Wp.ret ?_))
  refine Blk.r ?_
  refine Thn.r ?_
  refine Ret.now (by repeat (first | exact ResV.nil | apply ResV.tmp rfl | apply ResV.cell rfl (by repeat (first | exact Lds.one rfl | (apply Lds.all; (first | rfl | assumption | (simp <;> fail))) | exact Lds.ione0 | exact Lds.ione rfl | (apply Lds.iall; (first | rfl | assumption | (simp <;> fail))) | apply Lds.next)))) (Gh.trans (b := cel q 84 (prodC { p with parts := addI p.parts o.part } (.map (some mb))) :: mapA i64 mb (({ p with parts := addI p.parts o.part } : Prod).parts.map fun k => (k, vb true)) :: holeA m.qs c.prods o.producer.toNat :: coH b (c.put o.producer.toNat { p with parts := addI p.parts o.part }) m ++ []) Gk (Gh.trans (prodA_shutM (p := { p with parts := addI p.parts o.part }) h3) (Gh.trans (coA_put (c' := c.put o.producer.toNat { p with parts := addI p.parts o.part }) hm hqi rfl) (Gh.trans (Gh.nil 61 4) (Gh.perm (List.Perm.swap _ _ _)))))) ⟨_, rfl, rfl⟩
theorem does_endC (b : Nat) (c : CoS) (o : Go.Proofs.YtccgdnocldmjeaaGreatDoor.Op) (p : Prod) (hk : ¬ o.kind = 1) (hk4 : ¬ o.kind = 4) (h0 : 0 ≤ o.producer) (m : CoM) (q : Nat) (v : Value) (hqi : m.qs[o.producer.toNat]? = some q) (he : o.epoch = p.epoch) (h2 : o.kind = 3) (h3 : p.opn = true) (h4 : o.txn = p.last) (hml : c.marks.length ≤ 900000) (h : HP) :
    Trip Tryz.prog 13 [vp b 0, .agg (opC o).toArray] (cel q 84 (prodC p v) :: h :: coH b c m)
      (fun r l => ∃ v1' nb, r = .tuple #[.agg (repC ⟨0, 0, 0⟩).toArray, .slice (some ⟨nb, 0, none⟩) 1 1] ∧ l = [cel q 84 (prodC { p with opn := false, parts := [] } (.map none)), h, cel b 48 [vp m.tb 0, v1', .map (some m.db), .map (some m.ab), vi c.now],
        cel m.tb 74 [.map (some m.mb)], mapA i64 m.mb (tabE 0 m.qs), rowA 61 4 v1' (c.marks ++ [(⟨kindOf o.commit, o.producer, p.epoch, p.last⟩ : Mark)]).length ((c.marks ++ [(⟨kindOf o.commit, o.producer, p.epoch, p.last⟩ : Mark)]).map markC).flatten,
        mapA markV m.db ((addD c.decided ⟨kindOf o.commit, o.producer, p.epoch, p.last⟩).map fun k => (k, vb true)), mapA askV m.ab (c.answers.map fun x => (x.1, .agg (repC x.2).toArray)), cel nb 61 (markC ⟨kindOf o.commit, o.producer, p.epoch, p.last⟩)]) := by
  have s1 := get_at (b := m.tb) (mb := m.mb) h0 hqi
  have s2 := ends_now b q m.db (vp m.tb 0) m.mv (.map (some m.ab)) (vi c.now) v c.marks c.decided o p (by omega) h3 h4
  rw [aset_keys] at s2
  simp only [coH]
  refine Trip.of_body Tryz.func13 rfl Tryz.ntmps13 Tryz.results13 rfl ?_
  refine Wsr ?_
  (refine WpL.step (Stp.boxV rfl (VC.ag _) rfl ?_); intro nb2)
  (refine WpL.step (Stp.alloc rfl ?_); intro nb3)
  refine Ls (Rdo.assign rfl) (Lnt (Wp.seq (Wsr (Ls (Rdo.fieldAddr0 rfl) (Ls (Rdo.load rfl (Lds.next (Lds.one rfl))) (Lnt (Wp.block (Wsr (Ls (Rdo.eqi rfl rfl) (Ls (Rdo.assign rfl) (Lnt (cL rfl (Wsr ?_)))))))))))))
  refine Ls (Rdo.eqi rfl rfl) (Ls (Rdo.assign rfl) (Lnt (cL rfl (Wp.skip (Blk.n (Thn.n (Wp.seq ?_)))))))
  refine Wp.draw (by kernel_rfl) ?_
  refine Qt (i := 0) rfl (Rdo.move rfl) (Qt (i := 1) rfl (Rdo.nilCheck rfl) (Qt (i := 2) rfl (Rdo.fieldAddr0 rfl) (Qt (i := 4) rfl (Rdo.fieldAddr0 rfl) ?_)))
  refine WpR.load (i := 3) [5] rfl (by kernel_rfl) (by kernel_rfl) (by kernel_rfl) (by kernel_rfl) (by kernel_rfl) rfl Tk.rfl_ (Harm.rd rfl (Rdo.load rfl (Lds.next (Lds.one rfl))) Harm.nil) (Rdo.load rfl (Lds.next (Lds.next (Lds.next (Lds.next (Lds.one rfl)))))) rfl ?_
  refine Qo (i := 5) rfl (Stp.rd (Rdo.load rfl (Lds.next (Lds.one rfl))) rfl ?_)
  refine Qo (i := 6) rfl (Sc (s1) rfl ?_)
  rintro _ _ ⟨rfl, rfl⟩
  refine Ql ?_
  refine Qt (i := 7) rfl (Rdo.move rfl) (Qt (i := 8) rfl (Rdo.extract rfl rfl) (Qt (i := 9) rfl (Rdo.extract rfl rfl) (Qt (i := 10) rfl (Rdo.assign rfl) (Qt (i := 11) rfl (Rdo.assign rfl) ?_))))
  refine WpR.done (by kernel_rfl) ?_
  refine Thn.n (Wp.seq (Wp.block (Wsr (Ls (Rdo.move rfl) (Ls (Rdo.not rfl) (Ls (Rdo.assign rfl) (Lnt ?_)))))))
  refine Wp.condF rfl ?_
  refine Wp.seq ?_
  refine Wp.draw (by kernel_rfl) ?_
  refine Qt (i := 0) rfl (Rdo.fieldAddr0 rfl) (Qt (i := 2) rfl (Rdo.move rfl) (Qt (i := 3) rfl (Rdo.nilCheck rfl) (Qt (i := 4) rfl (Rdo.fieldAddr0 rfl) ?_)))
  refine WpR.load (i := 1) [5] rfl (by kernel_rfl) (by kernel_rfl) (by kernel_rfl) (by kernel_rfl) (by kernel_rfl) rfl Tk.rfl_ (Harm.rd rfl (Rdo.load rfl (Lds.next (Lds.next (Lds.next (Lds.next (Lds.one rfl)))))) Harm.nil) (Rdo.load rfl (Lds.next (Lds.next (Lds.next (Lds.one rfl))))) rfl ?_
  refine Qo (i := 5) rfl (Stp.rd (Rdo.load rfl (Lds.next (Lds.next (Lds.next (Lds.next (Lds.one rfl)))))) rfl ?_)
  refine Qt (i := 6) rfl (Rdo.nei rfl rfl) (Qt (i := 7) rfl (Rdo.assign rfl) ?_)
  refine WpR.done (by kernel_rfl) ?_
  refine Thn.n (cL rfl (Wsr (Ls (Rdo.fieldAddr0 rfl) (Ls (Rdo.load rfl (Lds.next (Lds.next (Lds.next (Lds.one rfl))))) (Ls (Rdo.eqi rfl rfl) (Ls (Rdo.assign rfl) (Lnt (cL rfl (Wp.skip (Blk.n (Thn.n (Wsr (Ls (Rdo.move rfl) ?_)))))))))))))
  refine Ls (Rdo.load rfl (Lds.next (Lds.next (Lds.next Ld)))) ?_
  refine Ls (Rdo.move rfl) ?_
  refine WpL.step (Sc (s2) rfl ?_)
  rintro _ _ ⟨v91_0, ⟨v91_1, ⟨rfl, rfl⟩⟩⟩
  refine Ll ?_
  refine Ls (Rdo.move rfl) (Ls (Rdo.extract rfl rfl) (Ls (Rdo.extract rfl rfl) (Ls (Rdo.assign rfl) (Ls (Rdo.assign rfl) (Lnt (Wsr (Ls (Rdo.move rfl) ?_)))))))
  refine Ls (Rdo.bld rfl (BldL.cons rfl (VC.i _ _) (by first | rfl | assumption | (simp <;> done)) (by repeat (first | exact LPut.nil _ | apply LPut.here | apply LPut.next)) (BldL.nil _))) ?_
  refine Ls (Rdo.move rfl) ?_
  refine WpL.step (St rfl rfl (VC.ag _) ?_)
  refine Ls (Rdo.assign rfl) (Lnt (Wp.ret ?_))
  refine Rt (ResV.cell rfl (by repeat (first | exact Lds.one rfl | (apply Lds.all; (first | rfl | assumption | (simp <;> fail))) | exact Lds.ione0 | exact Lds.ione rfl | (apply Lds.iall; (first | rfl | assumption | (simp <;> fail))) | apply Lds.next)) (ResV.tmp rfl ResV.nil)) ⟨_, ⟨_, ⟨rfl, rfl⟩⟩⟩
theorem does_endN (b : Nat) (c : CoS) (o : Go.Proofs.YtccgdnocldmjeaaGreatDoor.Op) (p : Prod) (hk : ¬ o.kind = 1) (hk4 : ¬ o.kind = 4) (h0 : 0 ≤ o.producer) (hpi : c.prods[o.producer.toNat]? = some p) (he : o.epoch = p.epoch) (h2 : o.kind = 3) (h3 : p.opn = true) (h4 : o.txn = p.last) (hml : c.marks.length ≤ 900000) :
    Trip Tryz.prog 13 [vp b 0, .agg (opC o).toArray] [coA b c] (fun r l => ∃ v, r = .tuple #[.agg (repC ⟨0, 0, 0⟩).toArray, v] ∧ l = [coA b (c.decide o.producer.toNat p (kindOf o.commit)), markA v [⟨kindOf o.commit, o.producer.toNat, p.epoch, p.last⟩]]) := by
  refine Trip.ghE (coA_at hpi) ?_
  rintro ⟨m, q, v⟩ ⟨hm, hqi⟩
  simp only at hm hqi
  refine Trip.viaG (does_endC b c o p hk hk4 h0 m q v hqi he h2 h3 h4 hml (holeA m.qs c.prods o.producer.toNat)) (rest := [pmA v p.opn p.parts]) (by repeat (first | exact Tk.nil | apply Tk.cons (by repeat (first | exact Pk.here | apply Pk.next)))) ?_
  rintro r l ⟨v1', nb, rfl, rfl⟩ F w hl
  refine ⟨_, ⟨_, rfl, rfl⟩, ?_⟩
  have hn : (o.producer.toNat : Int) = o.producer := by omega
  have g : Gh (cel q 84 (prodC { p with opn := false, parts := [] } (.map none)) :: holeA m.qs c.prods o.producer.toNat :: (coH b (c.decide o.producer.toNat p (kindOf o.commit)) { m with mv := v1' } ++ [markA (.slice (some ⟨nb, 0, none⟩) 1 1) [⟨kindOf o.commit, o.producer.toNat, p.epoch, p.last⟩]]))
    [coA b (c.decide o.producer.toNat p (kindOf o.commit)), markA (.slice (some ⟨nb, 0, none⟩) 1 1) [⟨kindOf o.commit, o.producer.toNat, p.epoch, p.last⟩]] :=
    Gh.trans (prodA_shut0 (p := { p with opn := false, parts := [] }) rfl) (coA_put (m := { m with mv := v1' }) hm hqi rfl)
  refine g.use ?_
  simp only [CoS.decide, hn]
  have hrow := (Gh.row (b := nb) (t := 61) (n := 1) (sz := 4) (cs := markC ⟨kindOf o.commit, o.producer, p.epoch, p.last⟩) (Pk.next (Pk.next (Pk.next (Pk.next (Pk.next (Pk.next (Pk.next (Pk.next Pk.here)))))))) rfl).use hl
  exact (Gk : Gh _ _).use hrow
theorem does_endE (b : Nat) (c : CoS) (o : Go.Proofs.YtccgdnocldmjeaaGreatDoor.Op) (p : Prod) (hk : ¬ o.kind = 1) (hk4 : ¬ o.kind = 4) (h0 : 0 ≤ o.producer) (hpi : c.prods[o.producer.toNat]? = some p) (he : o.epoch = p.epoch) (h2 : o.kind = 3) (h3 : ¬ (p.opn = true ∧ o.txn = p.last)) :
    Trip Tryz.prog 13 [vp b 0, .agg (opC o).toArray] [coA b c] (fun r l => ∃ v, r = .tuple #[.agg (repC ⟨if (⟨kindOf o.commit, o.producer, o.epoch, o.txn⟩ : Mark) ∈ c.decided then 0 else 6, 0, 0⟩).toArray, v] ∧ l = [coA b c, markA v []]) := by
  refine Trip.ghE (coA_at hpi) ?_
  rintro ⟨m, q, v⟩ ⟨hm, hqi⟩
  simp only at hm hqi
  have s1 := get_at (b := m.tb) (mb := m.mb) h0 hqi
  have s2 := ends_else b q m.db (vp m.tb 0) m.mv (.map (some m.ab)) (vi c.now) v c.decided o p h3
  refine Trip.of_body Tryz.func13 rfl Tryz.ntmps13 Tryz.results13 rfl ?_
  refine Wsr ?_
  (refine WpL.step (Stp.boxV rfl (VC.ag _) rfl ?_); intro nb2)
  (refine WpL.step (Stp.alloc rfl ?_); intro nb3)
  refine Ls (Rdo.assign rfl) (Lnt (Wp.seq (Wsr (Ls (Rdo.fieldAddr0 rfl) (Ls (Rdo.load rfl (Lds.next (Lds.one rfl))) (Lnt (Wp.block (Wsr (Ls (Rdo.eqi rfl rfl) (Ls (Rdo.assign rfl) (Lnt (cL rfl (Wsr ?_)))))))))))))
  refine Ls (Rdo.eqi rfl rfl) (Ls (Rdo.assign rfl) (Lnt (cL rfl (Wp.skip (Blk.n (Thn.n (Wp.seq ?_)))))))
  refine Wp.draw (by kernel_rfl) ?_
  refine Qt (i := 0) rfl (Rdo.move rfl) (Qt (i := 1) rfl (Rdo.nilCheck rfl) (Qt (i := 2) rfl (Rdo.fieldAddr0 rfl) (Qt (i := 4) rfl (Rdo.fieldAddr0 rfl) ?_)))
  refine WpR.load (i := 3) [5] rfl (by kernel_rfl) (by kernel_rfl) (by kernel_rfl) (by kernel_rfl) (by kernel_rfl) rfl Tk.rfl_ (Harm.rd rfl (Rdo.load rfl (Lds.next (Lds.one rfl))) Harm.nil) (Rdo.load rfl (Lds.next (Lds.next (Lds.next (Lds.next (Lds.next (Lds.one rfl))))))) rfl ?_
  refine Qo (i := 5) rfl (Stp.rd (Rdo.load rfl (Lds.next (Lds.one rfl))) rfl ?_)
  refine Qo (i := 6) rfl (Sc (s1) rfl ?_)
  rintro _ _ ⟨rfl, rfl⟩
  refine Ql ?_
  refine Qt (i := 7) rfl (Rdo.move rfl) (Qt (i := 8) rfl (Rdo.extract rfl rfl) (Qt (i := 9) rfl (Rdo.extract rfl rfl) (Qt (i := 10) rfl (Rdo.assign rfl) (Qt (i := 11) rfl (Rdo.assign rfl) ?_))))
  refine WpR.done (by kernel_rfl) ?_
  refine Thn.n (Wp.seq (Wp.block (Wsr (Ls (Rdo.move rfl) (Ls (Rdo.not rfl) (Ls (Rdo.assign rfl) (Lnt ?_)))))))
  refine Wp.condF rfl ?_
  refine Wp.seq ?_
  refine Wp.draw (by kernel_rfl) ?_
  refine Qt (i := 0) rfl (Rdo.fieldAddr0 rfl) (Qt (i := 2) rfl (Rdo.move rfl) (Qt (i := 3) rfl (Rdo.nilCheck rfl) (Qt (i := 4) rfl (Rdo.fieldAddr0 rfl) ?_)))
  refine WpR.load (i := 1) [5] rfl (by kernel_rfl) (by kernel_rfl) (by kernel_rfl) (by kernel_rfl) (by kernel_rfl) rfl Tk.rfl_ (Harm.rd rfl (Rdo.load rfl (Lds.next (Lds.next (Lds.next (Lds.next (Lds.one rfl)))))) Harm.nil) (Rdo.load rfl (Lds.next (Lds.next (Lds.next (Lds.one rfl))))) rfl ?_
  refine Qo (i := 5) rfl (Stp.rd (Rdo.load rfl (Lds.next (Lds.next (Lds.next (Lds.next (Lds.one rfl)))))) rfl ?_)
  refine Qt (i := 6) rfl (Rdo.nei rfl rfl) (Qt (i := 7) rfl (Rdo.assign rfl) ?_)
  refine WpR.done (by kernel_rfl) ?_
  refine Thn.n (cL rfl (Wsr (Ls (Rdo.fieldAddr0 rfl) (Ls (Rdo.load rfl (Lds.next (Lds.next (Lds.next (Lds.one rfl))))) (Ls (Rdo.eqi rfl rfl) (Ls (Rdo.assign rfl) (Lnt (cL rfl (Wp.skip (Blk.n (Thn.n (Wsr (Ls (Rdo.move rfl) ?_)))))))))))))
  refine Ls (Rdo.load rfl (Lds.next (Lds.next (Lds.next Ld)))) ?_
  refine Ls (Rdo.move rfl) ?_
  refine WpL.step (Sc (s2) rfl ?_)
  rintro _ _ ⟨rfl, rfl⟩
  refine Ll ?_
  refine Ls (Rdo.move rfl) (Ls (Rdo.extract rfl rfl) (Ls (Rdo.extract rfl rfl) (Ls (Rdo.assign rfl) (Ls (Rdo.assign rfl) (Lnt (Wsr (Ls (Rdo.move rfl) ?_)))))))
  refine Ls (Rdo.bld rfl (BldL.cons rfl (VC.i _ _) (by first | rfl | assumption | (simp <;> done)) (by repeat (first | exact LPut.nil _ | apply LPut.here | apply LPut.next)) (BldL.nil _))) ?_
  refine Ls (Rdo.move rfl) ?_
  refine WpL.step (St rfl rfl (VC.ag _) ?_)
  refine Ls (Rdo.assign rfl) (Lnt (Wp.ret ?_))
  refine Ret.now (by repeat (first | exact ResV.nil | apply ResV.tmp rfl | apply ResV.cell rfl (by repeat (first | exact Lds.one rfl | (apply Lds.all; (first | rfl | assumption | (simp <;> fail))) | exact Lds.ione0 | exact Lds.ione rfl | (apply Lds.iall; (first | rfl | assumption | (simp <;> fail))) | apply Lds.next)))) (Gh.trans (b := cel q 84 (prodC p v) :: pmA v p.opn p.parts :: holeA m.qs c.prods o.producer.toNat :: coH b c m ++ []) Gk (Gh.trans prodA_shut (Gh.trans (coA_put (c' := c) hm hqi (set_same hpi).symm) (Gh.trans (Gh.nil 61 4) (Gh.perm (List.Perm.swap _ _ _)))))) ⟨_, rfl, rfl⟩
end Go.Proofs.YtccgdnocldmjeaaGreatDoor
namespace Go.Proofs.YtccgdnocldmjeaaGreatDoor
open Go
set_option maxHeartbeats 4000000
set_option linter.unusedSimpArgs false
set_option linter.unusedVariables false
set_option maxRecDepth 20000
/-- What holds behind k operations. -/
structure CoS.Ok (k : Nat) (c : CoS) : Prop where
  n8 : c.prods.length ≤ 8
  ml : c.marks.length ≤ 9 * k
  al : c.answers.length ≤ k
  now : 0 ≤ c.now ∧ c.now ≤ k
  pr : ∀ p ∈ c.prods, (0 ≤ p.epoch ∧ p.epoch ≤ 100) ∧ (0 ≤ p.last ∧ p.last ≤ 100) ∧ (0 ≤ p.began ∧ p.began ≤ k)
theorem CoS.Ok.new : CoS.new.Ok 0 := ⟨by simp [CoS.new], by simp [CoS.new], by simp [CoS.new], by simp [CoS.new], by simp [CoS.new]⟩
theorem CoS.Ok.mono {k k' : Nat} {c : CoS} (h : c.Ok k) (hk : k ≤ k') : c.Ok k' :=
  ⟨h.n8, by have := h.ml; omega, by have := h.al; omega, by have := h.now; omega, fun p hp => by have := h.pr p hp; omega⟩
theorem mem_set_cases {α : Type} {l : List α} {i : Nat} {a x : α} (h : x ∈ l.set i a) : x ∈ l ∨ x = a := by
  obtain ⟨j, hj, hx⟩ := List.mem_iff_getElem.1 h
  rw [List.getElem_set] at hx
  split at hx
  · exact .inr hx.symm
  · exact .inl (hx ▸ List.getElem_mem _)
theorem getD_mem {ps : List Prod} {i : Nat} (h : i < ps.length) : ps.getD i prod0 ∈ ps := by
  rw [List.getD_eq_getElem?_getD, List.getElem?_eq_getElem h]
  exact List.getElem_mem _
theorem getD_get {ps : List Prod} {i : Nat} (h : i < ps.length) : ps[i]? = some (ps.getD i prod0) := by
  rw [List.getD_eq_getElem?_getD, List.getElem?_eq_getElem h]
  rfl
theorem again_Ok {k : Nat} {c : CoS} (h : c.Ok k) (i : Nat) (p : Prod) (hp : p ∈ c.prods) : (c.again i p).2.2.Ok (k + 1) := by
  have hpp := h.pr p hp
  have hml := h.ml
  have hal := h.al
  have hn := h.now
  unfold CoS.again
  split
  · exact h.mono (by omega)
  · split
    · refine ⟨by simpa [CoS.lay, CoS.put, CoS.decide] using h.n8, by simp [CoS.lay, CoS.put, CoS.decide]; omega, by simp [CoS.lay, CoS.put, CoS.decide]; omega, by simp [CoS.lay, CoS.put, CoS.decide]; omega, ?_⟩
      intro x hx
      simp only [CoS.lay, CoS.put, CoS.decide, List.set_set] at hx
      rcases mem_set_cases hx with hx | rfl
      · have := h.pr x hx; omega
      · simp only; omega
    · refine ⟨by simpa [CoS.lay, CoS.put, CoS.decide] using h.n8, by simp [CoS.lay, CoS.put, CoS.decide]; omega, by simp [CoS.lay, CoS.put, CoS.decide]; omega, by simp [CoS.lay, CoS.put, CoS.decide]; omega, ?_⟩
      intro x hx
      simp only [CoS.lay, CoS.put] at hx
      rcases mem_set_cases hx with hx | rfl
      · have := h.pr x hx; omega
      · simp only; omega
theorem begins_Ok {k : Nat} {c : CoS} (h : c.Ok k) (s : List UInt8) : (c.begins s).2.2.Ok (k + 1) := by
  have hml := h.ml
  have hal := h.al
  have hn := h.now
  have h8 := h.n8
  unfold CoS.begins
  split
  · split
    · exact h.mono (by omega)
    · refine ⟨by simp; omega, by simp; omega, by simp; omega, by simp; omega, ?_⟩
      intro x hx
      simp only [List.mem_append, List.mem_singleton] at hx
      rcases hx with hx | rfl
      · have := h.pr x hx; omega
      · simp only; omega
  · rename_i i hi
    obtain ⟨p, hpi, _⟩ := nameAt_get hi
    have hlt := (List.getElem?_eq_some_iff.1 hpi).1
    exact again_Ok h i _ (getD_mem hlt)
theorem adds_Ok {k : Nat} {c : CoS} (h : c.Ok k) (o : Go.Proofs.YtccgdnocldmjeaaGreatDoor.Op) (ho : okOp o) (i : Nat) (p : Prod) (hp : p ∈ c.prods) : (c.adds o i p).2.Ok (k + 1) := by
  have hpp := h.pr p hp
  have hml := h.ml
  have hal := h.al
  have hn := h.now
  have ht := ho.txn
  unfold CoS.adds
  split
  · split
    · refine ⟨by simpa [CoS.put] using h.n8, by simp [CoS.put]; omega, by simp [CoS.put]; omega, by simp [CoS.put]; omega, ?_⟩
      intro x hx
      simp only [CoS.put] at hx
      rcases mem_set_cases hx with hx | rfl
      · have := h.pr x hx; omega
      · simp only; omega
    · exact h.mono (by omega)
  · split
    · exact h.mono (by omega)
    · split
      · refine ⟨by simpa [CoS.put] using h.n8, by simp [CoS.put]; omega, by simp [CoS.put]; omega, by simp [CoS.put]; omega, ?_⟩
        intro x hx
        simp only [CoS.put] at hx
        rcases mem_set_cases hx with hx | rfl
        · have := h.pr x hx; omega
        · simp only; omega
      · exact h.mono (by omega)
theorem decide_Ok {k n : Nat} {c : CoS} (h8 : c.prods.length ≤ 8) (hm : c.marks.length ≤ n) (hp : ∀ p ∈ c.prods, (0 ≤ p.epoch ∧ p.epoch ≤ 100) ∧ (0 ≤ p.last ∧ p.last ≤ 100) ∧ (0 ≤ p.began ∧ p.began ≤ k)) (i : Nat) (p : Prod) (kind : Int) (hpp : p ∈ c.prods) :
    (c.decide i p kind).prods.length ≤ 8 ∧ (c.decide i p kind).marks.length ≤ n + 1 ∧ ∀ p' ∈ (c.decide i p kind).prods, (0 ≤ p'.epoch ∧ p'.epoch ≤ 100) ∧ (0 ≤ p'.last ∧ p'.last ≤ 100) ∧ (0 ≤ p'.began ∧ p'.began ≤ k) := by
  refine ⟨by simpa [CoS.decide] using h8, by simp [CoS.decide]; omega, ?_⟩
  intro x hx
  simp only [CoS.decide] at hx
  rcases mem_set_cases hx with hx | rfl
  · exact hp x hx
  · exact hp p hpp
theorem ends_Ok {k : Nat} {c : CoS} (h : c.Ok k) (o : Go.Proofs.YtccgdnocldmjeaaGreatDoor.Op) (i : Nat) (p : Prod) (hp : p ∈ c.prods) : (c.ends o i p).2.2.Ok (k + 1) := by
  unfold CoS.ends
  split
  · obtain ⟨h1, h2, h3⟩ := decide_Ok h.n8 h.ml h.pr i p (kindOf o.commit) hp
    have hal := h.al
    have hn := h.now
    exact ⟨h1, by simp only; omega, by simp [CoS.decide]; omega, by simp [CoS.decide]; omega, fun x hx => by have := h3 x hx; omega⟩
  · split
    · exact h.mono (by omega)
    · exact h.mono (by omega)
theorem tickN_prods {k : Nat} {c : CoS} (h : c.Ok k) (n : Nat) (hn : n ≤ c.prods.length) : ∀ p ∈ (c.tickN n).1.prods, (0 ≤ p.epoch ∧ p.epoch ≤ 100) ∧ (0 ≤ p.last ∧ p.last ≤ 100) ∧ (0 ≤ p.began ∧ p.began ≤ k) := by
  induction n with
  | zero => exact h.pr
  | succ n ih =>
    obtain ⟨h1, _⟩ := c.tickN_spec n
    rw [CoS.tickN_succ]
    unfold CoS.tick1
    split
    · intro x hx
      simp only [CoS.decide] at hx
      rcases mem_set_cases hx with hx | rfl
      · exact ih (by omega) x hx
      · exact ih (by omega) ((c.tickN n).1.prods.getD n prod0) (getD_mem (ps := (c.tickN n).1.prods) (i := n) (by omega))
    · exact ih (by omega)
theorem ticks_Ok {k : Nat} {c : CoS} (h : c.Ok k) : c.ticks.2.Ok (k + 1) := by
  obtain ⟨h1, h2, h3, h4, h5⟩ := c.tickN_spec c.prods.length
  have h6 := tickN_prods h c.prods.length (Nat.le_refl _)
  have h7 := h.n8
  have h8 := h.ml
  have h9 := h.al
  have h10 := h.now
  unfold CoS.ticks
  refine ⟨by simp only; omega, by simp only [h4, List.length_append]; omega, by simp only [h3]; omega, by simp only [h2]; omega, fun x hx => by have := h6 x hx; omega⟩
theorem does_Ok {k : Nat} {c : CoS} (h : c.Ok k) (o : Go.Proofs.YtccgdnocldmjeaaGreatDoor.Op) (ho : okOp o) : (c.does o).2.2.Ok (k + 1) := by
  unfold CoS.does
  split
  · exact begins_Ok h _
  · split
    · exact ticks_Ok h
    · split
      · rename_i h3
        have hp : c.prods.getD o.producer.toNat prod0 ∈ c.prods := getD_mem (by omega)
        simp only
        split
        · split
          · exact adds_Ok h o ho _ _ hp
          · exact ends_Ok h o _ _ hp
        · exact h.mono (by omega)
      · exact h.mono (by omega)
theorem does_answers (c : CoS) (o : Go.Proofs.YtccgdnocldmjeaaGreatDoor.Op) : (c.does o).2.2.answers = c.answers := by
  unfold CoS.does
  split
  · unfold CoS.begins
    split
    · split <;> rfl
    · unfold CoS.again
      split
      · rfl
      · split <;> rfl
  · split
    · exact (c.tickN_spec _).2.2.1
    · split
      · simp only
        split
        · split
          · unfold CoS.adds
            split
            · split <;> rfl
            · split
              · rfl
              · split <;> rfl
          · unfold CoS.ends
            split
            · rfl
            · split <;> rfl
        · rfl
      · rfl
theorem apply_Ok {k : Nat} {c : CoS} (h : c.Ok k) (o : Go.Proofs.YtccgdnocldmjeaaGreatDoor.Op) : (c.apply o).2.2.Ok (k + 1) := by
  unfold CoS.apply
  split
  · rename_i ho
    split
    · exact h.mono (by omega)
    · have h1 := does_Ok h o ho
      have h2 := does_answers c o
      have h3 := h.al
      exact ⟨h1.n8, h1.ml, by simp only [h2, List.length_append, List.length_singleton]; omega, h1.now, h1.pr⟩
  · exact h.mono (by omega)
theorem does_ok (b : Nat) (c : CoS) (o : Go.Proofs.YtccgdnocldmjeaaGreatDoor.Op) (k : Nat) (hk : k ≤ 1000) (h : c.Ok k) (ho : okOp o) :
    Trip Tryz.prog 13 [vp b 0, .agg (opC o).toArray] [coA b c] (fun r l => ∃ v, r = .tuple #[.agg (repC (c.does o).1).toArray, v] ∧ l = [coA b (c.does o).2.2, markA v (c.does o).2.1]) := by
  have h8 := h.n8
  have hml := h.ml
  have hn := h.now
  have ht := ho.txn
  unfold CoS.does
  by_cases h1 : o.kind = 1
  · simp only [if_pos h1]
    exact does_init b c o h8 (by omega) (fun p hp => (h.pr p hp).1.1) h1
  · simp only [if_neg h1]
    by_cases h4 : o.kind = 4
    · simp only [if_pos h4]
      exact does_tick b c o h8 (by omega) (by omega) (fun p hp => by have := h.pr p hp; omega) h4
    · simp only [if_neg h4]
      by_cases hp : 0 ≤ o.producer ∧ o.producer < c.prods.length
      · simp only [if_pos hp]
        have hpi := getD_get (ps := c.prods) (i := o.producer.toNat) (by omega)
        by_cases he : o.epoch = (c.prods.getD o.producer.toNat prod0).epoch
        · simp only [if_pos he]
          by_cases h2 : o.kind = 2
          · simp only [if_pos h2]
            unfold CoS.adds
            cases hopn : (c.prods.getD o.producer.toNat prod0).opn with
            | true =>
              by_cases h5 : o.txn = (c.prods.getD o.producer.toNat prod0).last
              · simp only [if_pos h5, if_true]
                have h7 := does_addI b c o _ h1 h4 hp.1 hpi he h2 hopn h5
                rw [hopn] at h7
                exact h7
              · simp only [if_neg h5, if_true]
                exact does_add6 b c o _ h1 h4 hp.1 hpi he h2 hopn h5
            | false =>
              by_cases h5 : 100 ≤ (c.prods.getD o.producer.toNat prod0).last
              · simp only [if_pos h5, Bool.false_eq_true, if_false]
                exact does_add7 b c o _ h1 h4 hp.1 hpi he h2 hopn h5
              · by_cases h6 : o.txn - 1 = (c.prods.getD o.producer.toNat prod0).last
                · simp only [if_neg h5, if_pos h6, Bool.false_eq_true, if_false]
                  exact does_addN b c o _ h1 h4 hp.1 hpi he h2 hopn h5 h6 (by omega)
                · simp only [if_neg h5, if_neg h6, Bool.false_eq_true, if_false]
                  exact does_addB b c o _ h1 h4 hp.1 hpi he h2 hopn h5 h6 (by omega)
          · simp only [if_neg h2]
            have h3 : o.kind = 3 := by have := ho.kind; omega
            unfold CoS.ends
            by_cases h5 : (c.prods.getD o.producer.toNat prod0).opn = true ∧ o.txn = (c.prods.getD o.producer.toNat prod0).last
            · simp only [if_pos h5]
              exact does_endN b c o _ h1 h4 hp.1 hpi he h3 h5.1 h5.2 (by omega)
            · simp only [if_neg h5]
              have h7 := does_endE b c o _ h1 h4 hp.1 hpi he h3 h5
              by_cases h6 : (⟨kindOf o.commit, o.producer, o.epoch, o.txn⟩ : Mark) ∈ c.decided
              · simp only [if_pos h6] at h7 ⊢
                exact h7
              · simp only [if_neg h6] at h7 ⊢
                exact h7
        · simp only [if_neg he]
          exact does_fenced b c o _ h1 h4 hp.1 hpi he
      · simp only [if_neg hp]
        exact does_none b c o h1 h4 hp
end Go.Proofs.YtccgdnocldmjeaaGreatDoor
namespace Go.Proofs.YtccgdnocldmjeaaGreatDoor
open Go
set_option maxHeartbeats 4000000
set_option linter.unusedSimpArgs false
set_option linter.unusedVariables false
set_option maxRecDepth 20000
open Tabprod Keysbool
abbrev RdMarks (g : FH) (v : Value) (ms : List Mark) : Prop := RdRow g 4 v ms.length (ms.map markC).flatten
theorem marksC_length (ms : List Mark) : ((ms.map markC).flatten).length = ms.length * 4 := by
  induction ms with
  | nil => rfl
  | cons m ms ih => simp [ih]; omega
theorem marksC_one (ms : List Mark) : oneCells (ms.map markC).flatten := by
  intro v hv
  obtain ⟨l, hl, hv⟩ := List.mem_flatten.1 hv
  obtain ⟨m, _, rfl⟩ := List.mem_map.1 hl
  simp only [markC, List.mem_cons, List.not_mem_nil, or_false] at hv
  rcases hv with rfl | rfl | rfl | rfl <;> rfl
theorem shape_marks {v : Value} {ms : List Mark} (r : Res) (h : fz (fun g => RdMarks g v ms) r) : ∃ a c, v = .slice a ms.length c := by
  unfold fz at h
  obtain ⟨_, a, c, h2, _⟩ := h
  exact ⟨a, c, h2⟩
theorem nil_marks {n c : Nat} {ms : List Mark} (r : Res) (h : fz (fun g => RdMarks g (.slice none n c) ms) r) : ms = [] := by
  unfold fz at h
  obtain ⟨_, a, c', h2, h3⟩ := h
  simp only [Value.slice.injEq] at h2
  obtain ⟨rfl, rfl, rfl⟩ := h2
  rcases h3 with h3 | ⟨b, o, h3, _⟩
  · exact List.eq_nil_of_length_eq_zero h3
  · cases h3
theorem marksClone0 (v : Value) (ms : List Mark) (hb : ms.length ≤ 1000000) :
    Trip Tryz.prog 40 [v] [fz (fun g => RdMarks g v ms)] (fun r l => ∃ a c, r = .slice a ms.length c ∧ l = [markA (.slice a ms.length c) ms]) := by
  refine Trip.get Pk.here shape_marks ?_
  rintro ⟨a, c, rfl⟩
  have hlen := marksC_length ms
  have hone := marksC_one ms
  cases a with
  | none =>
    refine Trip.get Pk.here nil_marks ?_
    rintro rfl
    refine Trip.of_body Tryz.func40 rfl Tryz.ntmps40 Tryz.results40 rfl ?_
    refine Wsr (Ls (Rdo.assign rfl) (Lnt (Wp.seq (Wsr (Ls (Rdo.move rfl) (Ls (Rdo.eqslnil rfl rfl) (Lnt ?_)))))))
    refine Wp.condT rfl ?_
    refine Wsr (Ls (Rdo.assign rfl) (Lnt (Wp.ret ?_)))
    refine Thn.r ?_
    exact Ret.now (ResV.tmp rfl ResV.nil) (Gh.trans (Gh.nil 61 4) Gk) ⟨none, 0, rfl, rfl⟩
  | some a =>
    refine Trip.of_body Tryz.func40 rfl Tryz.ntmps40 Tryz.results40 rfl ?_
    refine Wsr (Ls (Rdo.assign rfl) (Lnt (Wp.seq (Wsr (Ls (Rdo.move rfl) (Ls (Rdo.eqslnil rfl rfl) (Lnt ?_)))))))
    refine Wp.condF rfl ?_
    refine Wp.skip (Thn.n (Wsr ?_))
    (refine WpL.step (Stp.slice0 rfl ?_); intro nb17)
    refine Ls (Rdo.move rfl) ?_
    refine WpL.step (Stp.append0P rfl rfl Pk.here Src.frozen hlen hone (by omega) (by omega) rfl (by rfl) ?_)
    intro na nc
    refine Ls (Rdo.assign rfl) (Lnt (Wp.ret ?_))
    refine Rt (ResV.tmp rfl ResV.nil) ⟨_, ⟨_, ⟨rfl, rfl⟩⟩⟩
theorem RdRow.sub_ {a r : Res} {sz n : Nat} {v : Value} {xs : List Value} (hle : ∀ b x, a b = some x → r b = some x) (h : RdRow (fun b => (a b).map (·.2)) sz v n xs) : RdRow (fun b => (r b).map (·.2)) sz v n xs :=
  RdRow.mono _ _ _ _ _ _ (fun b o hb => by
    cases hx : a b with
    | none => rw [hx] at hb; cases hb
    | some y => rw [hx] at hb; rw [hle b y hx]; exact hb) h
theorem marksClone_ok (v : Value) (ms : List Mark) (hb : ms.length ≤ 1000000) :
    Trip Tryz.prog 40 [v] [markA v ms] (fun r l => ∃ a c, r = .slice a ms.length c ∧ l = [markA v ms, markA (.slice a ms.length c) ms]) := by
  have h := Trip.lend (own := [markA v ms]) (pre := []) (marksClone0 v ms hb) (fun r hr => by
    obtain ⟨r1, r2, hj, h1, h2⟩ := hr
    exact RdRow.sub_ (fun b y hb => hj.left hb) (row_iced h1)) (by rintro v l ⟨a, c, rfl, rfl⟩; exact OwnL.cons Own1.row OwnL.nil)
  refine Trip.mono h ?_
  rintro r l ⟨l', ⟨a, c, rfl, rfl⟩, rfl⟩
  exact ⟨a, c, rfl, rfl⟩
theorem marks_ok (b : Nat) (c : CoS) (hl : c.marks.length ≤ 1000000) : Trip Tryz.prog 17 [vp b 0] [coA b c] (fun r l => ∃ a cp, r = .slice a c.marks.length cp ∧ l = [coA b c, markA (.slice a c.marks.length cp) c.marks]) := by
  refine Trip.ghE coA_open ?_
  rintro m hm
  have s1 := marksClone_ok m.mv c.marks hl
  simp only [coX, List.cons_append, List.nil_append]
  refine Trip.of_body Tryz.func17 rfl Tryz.ntmps17 Tryz.results17 rfl ?_
  refine Wsr (Ls (Rdo.assign rfl) (Lnt (Wp.seq (Wsr (Ls (Rdo.move rfl) (Ls (Rdo.eqnil rfl rfl) (Lnt ?_)))))))
  refine Wp.condF rfl ?_
  refine Wp.skip (Thn.n (Wsr (Ls (Rdo.move rfl) (Ls (Rdo.nilCheck rfl) (Ls (Rdo.fieldAddr0 rfl) (Ls (Rdo.load rfl (Lds.one rfl)) ?_))))))
  refine WpL.step (Sc (s1) rfl ?_)
  rintro _ _ ⟨v22_0, ⟨v22_1, ⟨rfl, rfl⟩⟩⟩
  refine Ll ?_
  refine Ls (Rdo.assign rfl) (Lnt (Wp.ret ?_))
  refine Ret.now (by repeat (first | exact ResV.nil | apply ResV.tmp rfl | apply ResV.cell rfl (by repeat (first | exact Lds.one rfl | (apply Lds.all; (first | rfl | assumption | (simp <;> fail))) | exact Lds.ione0 | exact Lds.ione rfl | (apply Lds.iall; (first | rfl | assumption | (simp <;> fail))) | apply Lds.next)))) (Gh.trans Gk (fin1 (c := c) (ms := c.marks) m hm)) ⟨_, _, rfl, rfl⟩
/-- A producer that there is. -/
theorem producer_at {b : Nat} {c : CoS} {m : CoM} {n : Int} {q : Nat} (h0 : 0 ≤ n) (hqi : m.qs[n.toNat]? = some q) (v1 v2 v3 v4 : Value) :
    Trip Tryz.prog 45 [vp b 0, vi n] [cel b 48 [vp m.tb 0, v1, v2, v3, v4], cel m.tb 74 [.map (some m.mb)], mapA i64 m.mb (tabE 0 m.qs)]
      (fun r l => r = vp q 0 ∧ l = [cel b 48 [vp m.tb 0, v1, v2, v3, v4], cel m.tb 74 [.map (some m.mb)], mapA i64 m.mb (tabE 0 m.qs)]) := by
  have s1 := get_at (b := m.tb) (mb := m.mb) h0 hqi
  refine Trip.of_body Tryz.func45 rfl Tryz.ntmps45 Tryz.results45 rfl ?_
  refine Wsr (Ls (Rdo.assign rfl) (Lnt (Wp.seq (Wsr (Ls (Rdo.move rfl) (Ls (Rdo.eqnil rfl rfl) (Lnt ?_)))))))
  refine Wp.condF rfl ?_
  refine Wp.skip (Thn.n (Wsr (Ls (Rdo.move rfl) (Ls (Rdo.nilCheck rfl) (Ls (Rdo.fieldAddr0 rfl) (Ls (Rdo.load rfl (Lds.one rfl)) (Ls (Rdo.move rfl) ?_)))))))
  refine WpL.step (Sc (s1) rfl ?_)
  rintro _ _ ⟨rfl, rfl⟩
  refine Ll ?_
  refine Ls (Rdo.move rfl) (Ls (Rdo.extract rfl rfl) (Ls (Rdo.extract rfl rfl) (Ls (Rdo.assign rfl) (Ls (Rdo.assign rfl) (Lnt (Wsr (Ls (Rdo.move rfl) (Ls (Rdo.assign rfl) (Lnt (Wp.ret ?_))))))))))
  refine Rt (ResV.tmp rfl ResV.nil) ⟨rfl, rfl⟩
theorem producer_none {b : Nat} {c : CoS} {m : CoM} {n : Int} (h0 : ¬ (0 ≤ n ∧ n < m.qs.length)) (v1 v2 v3 v4 : Value) :
    Trip Tryz.prog 45 [vp b 0, vi n] [cel b 48 [vp m.tb 0, v1, v2, v3, v4], cel m.tb 74 [.map (some m.mb)], mapA i64 m.mb (tabE 0 m.qs)]
      (fun r l => r = .pointer none ∧ l = [cel b 48 [vp m.tb 0, v1, v2, v3, v4], cel m.tb 74 [.map (some m.mb)], mapA i64 m.mb (tabE 0 m.qs)]) := by
  have s1 := get_none (b := m.tb) (mb := m.mb) (qs := m.qs) h0
  refine Trip.of_body Tryz.func45 rfl Tryz.ntmps45 Tryz.results45 rfl ?_
  refine Wsr (Ls (Rdo.assign rfl) (Lnt (Wp.seq (Wsr (Ls (Rdo.move rfl) (Ls (Rdo.eqnil rfl rfl) (Lnt ?_)))))))
  refine Wp.condF rfl ?_
  refine Wp.skip (Thn.n (Wsr (Ls (Rdo.move rfl) (Ls (Rdo.nilCheck rfl) (Ls (Rdo.fieldAddr0 rfl) (Ls (Rdo.load rfl (Lds.one rfl)) (Ls (Rdo.move rfl) ?_)))))))
  refine WpL.step (Sc (s1) rfl ?_)
  rintro _ _ ⟨rfl, rfl⟩
  refine Ll ?_
  refine Ls (Rdo.move rfl) (Ls (Rdo.extract rfl rfl) (Ls (Rdo.extract rfl rfl) (Ls (Rdo.assign rfl) (Ls (Rdo.assign rfl) (Lnt (Wsr (Ls (Rdo.move rfl) (Ls (Rdo.assign rfl) (Lnt (Wp.ret ?_))))))))))
  refine Rt (ResV.tmp rfl ResV.nil) ⟨rfl, rfl⟩
/-- A producer's epoch. -/
def CoS.epoch (c : CoS) (n : Int) : Int × Bool := if 0 ≤ n ∧ n < c.prods.length then ((c.prods.getD n.toNat prod0).epoch, true) else (0, false)
theorem epoch_ok (b : Nat) (c : CoS) (n : Int) : Trip Tryz.prog 21 [vp b 0, vi n] [coA b c] (fun r l => r = .tuple #[vi (c.epoch n).1, vb (c.epoch n).2] ∧ l = [coA b c]) := by
  unfold CoS.epoch
  by_cases h : 0 ≤ n ∧ n < c.prods.length
  · simp only [if_pos h]
    have hpi := getD_get (ps := c.prods) (i := n.toNat) (by omega)
    generalize c.prods.getD n.toNat prod0 = p at *
    refine Trip.ghE (coA_at hpi) ?_
    rintro ⟨m, q, v⟩ ⟨hm, hqi⟩
    simp only at hm hqi
    have s1 := producer_at (b := b) (c := c) h.1 hqi m.mv (.map (some m.db)) (.map (some m.ab)) (vi c.now)
    simp only [coH]
    refine Trip.of_body Tryz.func21 rfl Tryz.ntmps21 Tryz.results21 rfl ?_
    refine Wsr (Ls (Rdo.assign rfl) (Ls (Rdo.assign rfl) (Lnt (Wsr (Ls (Rdo.move rfl) (Ls (Rdo.move rfl) ?_))))))
    refine WpL.step (Sc (s1) rfl ?_)
    rintro _ _ ⟨rfl, rfl⟩
    refine Ll ?_
    refine Ls (Rdo.assign rfl) (Lnt (Wp.seq (Wsr (Ls (Rdo.move rfl) (Ls (Rdo.eqnil rfl rfl) (Lnt ?_))))))
    refine Wp.condF rfl ?_
    refine Wp.skip (Thn.n (Wsr (Ls (Rdo.move rfl) (Ls (Rdo.nilCheck rfl) (Ls (Rdo.fieldAddr0 rfl) (Ls (Rdo.load rfl (Lds.next (Lds.next (Lds.next (Lds.one rfl))))) (Ls (Rdo.assign rfl) (Ls (Rdo.assign rfl) (Lnt (Wp.ret ?_))))))))))
    refine Ret.now (by repeat (first | exact ResV.nil | apply ResV.tmp rfl | apply ResV.cell rfl (by repeat (first | exact Lds.one rfl | (apply Lds.all; (first | rfl | assumption | (simp <;> fail))) | exact Lds.ione0 | exact Lds.ione rfl | (apply Lds.iall; (first | rfl | assumption | (simp <;> fail))) | apply Lds.next)))) (Gh.trans (b := cel q 84 (prodC p v) :: pmA v p.opn p.parts :: holeA m.qs c.prods n.toNat :: coH b c m ++ []) Gk (Gh.trans prodA_shut (coA_put (c' := c) hm hqi (set_same hpi).symm))) ⟨rfl, rfl⟩
  · simp only [if_neg h]
    refine Trip.ghE coA_open ?_
    rintro m hm
    have s1 := producer_none (b := b) (c := c) (m := m) (n := n) (by omega) m.mv (.map (some m.db)) (.map (some m.ab)) (vi c.now)
    simp only [coX, List.cons_append, List.nil_append]
    refine Trip.of_body Tryz.func21 rfl Tryz.ntmps21 Tryz.results21 rfl ?_
    refine Wsr (Ls (Rdo.assign rfl) (Ls (Rdo.assign rfl) (Lnt (Wsr (Ls (Rdo.move rfl) (Ls (Rdo.move rfl) ?_))))))
    refine WpL.step (Sc (s1) rfl ?_)
    rintro _ _ ⟨rfl, rfl⟩
    refine Ll ?_
    refine Ls (Rdo.assign rfl) (Lnt (Wp.seq (Wsr (Ls (Rdo.move rfl) (Ls (Rdo.eqnil rfl rfl) (Lnt ?_))))))
    refine Wp.condT rfl ?_
    refine Wsr (Ls (Rdo.assign rfl) (Ls (Rdo.assign rfl) (Lnt (Wp.ret ?_))))
    refine Thn.r ?_
    refine Ret.now (by repeat (first | exact ResV.nil | apply ResV.tmp rfl | apply ResV.cell rfl (by repeat (first | exact Lds.one rfl | (apply Lds.all; (first | rfl | assumption | (simp <;> fail))) | exact Lds.ione0 | exact Lds.ione rfl | (apply Lds.iall; (first | rfl | assumption | (simp <;> fail))) | apply Lds.next)))) (Gh.trans Gk (coA_shut (l := []) m hm)) ⟨rfl, rfl⟩
/-- Numbers in order. -/
def sortI (xs : List Int) : List Int := xs.mergeSort (fun a b => Decidable.decide (a ≤ b))
theorem sortI_perm (xs : List Int) : (sortI xs).Perm xs := List.mergeSort_perm xs _
theorem sortI_sorted (xs : List Int) : (sortI xs).Pairwise (· ≤ ·) := by
  have h := List.pairwise_mergeSort (le := fun a b : Int => Decidable.decide (a ≤ b)) (fun a b c h1 h2 => by simp at *; omega) (fun a b => by simp; omega) xs
  exact h.imp (fun h => by simpa using h)
def partsOk (xs : List Int) : Prop := xs.Nodup ∧ ∀ x ∈ xs, 0 ≤ x ∧ x ≤ 3
theorem partsOk.len {xs : List Int} (h : partsOk xs) : xs.length ≤ 4 := by
  obtain ⟨rest, hr⟩ := complete_ (l := xs) (m := [0, 1, 2, 3]) h.1 (by decide) (fun y hy => by
    have := h.2 y hy
    have : y = 0 ∨ y = 1 ∨ y = 2 ∨ y = 3 := by omega
    rcases this with rfl | rfl | rfl | rfl <;> simp)
  have := hr.length_eq
  simp at this
  omega
/-- A producer's open transaction. -/
def CoS.open_ (c : CoS) (n : Int) : Int × List Int × Bool :=
  if 0 ≤ n ∧ n < c.prods.length ∧ (c.prods.getD n.toNat prod0).opn = true then ((c.prods.getD n.toNat prod0).last, sortI (c.prods.getD n.toNat prod0).parts, true) else (0, [], false)
theorem open_ok (b : Nat) (c : CoS) (n : Int) (hpa : ∀ p ∈ c.prods, partsOk p.parts) : Trip Tryz.prog 23 [vp b 0, vi n] [coA b c]
    (fun r l => ∃ v, r = .tuple #[vi (c.open_ n).1, v, vb (c.open_ n).2.2] ∧ l = [coA b c, rowA 3 1 v (c.open_ n).2.1.length ((c.open_ n).2.1.map vi)]) := by
  unfold CoS.open_
  by_cases h : 0 ≤ n ∧ n < c.prods.length
  · have hpi := getD_get (ps := c.prods) (i := n.toNat) (by omega)
    have hpk := hpa _ (getD_mem (ps := c.prods) (i := n.toNat) (by omega))
    generalize c.prods.getD n.toNat prod0 = p at *
    refine Trip.ghE (coA_at hpi) ?_
    rintro ⟨m, q, v⟩ ⟨hm, hqi⟩
    simp only at hm hqi
    have s1 := producer_at (b := b) (c := c) h.1 hqi m.mv (.map (some m.db)) (.map (some m.ab)) (vi c.now)
    simp only [coH]
    cases ho : p.opn with
    | false =>
      rw [if_neg (by simp)]
      have e1 : pmA v p.opn p.parts = pmA v false p.parts := by rw [ho]
      refine Trip.of_body Tryz.func23 rfl Tryz.ntmps23 Tryz.results23 rfl ?_
      refine Wsr (Ls (Rdo.assign rfl) (Ls (Rdo.assign rfl) (Ls (Rdo.assign rfl) (Lnt (Wsr (Ls (Rdo.move rfl) (Ls (Rdo.move rfl) ?_)))))))
      refine WpL.step (Sc (s1) rfl ?_)
      rintro _ _ ⟨rfl, rfl⟩
      refine Ll ?_
      refine Ls (Rdo.assign rfl) (Lnt (Wp.seq (Wsr (Ls (Rdo.move rfl) (Ls (Rdo.eqnil rfl rfl) (Ls (Rdo.move rfl) (Lw rfl rfl (Rdo.move rfl) (Lw rfl rfl (Rdo.nilCheck rfl) (Lw rfl rfl (Rdo.fieldAddr0 rfl) (Lw rfl rfl (Rdo.load rfl (Lds.next (Lds.next (Lds.next (Lds.one rfl))))) (Lw rfl rfl (Rdo.not rfl) (Ls (Rdo.pick_f rfl rfl) (Lnt ?_)))))))))))))
      refine cK rfl (Wsr (Ls (Rdo.assign rfl) (Ls (Rdo.assign rfl) (Ls (Rdo.assign rfl) (Lnt (Wp.ret ?_))))))
      refine Thn.r ?_
      rw [← e1]
      refine Ret.now (by repeat (first | exact ResV.nil | apply ResV.tmp rfl | apply ResV.cell rfl (by repeat (first | exact Lds.one rfl | (apply Lds.all; (first | rfl | assumption | (simp <;> fail))) | exact Lds.ione0 | exact Lds.ione rfl | (apply Lds.iall; (first | rfl | assumption | (simp <;> fail))) | apply Lds.next)))) (Gh.trans (b := cel q 84 (prodC p v) :: pmA v p.opn p.parts :: holeA m.qs c.prods n.toNat :: coH b c m ++ []) Gk (Gh.trans prodA_shut (Gh.trans (coA_put (c' := c) hm hqi (set_same hpi).symm) (Gh.trans (Gh.nil 3 1) (Gh.perm (List.Perm.swap _ _ _)))))) ⟨_, rfl, rfl⟩
    | true =>
      rw [if_pos (by simp [h])]
      refine Trip.gh (Gh.perm (List.Perm.swap _ _ _)) (Trip.ghE pmA_open ?_)
      rintro mb rfl
      have s2 := Keysbool.keys_ok mb
      have hak : akeys (p.parts.map fun k => (k, vb true)) = p.parts := by simp [akeys, Function.comp_def]
      have s3 : ∀ c0, Trip Tryz.prog 46 [.func (.func 70) #[] [vp c0 0].toArray] [cel c0 82 [.map (some mb)], mapA i64 mb (p.parts.map fun k => (k, vb true))]
          (fun r l => ∃ v, r = v ∧ l = [rowA 3 1 v (sortI p.parts).length ((sortI p.parts).map vi), cel c0 82 [.map (some mb)], mapA i64 mb (p.parts.map fun k => (k, vb true))]) := by
        intro c0
        have h1 := Keysbool.keysIter c0 mb 82 (p.parts.map fun k => (k, vb true))
        rw [hak] at h1
        have h2 := sorted_ok 70 [vp c0 0] [cel c0 82 [.map (some mb)], mapA i64 mb (p.parts.map fun k => (k, vb true))] (sortI p.parts) (by have := hpk.len; rw [(sortI_perm p.parts).length_eq]; omega) (sortI_sorted p.parts) (by kernel_rfl) (h1.perm (sortI_perm p.parts).symm)
        exact Trip.mono h2 (fun r l hl => ⟨r, rfl, hl⟩)
      refine Trip.of_body Tryz.func23 rfl Tryz.ntmps23 Tryz.results23 rfl ?_
      refine Wsr (Ls (Rdo.assign rfl) (Ls (Rdo.assign rfl) (Ls (Rdo.assign rfl) (Lnt (Wsr (Ls (Rdo.move rfl) (Ls (Rdo.move rfl) ?_)))))))
      refine WpL.step (Sc (s1) rfl ?_)
      rintro _ _ ⟨rfl, rfl⟩
      refine Ll ?_
      refine Ls (Rdo.assign rfl) (Lnt (Wp.seq (Wsr (Ls (Rdo.move rfl) (Ls (Rdo.eqnil rfl rfl) (Ls (Rdo.move rfl) (Lw rfl rfl (Rdo.move rfl) (Lw rfl rfl (Rdo.nilCheck rfl) (Lw rfl rfl (Rdo.fieldAddr0 rfl) (Lw rfl rfl (Rdo.load rfl (Lds.next (Lds.next (Lds.next (Lds.next (Lds.one rfl)))))) (Lw rfl rfl (Rdo.not rfl) (Ls (Rdo.pick_f rfl rfl) (Lnt ?_)))))))))))))
      refine cL rfl (Wp.skip (Thn.n (Wp.seq ?_)))
      refine Wp.draw (by kernel_rfl) ?_
      refine Qt (i := 0) rfl (Rdo.move rfl) (Qt (i := 1) rfl (Rdo.nilCheck rfl) (Qt (i := 2) rfl (Rdo.fieldAddr0 rfl) (Qt (i := 4) rfl (Rdo.move rfl) (Qt (i := 5) rfl (Rdo.nilCheck rfl) (Qt (i := 6) rfl (Rdo.fieldAddr0 rfl) ?_)))))
      refine WpR.load (i := 7) [3] rfl (by kernel_rfl) (by kernel_rfl) (by kernel_rfl) (by kernel_rfl) (by kernel_rfl) rfl Tk.rfl_ (Harm.rd rfl (Rdo.load rfl (Lds.next (Lds.next (Lds.next (Lds.next (Lds.one rfl)))))) Harm.nil) (Rdo.load rfl (Lds.next (Lds.next (Lds.next (Lds.next (Lds.one rfl)))))) rfl ?_
      refine WpR.phaseL (m := 0) #[true, true, true, true, true, true, true, true, true, true, true, true, true] 6 _ rfl (by kernel_rfl) (Tk.cons (Pk.next (Pk.next (Pk.next (Pk.next Pk.here)))) Tk.nil) ?_
      refine At (i := 3) rfl (Rdo.load rfl (Lds.one rfl)) ?_
      refine WpA.one (i := 8) rfl (by kernel_rfl) (Sc (s2) rfl ?_)
      rintro _ _ ⟨v46_0, ⟨rfl, rfl⟩⟩
      refine WpA.lst (by simp only [List.cons_append, List.nil_append]; exact rfl) ?_
      refine WpA.one (i := 9) rfl (by kernel_rfl) (Sc (s3 _) rfl ?_)
      rintro _ _ ⟨v49_0, ⟨rfl, rfl⟩⟩
      refine WpA.lst (by simp only [List.cons_append, List.nil_append]; exact rfl) ?_
      refine At (i := 10) rfl (Rdo.assign rfl) (At (i := 11) rfl (Rdo.assign rfl) (At (i := 12) rfl (Rdo.assign rfl) ?_))
      refine WpA.stop (by kernel_rfl) ?_
      refine Ql ?_
      refine WpR.done (by kernel_rfl) ?_
      refine Thn.n (Wp.ret ?_)
      rename_i sv
      refine Ret.now (by repeat (first | exact ResV.nil | apply ResV.tmp rfl | apply ResV.cell rfl (by repeat (first | exact Lds.one rfl | (apply Lds.all; (first | rfl | assumption | (simp <;> fail))) | exact Lds.ione0 | exact Lds.ione rfl | (apply Lds.iall; (first | rfl | assumption | (simp <;> fail))) | apply Lds.next)))) (Gh.trans (b := cel q 84 (prodC p (.map (some mb))) :: mapA i64 mb (p.parts.map fun k => (k, vb true)) :: holeA m.qs c.prods n.toNat :: coH b c m ++ [rowA 3 1 sv (sortI p.parts).length ((sortI p.parts).map vi)]) Gk (Gh.trans (prodA_shutM ho) (coA_put (c' := c) hm hqi (set_same hpi).symm))) ⟨_, rfl, rfl⟩
  · rw [if_neg (fun h2 => h ⟨h2.1, h2.2.1⟩)]
    refine Trip.ghE coA_open ?_
    rintro m hm
    have s1 := producer_none (b := b) (c := c) (m := m) (n := n) (by omega) m.mv (.map (some m.db)) (.map (some m.ab)) (vi c.now)
    simp only [coX, List.cons_append, List.nil_append]
    refine Trip.of_body Tryz.func23 rfl Tryz.ntmps23 Tryz.results23 rfl ?_
    refine Wsr (Ls (Rdo.assign rfl) (Ls (Rdo.assign rfl) (Ls (Rdo.assign rfl) (Lnt (Wsr (Ls (Rdo.move rfl) (Ls (Rdo.move rfl) ?_)))))))
    refine WpL.step (Sc (s1) rfl ?_)
    rintro _ _ ⟨rfl, rfl⟩
    refine Ll ?_
    refine Ls (Rdo.assign rfl) (Lnt (Wp.seq (Wsr (Ls (Rdo.move rfl) (Ls (Rdo.eqnil rfl rfl) (Ls (Rdo.move rfl) (Lp rfl rfl (Lp rfl rfl (Lp rfl rfl (Lp rfl rfl (Lp rfl rfl (Ls (Rdo.pick_t rfl rfl) (Lnt ?_)))))))))))))
    refine Wp.condT rfl ?_
    refine Wsr (Ls (Rdo.assign rfl) (Ls (Rdo.assign rfl) (Ls (Rdo.assign rfl) (Lnt (Wp.ret ?_)))))
    refine Thn.r ?_
    refine Ret.now (by repeat (first | exact ResV.nil | apply ResV.tmp rfl | apply ResV.cell rfl (by repeat (first | exact Lds.one rfl | (apply Lds.all; (first | rfl | assumption | (simp <;> fail))) | exact Lds.ione0 | exact Lds.ione rfl | (apply Lds.iall; (first | rfl | assumption | (simp <;> fail))) | apply Lds.next)))) (Gh.trans Gk (Gh.trans (coA_shut (l := []) m hm) (Gh.trans (Gh.nil 3 1) (Gh.perm (List.Perm.swap _ _ _))))) ⟨_, rfl, rfl⟩
end Go.Proofs.YtccgdnocldmjeaaGreatDoor
namespace Go.Proofs.YtccgdnocldmjeaaGreatDoor
open Go
set_option maxHeartbeats 4000000
set_option linter.unusedSimpArgs false
set_option linter.unusedVariables false
set_option maxRecDepth 20000
theorem MK.sl {P : Program} {e : Env} {t e' sz k : Nat} {ps : List (Nat × Operand)} {vs zs cs cs' : List Value} [EL P t e'] [SZ P e' sz] [ZV P e' zs] (hx : evls e (ps.map (·.2)) = some vs) (hi : ps.map (·.1) = List.range k) (hv : VCs sz vs cs) (hcs : cs = cs') (hsmall : Nat.ble (k * sz) 16777216 = true) :
    MK P e (.buildSlice t k ps.toArray) (fun nb => .slice (some ⟨nb, 0, none⟩) k k) (fun nb => cel nb e' cs') := ⟨fun hd h => Stp.sliceV hx hi hv hcs hsmall hd h⟩
theorem Src.row {P : Program} {l : List HP} {t : TypeId} {sz n : Nat} {v : Value} {xs : List Value} : Src P (rowA t sz v n xs :: l) sz v n xs := by
  unfold Src
  intro F w hl
  obtain ⟨r, hr, _⟩ := hl.sees
  unfold rowA at hr
  obtain ⟨hlen, h⟩ := hr
  rcases h with ⟨rfl, rfl⟩ | ⟨b, o, cap, cur, rfl, _⟩
  · obtain rfl : xs = [] := List.eq_nil_of_length_eq_zero (by simpa using hlen)
    have := Src.nil (P := P) (C := rowA t sz (.slice none 0 0) 0 [] :: l) (sz := sz)
    unfold Src at this
    exact this F w hl
  · have := Src.of_cells (P := P) (C := rowA t sz (.slice (some ⟨b, o, none⟩) n cap) n xs :: l) (sz := sz) (b := b) (off := o) (c := cap) hlen (fun F w hl j u hj => row_cell hl j u hj)
    unfold Src at this
    exact this F w hl
theorem Sts.rowF {P : Program} {l : List HP} {t : TypeId} {sz n cap b o i off : Nat} {xs : List Value} {v : Value} (hi : i * sz + off < xs.length) (hone : v.oneCell' = true) :
    Sts P (rowA t sz (.slice (some ⟨b, o, none⟩) n cap) n xs :: l) ⟨b, o + i * sz + off, none⟩ [v] (rowA t sz (.slice (some ⟨b, o, none⟩) n cap) n (xs.set (i * sz + off) v) :: l) := by
  have h := Sts.rowP (P := P) (l := l) (t := t) (sz := sz) (n := n) (cap := cap) (b := b) (o := o) (off := i * sz + off) (xs := xs) (pre := xs.take (i * sz + off)) (old := [xs[i * sz + off]]) (post := xs.drop (i * sz + off + 1)) (vs := [v])
    (by simp) (by simp; omega) rfl (oneCells1 hone)
  rw [show xs.take (i * sz + off) ++ ([v] ++ xs.drop (i * sz + off + 1)) = xs.set (i * sz + off) v by rw [List.set_eq_take_append_cons_drop, if_pos hi]; simp, ← Nat.add_assoc] at h
  exact h
theorem flat_at {sz f : Nat} {c : List Value} {v : Value} : ∀ {css : List (List Value)} {i : Nat}, (∀ c ∈ css, c.length = sz) → css[i]? = some c → c[f]? = some v → css.flatten[i * sz + f]? = some v := by
  intro css
  induction css with
  | nil => intro i _ h; simp at h
  | cons a css ih =>
    intro i h hc hf
    have ha : a.length = sz := h a (by simp)
    have hfl := (List.getElem?_eq_some_iff.1 hf).1
    rw [List.flatten_cons]
    cases i with
    | zero =>
      simp only [List.getElem?_cons_zero, Option.some.injEq] at hc
      subst hc
      rw [List.getElem?_append_left (by omega), Nat.zero_mul, Nat.zero_add]
      exact hf
    | succ i =>
      rw [List.getElem?_cons_succ] at hc
      rw [List.getElem?_append_right (by rw [Nat.succ_mul]; omega), show (i + 1) * sz + f - a.length = i * sz + f by rw [Nat.succ_mul]; omega]
      exact ih (fun c hc => h c (by simp [hc])) hc hf
theorem flat_lt {sz : Nat} {css : List (List Value)} (h : ∀ c ∈ css, c.length = sz) : css.flatten.length = css.length * sz := by
  induction css with
  | nil => simp
  | cons a css ih => rw [List.flatten_cons, List.length_append, ih (fun c hc => h c (by simp [hc])), h a (by simp), List.length_cons, Nat.succ_mul]; omega
theorem flat_set {sz f : Nat} {c : List Value} {v : Value} : ∀ {css : List (List Value)} {i : Nat}, (∀ c ∈ css, c.length = sz) → css[i]? = some c → f < c.length → css.flatten.set (i * sz + f) v = (css.set i (c.set f v)).flatten := by
  intro css
  induction css with
  | nil => intro i _ h; simp at h
  | cons a css ih =>
    intro i h hc hf
    have ha : a.length = sz := h a (by simp)
    rw [List.flatten_cons]
    cases i with
    | zero =>
      simp only [List.getElem?_cons_zero, Option.some.injEq] at hc
      subst hc
      rw [List.set_append, if_pos (by omega), Nat.zero_mul, Nat.zero_add, List.set_cons_zero, List.flatten_cons]
    | succ i =>
      rw [List.getElem?_cons_succ] at hc
      rw [List.set_append, if_neg (by rw [Nat.succ_mul]; omega), show (i + 1) * sz + f - a.length = i * sz + f by rw [Nat.succ_mul]; omega, ih (fun c hc => h c (by simp [hc])) hc hf]
      rfl
/-- The producers' cells. -/
def rpsL (ps : List Prod) (vs : List Value) : List (List Value) := List.zipWith prodC ps vs
def rpsC (ps : List Prod) (vs : List Value) : List Value := (rpsL ps vs).flatten
theorem rpsL_6 (ps : List Prod) (vs : List Value) : ∀ c ∈ rpsL ps vs, c.length = 6 := by
  induction ps generalizing vs with
  | nil => simp [rpsL]
  | cons p ps ih =>
    cases vs with
    | nil => simp [rpsL]
    | cons v vs =>
      intro c hc
      simp only [rpsL, List.zipWith_cons_cons, List.mem_cons] at hc
      rcases hc with rfl | hc
      · rfl
      · exact ih vs c hc
theorem rpsL_len {ps : List Prod} {vs : List Value} (h : vs.length = ps.length) : (rpsL ps vs).length = ps.length := by simp [rpsL, h]
theorem rpsL_at {ps : List Prod} {vs : List Value} {i : Nat} {p : Prod} {v : Value} (hp : ps[i]? = some p) (hv : vs[i]? = some v) : (rpsL ps vs)[i]? = some (prodC p v) := by
  simp [rpsL, List.getElem?_zipWith, hp, hv]
theorem rpsL_set (ps : List Prod) : ∀ (vs : List Value) (i : Nat) (p : Prod) (v : Value), (rpsL ps vs).set i (prodC p v) = rpsL (ps.set i p) (vs.set i v) := by
  induction ps with
  | nil => intro vs i p v; simp [rpsL]
  | cons q ps ih =>
    intro vs i p v
    cases vs with
    | nil => simp [rpsL]
    | cons u vs =>
      cases i with
      | zero => simp [rpsL]
      | succ i =>
        have := ih vs i p v
        simp only [rpsL] at this
        simp [rpsL, this]
theorem rpsC_len {ps : List Prod} {vs : List Value} (h : vs.length = ps.length) : (rpsC ps vs).length = ps.length * 6 := by
  unfold rpsC
  rw [flat_lt (rpsL_6 ps vs), rpsL_len h]
theorem rps_at {ps : List Prod} {vs : List Value} {i f : Nat} {p : Prod} {v u : Value} (hp : ps[i]? = some p) (hv : vs[i]? = some v) (hf : (prodC p v)[f]? = some u) : (rpsC ps vs)[i * 6 + f]? = some u :=
  flat_at (rpsL_6 ps vs) (rpsL_at hp hv) hf
theorem rps_set {ps : List Prod} {vs : List Value} {i f : Nat} {p p' : Prod} {v v' u : Value} (hp : ps[i]? = some p) (hv : vs[i]? = some v) (hf : f < 6) (hs : (prodC p v).set f u = prodC p' v') : (rpsC ps vs).set (i * 6 + f) u = rpsC (ps.set i p') (vs.set i v') := by
  unfold rpsC
  rw [flat_set (rpsL_6 ps vs) (rpsL_at hp hv) hf, hs, rpsL_set]
abbrev rcC (pv mv dv : Value) (n : Int) : List Value := [pv, mv, vi n, dv]
theorem rmark_op (x : Nat) (pv mv dv : Value) (n : Int) (ps : List Prod) (vs : List Value) (ms : List Mark) (kind txn : Int) (i : Nat) (p : Prod) (v : Value) (hp : ps[i]? = some p) (hv : vs[i]? = some v) (hm : ms.length ≤ 1000000) :
    Trip Tryz.prog 60 [vp x 0, vi kind, vi i, vi txn] [cel x 31 (rcC pv mv dv n), rowA 92 6 pv ps.length (rpsC ps vs), markA mv ms]
      (fun r l => ∃ a c, r = .tuple #[] ∧ l = [cel x 31 (rcC pv (.slice a (ms.length + 1) c) dv n), rowA 92 6 pv ps.length (rpsC ps vs), markA (.slice a (ms.length + 1) c) (ms ++ [⟨kind, i, p.epoch, txn⟩])]) := by
  have hi : i < ps.length := (List.getElem?_eq_some_iff.1 hp).1
  have hi' : (i : Int) < ps.length := by omega
  have f1 := rps_at (f := 1) hp hv rfl
  have hlen := marksC_length ms
  have hone := marksC_one ms
  refine Trip.get (Pk.next Pk.here) (fun r => rowA_at i hi) ?_
  rintro ⟨pb, po, pc, rfl⟩
  refine Trip.get (Pk.next (Pk.next Pk.here)) (fun r => rowA_shape) ?_
  rintro ⟨ma, mc, rfl⟩
  refine Trip.of_body Tryz.func60 rfl Tryz.ntmps60 Tryz.results60 rfl ?_
  refine Wp.draw (by kernel_rfl) ?_
  refine Qt (i := 0) rfl (Rdo.move rfl) (Qt (i := 2) rfl (Rdo.move rfl) (Qt (i := 3) rfl (Rdo.nilCheck rfl) (Qt (i := 4) rfl (Rdo.fieldAddr0 rfl) (Qt (i := 7) rfl (Rdo.move rfl) (Qt (i := 8) rfl (Rdo.move rfl) (Qt (i := 9) rfl (Rdo.move rfl) (Qt (i := 10) rfl (Rdo.nilCheck rfl) (Qt (i := 11) rfl (Rdo.fieldAddr0 rfl) (Qt (i := 13) rfl (Rdo.move rfl) (Qt (i := 17) rfl (Rdo.move rfl) ?_))))))))))
  refine WpR.phaseL (m := 3) #[true, true, true, true, true, true, true, true, true, true, true, true, true, true, true, true, true, true, true, true, true, false, false, false] 10 _ rfl (by kernel_rfl) (Tk.cons Pk.here (Tk.cons Pk.here Tk.nil)) ?_
  refine At (i := 5) rfl (Rdo.load rfl (Lds.one rfl)) (At (i := 12) rfl (Rdo.load rfl (Lds.one rfl)) ?_)
  refine At (i := 14) rfl (Rdo.indexSlice rfl rfl (by omega)) ?_
  refine At (i := 15) rfl (Rdo.fieldAddr rfl) ?_
  refine At (i := 16) rfl (Rdo.load rfl (Lds.next (Lds.rowF (by assumption)))) ?_
  refine At (i := 18) rfl (Rdo.bld rfl (BldL.cons rfl (VC.i _ _) (by first | rfl | assumption | (simp <;> done)) (by repeat (first | exact LPut.nil _ | apply LPut.here | apply LPut.next)) (BldL.cons rfl (VC.i _ _) (by first | rfl | assumption | (simp <;> done)) (by repeat (first | exact LPut.nil _ | apply LPut.here | apply LPut.next)) (BldL.cons rfl (VC.i _ _) (by first | rfl | assumption | (simp <;> done)) (by repeat (first | exact LPut.nil _ | apply LPut.here | apply LPut.next)) (BldL.cons rfl (VC.i _ _) (by first | rfl | assumption | (simp <;> done)) (by repeat (first | exact LPut.nil _ | apply LPut.here | apply LPut.next)) (BldL.nil _)))))) ?_
  refine PendA.start (hz := MK.sl rfl rfl (VCs.cons (VC.ag _) (by first | rfl | assumption | (simp <;> done)) VCs.nil) (by first | exact rfl | (simp only [List.cons_append, List.nil_append, List.append_nil]; exact rfl)) rfl) (i := 19) rfl ?_
  (refine PendA.one (hz := MK.sl rfl rfl (VCs.cons (VC.ag _) (by first | rfl | assumption | (simp <;> done)) VCs.nil) (by first | exact rfl | (simp only [List.cons_append, List.nil_append, List.append_nil]; exact rfl)) rfl) (j := 1) rfl rfl (by kernel_rfl) (by kernel_rfl) (by kernel_rfl) rfl (by simp) rfl rfl (Stp.slice0 rfl ?_); intro nb20)
  (refine PendA.one (hz := MK.sl rfl rfl (VCs.cons (VC.ag _) (by first | rfl | assumption | (simp <;> done)) VCs.nil) (by first | exact rfl | (simp only [List.cons_append, List.nil_append, List.append_nil]; exact rfl)) rfl) (j := 6) rfl rfl (by kernel_rfl) (by kernel_rfl) (by kernel_rfl) rfl (by simp) rfl rfl (Stp.append0P rfl rfl Pk.here Src.row (by first | rfl | assumption | (simp <;> done) | (simp <;> omega)) (by first | assumption | exact oneCells1 rfl | exact oneCells1 (by assumption) | exact oneCells_bytesC _ | exact oneCells_votesC _ | (simp [oneCells, Value.oneCell'] <;> done)) (by first | omega | (simp <;> omega)) (by first | omega | (simp <;> omega)) rfl (by first | rfl | (simp <;> done)) ?_); intro na21 nc21)
  refine PendA.made (hz := MK.sl rfl rfl (VCs.cons (VC.ag _) (by first | rfl | assumption | (simp <;> done)) VCs.nil) (by first | exact rfl | (simp only [List.cons_append, List.nil_append, List.append_nil]; exact rfl)) rfl) rfl (by kernel_rfl) rfl (fun nb22 => ?_)
  (refine WpA.one (i := 20) rfl (by kernel_rfl) (Stp.appendP rfl rfl (Pk.next Pk.here) (Src.cel (by first | rfl | (simp <;> done) | (simp <;> omega))) (by first | rfl | assumption | (simp <;> done) | (simp <;> omega)) (by first | assumption | exact oneCells1 rfl | exact oneCells1 (by assumption) | exact oneCells_bytesC _ | exact oneCells_votesC _ | (simp [oneCells, Value.oneCell'] <;> done)) (by first | omega | (simp <;> omega)) (by first | omega | (simp <;> omega)) rfl (by first | rfl | (simp <;> done)) ?_); intro na23 nc23)
  refine WpA.stop (by kernel_rfl) ?_
  refine Ql ?_
  refine Qt (i := 21) rfl (Rdo.nilCheck rfl) (Qt (i := 22) rfl (Rdo.fieldAddr0 rfl) ?_)
  refine Qo (i := 23) rfl (Stp.storeV rfl rfl (VC.sl _ _ _) rfl (Sp (oneCells1 rfl)) ?_)
  refine WpR.done (by kernel_rfl) ?_
  have em := markA_snoc (.slice na23 (ms.length + 1) nc23) ms ⟨kind, i, p.epoch, txn⟩
  exact Ret.end_ ResV.nil (by rw [← em]; exact Gk) ⟨na23, nc23, rfl, rfl⟩
theorem set_self_at {α : Type} {l : List α} {i : Nat} {a : α} (h : l[i]? = some a) (b : α) : (l.set i b)[i]? = some b := by
  rw [List.getElem?_set_self (List.getElem?_eq_some_iff.1 h).1]
theorem rend_op (x : Nat) (pv mv dv : Value) (n : Int) (ps : List Prod) (vs : List Value) (ms : List Mark) (kind : Int) (i : Nat) (p : Prod) (v : Value) (hp : ps[i]? = some p) (hv : vs[i]? = some v) (hvl : vs.length = ps.length) (hm : ms.length ≤ 1000000) :
    Trip Tryz.prog 59 [vp x 0, vi i, vi kind] [cel x 31 (rcC pv mv dv n), rowA 92 6 pv ps.length (rpsC ps vs), markA mv ms]
      (fun r l => ∃ a c, r = .tuple #[] ∧ l = [cel x 31 (rcC pv (.slice a (ms.length + 1) c) dv n), rowA 92 6 pv ps.length (rpsC (ps.set i { p with opn := false, parts := [] }) (vs.set i vnil)), markA (.slice a (ms.length + 1) c) (ms ++ [⟨kind, i, p.epoch, p.last⟩])]) := by
  have hi : i < ps.length := (List.getElem?_eq_some_iff.1 hp).1
  have hi' : (i : Int) < ps.length := by omega
  have f1 := rps_at (f := 2) hp hv rfl
  have hL := rpsC_len hvl
  refine Trip.get (Pk.next Pk.here) (fun r => rowA_at i hi) ?_
  rintro ⟨pb, po, pc, rfl⟩
  have s1 := rmark_op x (.slice (some ⟨pb, po, none⟩) ps.length pc) mv dv n ps vs ms kind p.last i p v hp hv hm
  have e1 : (rpsC ps vs).set (i * 6 + 3) (vb false) = rpsC (ps.set i { p with opn := false }) (vs.set i v) := rps_set hp hv (by omega) rfl
  have e2 : (rpsC (ps.set i { p with opn := false }) (vs.set i v)).set (i * 6 + 4) vnil = rpsC (ps.set i { p with opn := false, parts := [] }) (vs.set i vnil) := by
    rw [rps_set (p' := { p with opn := false, parts := [] }) (v' := vnil) (set_self_at hp _) (set_self_at hv _) (by omega) rfl, List.set_set, List.set_set]
  refine Trip.of_body Tryz.func59 rfl Tryz.ntmps59 Tryz.results59 rfl ?_
  refine Wsr (Ls (Rdo.move rfl) (Ls (Rdo.move rfl) (Ls (Rdo.move rfl) (Ls (Rdo.move rfl) (Ls (Rdo.nilCheck rfl) (Ls (Rdo.fieldAddr0 rfl) (Ls (Rdo.load rfl (Lds.one rfl)) (Ls (Rdo.move rfl) ?_))))))))
  refine Ls (Rdo.indexSlice rfl rfl (by omega)) ?_
  refine Ls (Rdo.fieldAddr rfl) ?_
  refine Ls (Rdo.load rfl (Lds.next (Lds.rowF (by assumption)))) ?_
  refine WpL.step (Sc (s1) rfl ?_)
  rintro _ _ ⟨v14_0, ⟨v14_1, ⟨rfl, rfl⟩⟩⟩
  refine Ll ?_
  refine Lnt ?_
  refine Wp.draw (by kernel_rfl) ?_
  refine Qt (i := 0) rfl (Rdo.move rfl) (Qt (i := 1) rfl (Rdo.nilCheck rfl) (Qt (i := 2) rfl (Rdo.fieldAddr0 rfl) (Qt (i := 4) rfl (Rdo.move rfl) (Qt (i := 5) rfl (Rdo.move rfl) (Qt (i := 6) rfl (Rdo.nilCheck rfl) (Qt (i := 7) rfl (Rdo.fieldAddr0 rfl) (Qt (i := 9) rfl (Rdo.move rfl) ?_)))))))
  refine WpR.phaseL (m := 6) #[true, true, true, true, true, true, true, true, true, true, false, false, false, false, false, false] 2 _ rfl (by kernel_rfl) Tk.rfl_ ?_
  refine At (i := 3) rfl (Rdo.load rfl (Lds.one rfl)) (At (i := 8) rfl (Rdo.load rfl (Lds.one rfl)) ?_)
  refine WpA.stop (by kernel_rfl) ?_
  refine WpR.lst (by simp only [List.cons_append, List.nil_append, List.append_nil]; exact rfl) ?_
  refine Qt (i := 10) rfl (Rdo.indexSlice rfl rfl (by omega)) ?_
  refine Qt (i := 11) rfl (Rdo.fieldAddr rfl) ?_
  refine Qo (i := 12) rfl (St rfl rfl (VC.b _) ?_)
  refine Qt (i := 13) rfl (Rdo.indexSlice rfl rfl (by omega)) ?_
  refine Qt (i := 14) rfl (Rdo.fieldAddr rfl) ?_
  refine Qo (i := 15) rfl (St rfl rfl (VC.sl _ _ _) ?_)
  refine WpR.done (by kernel_rfl) ?_
  rw [e1, e2]
  exact Ret.end_ ResV.nil Gk ⟨_, _, rfl, rfl⟩
end Go.Proofs.YtccgdnocldmjeaaGreatDoor
