/- Bytes as new memory. -/
import Derived.Test.YtccgdnocldmjeaaDoorStr
import Derived.Test.YtccgdnocldmjeaaDoorTy
namespace Go.Proofs.YtccgdnocldmjeaaDoor
open Go
set_option maxHeartbeats 4000000
set_option linter.unusedSimpArgs false
set_option linter.unusedVariables false
set_option maxRecDepth 20000

abbrev RdBytes (g : FH) (v : Value) (bs : List UInt8) : Prop := RdRow g 1 v bs.length (bytesC bs)

theorem bytesC_length (bs : List UInt8) : (bytesC bs).length = bs.length := by simp [bytesC]
theorem oneCells_bytesC (bs : List UInt8) : oneCells (bytesC bs) := by
  intro v hv
  obtain ⟨b, _, rfl⟩ := List.mem_map.1 hv
  rfl
theorem shape_bytes {v : Value} {bs : List UInt8} (r : Res) (h : fz (fun g => RdBytes g v bs) r) : ∃ a c, v = .slice a bs.length c := by
  unfold fz at h
  obtain ⟨_, a, c, h2, _⟩ := h
  exact ⟨a, c, h2⟩
theorem nil_bytes {n c : Nat} {bs : List UInt8} (r : Res) (h : fz (fun g => RdBytes g (.slice none n c) bs) r) : bs = [] := by
  unfold fz at h
  obtain ⟨_, a, c', h2, h3⟩ := h
  simp only [Value.slice.injEq] at h2
  obtain ⟨rfl, rfl, rfl⟩ := h2
  rcases h3 with h3 | ⟨b, o, h3, _⟩
  · exact List.eq_nil_of_length_eq_zero h3
  · cases h3
theorem Gh.noBytes {l : List HP} {a : Option Addr} {c : Nat} : Gh l (fz (fun g => RdBytes g (.slice a 0 c) []) :: l) := Gh.fzTrue fun g => RdRow.nil g 1 a c

theorem bytesClone_ok (v : Value) (bs : List UInt8) (hb : bs.length ≤ 1099511627776) :
    Trip Tryd.prog 52 [v] [fz (fun g => RdBytes g v bs)] (fun r l => ∃ a c, r = .slice a bs.length c ∧ l = [fz (fun g => RdBytes g (.slice a bs.length c) bs), fz (fun g => RdBytes g v bs)]) := by
  refine Trip.get Pk.here shape_bytes ?_
  rintro ⟨a, c, rfl⟩
  cases a with
  | none =>
    refine Trip.get Pk.here nil_bytes ?_
    rintro rfl
    refine Trip.of_body Tryd.func52 rfl Tryd.ntmps52 Tryd.results52 rfl ?_
    refine Wp.seq ?_
    refine Wp.region ?_
    refine WpL.step (Stp.rd (Rdo.assign rfl) rfl ?_)
    refine WpL.nil ?_
    refine Thn.n ?_
    refine Wp.seq ?_
    refine Wp.seq ?_
    refine Wp.region ?_
    refine WpL.step (Stp.rd (Rdo.move rfl) rfl ?_)
    refine WpL.step (Stp.rd (Rdo.eqslnil rfl rfl) rfl ?_)
    refine WpL.nil ?_
    refine Thn.n ?_
    refine Wp.condT rfl ?_
    refine Wp.seq ?_
    refine Wp.region ?_
    refine WpL.step (Stp.rd (Rdo.assign rfl) rfl ?_)
    refine WpL.nil ?_
    refine Thn.n ?_
    refine Wp.ret ?_
    refine Thn.r ?_
    exact Ret.now (ResV.tmp rfl ResV.nil) Gh.noBytes ⟨none, 0, rfl, rfl⟩
  | some a =>
    refine Trip.of_body Tryd.func52 rfl Tryd.ntmps52 Tryd.results52 rfl ?_
    refine Wp.seq ?_
    refine Wp.region ?_
    refine WpL.step (Stp.rd (Rdo.assign rfl) rfl ?_)
    refine WpL.nil ?_
    refine Thn.n ?_
    refine Wp.seq ?_
    refine Wp.seq ?_
    refine Wp.region ?_
    refine WpL.step (Stp.rd (Rdo.move rfl) rfl ?_)
    refine WpL.step (Stp.rd (Rdo.eqslnil rfl rfl) rfl ?_)
    refine WpL.nil ?_
    refine Thn.n ?_
    refine Wp.condF rfl ?_
    refine Wp.skip ?_
    refine Thn.n ?_
    refine Wp.seq ?_
    refine Wp.region ?_
    refine WpL.step (Stp.slice (ps := []) (vs := []) (cs := []) rfl rfl (by simp) (by simp) (by omega) rfl ?_)
    intro b
    refine WpL.gh (Gh.row (n := 0) (sz := 1) Pk.here (by simp)) ?_
    refine WpL.step (Stp.rd (Rdo.move rfl) rfl ?_)
    refine WpL.step (Stp.append0 rfl rfl Src.frozen (by simp [bytesC_length]) (oneCells_bytesC bs) (by omega) (by omega) rfl (by rfl) ?_)
    intro a' c'
    refine WpL.step (Stp.rd (Rdo.assign rfl) rfl ?_)
    refine WpL.nil ?_
    refine Thn.n ?_
    refine Wp.ret ?_
    exact Ret.now (ResV.tmp rfl ResV.nil) (Gh.ice Pk.here) ⟨_, _, rfl, rfl⟩
end Go.Proofs.YtccgdnocldmjeaaDoor
