/- A bag: At, Twice at what is there. -/
import Derived.Test.YtmeaekcengmfbaaNet9
namespace Go.Proofs.Ytmeaekcengmfbaa
open Go
set_option linter.unusedSimpArgs false
set_option linter.unusedVariables false
set_option maxRecDepth 20000

theorem netAt_at {b : Nat} {ms : List Msg} {lost : Int} {i : Nat} {m : Msg} (hm : ms[i]? = some m) (hok : okMsg m) :
    Trip Try.prog 13 [vp b 0, vi i] [bagA b ms lost] (fun r l => ∃ cs, r = .tuple #[.agg cs.toArray, vb true] ∧ l = [bagA b ms lost, fz (fun g => RdMsg g cs m)]) := by
  obtain ⟨hi, rfl⟩ := List.getElem?_eq_some_iff.1 hm
  exact netAt_in b ms lost i hi hok
theorem netTwice_at {b : Nat} {ms : List Msg} {lost : Int} {i : Nat} {m : Msg} (hm : ms[i]? = some m) (hok : okMsg m) (hms : ms.length < 512) :
    Trip Try.prog 10 [vp b 0, vi i] [bagA b ms lost] (fun r l => r = vb true ∧ l = [bagA b (ms ++ [m]) lost]) := by
  obtain ⟨hi, rfl⟩ := List.getElem?_eq_some_iff.1 hm
  have := netTwice_in b ms lost i hi (by omega) hok
  rwa [if_pos hms, decide_eq_true hms] at this

end Go.Proofs.Ytmeaekcengmfbaa
