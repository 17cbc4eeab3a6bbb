/- A string's bytes as new (frozen) memory. Nothing of any program stands here. -/
import Derived.Test.YtmeaekcengmfbaaByt
import Derived.Laws.IdiomStrings
namespace Go.Proofs.Ytmeaekcengmfbaa
open Go
set_option maxHeartbeats 4000000
set_option linter.unusedSimpArgs false
set_option linter.unusedVariables false

theorem Stp.strBytes {P : Program} {n d : Nat} {x : Operand} {src dst e' ty : TypeId} {pos : String} {after : Array Edge} {g : Option (Nat × Bool)} {e : Env} {l : List HP} {Φ : Env → List HP → Prop} {s : List UInt8}
    [hs : ST P src] [ht : EL P dst e'] [he' : IK P e' .u8] (hx : evl e x = some (vs s)) (hd : Nat.blt d n = true)
    (hk : ∀ a c, Φ (eset e d (.slice a s.length c)) (fz (fun g => RdBytes g (.slice a s.length c) s) :: l)) :
    Stp P n ⟨some d, .convert src dst x, ty, pos, after, g⟩ e l Φ := by
  unfold Stp
  intro F w a ds hl he K Q0 hK
  have hr := run_bytes_of_string (P := P) w src dst e' ⟨s.toArray⟩ hs.pf ht.pf he'.pf
  rw [size_vs] at hr
  generalize hcap : grownCap w s.length 0 e' = cap at hr
  have hge : s.length ≤ cap := by rw [← hcap]; exact grownCap_ge w s.length 0 e'
  have hcells : (bytesRow ⟨s.toArray⟩ cap).toList = bytesC s ++ List.replicate (cap - s.length) (.int .u8 0) := by
    simp [bytesRow, bytesC, u8c, size_vs]
  have hh : Holds (fz (fun g => RdBytes g (.slice (some ⟨w.heap.size, 0, none⟩) s.length cap) s) :: l) F (w.drew.alloc (.cells (bytesRow ⟨s.toArray⟩ cap) e' ((bytesRow ⟨s.toArray⟩ cap).size, (bytesRow ⟨s.toArray⟩ cap).size + 1))) := by
    have h1 := hl.drew.alloc (.cells (bytesRow ⟨s.toArray⟩ cap) e' ((bytesRow ⟨s.toArray⟩ cap).size, (bytesRow ⟨s.toArray⟩ cap).size + 1))
    refine Holds.freeze_fz (fun g hg => ⟨by simp [bytesC], _, cap, rfl, .inr ⟨_, 0, rfl, _, _, _, hg, fun j v hj => ?_⟩⟩) h1
    rw [Nat.zero_add, ← Array.getElem?_toList, hcells, List.getElem?_append_left (List.getElem?_eq_some_iff.1 hj).1]
    exact hj
  unfold OpW
  have : (execOp a.eval ⟨some d, .convert src dst x, ty, pos, after, g⟩).run P w = .ok (.value (.slice (some ⟨w.heap.size, 0, none⟩) s.length cap)) (w.drew.alloc (.cells (bytesRow ⟨s.toArray⟩ cap) e' ((bytesRow ⟨s.toArray⟩ cap).size, (bytesRow ⟨s.toArray⟩ cap).size + 1))) := by
    simp only [execOp, he.eval hx, Sem.run_bind, hr, Result.andThen_ok, Sem.run_pure]
  rw [this]
  exact hK _ _ _ _ (he.put _ hd) hh ((Ext.drew w).trans (Ext.alloc _ _)) (hk _ _)

/-- A triple out of another one; what the memory shows behind the call may be told as well. -/
theorem Trip.viaG {P : Program} {f : FuncId} {args : List Value} {l pre rest : List HP} {post post' : Value → List HP → Prop} (h : Trip P f args pre post) (hp : Tk l pre rest)
    (hk : ∀ v l', post v l' → ∀ F w, Holds (l' ++ rest) F w → ∃ l'', post' v l'' ∧ Holds l'' F w) : Trip P f args l post' := by
  unfold Trip
  intro F w hl
  obtain ⟨G, h1, h2⟩ := (hp.use hl).frame
  refine (h.use G w h1).mono ?_
  rintro e w' ⟨v, l', he, hpo, hl', hx⟩
  obtain ⟨l'', h3, h4⟩ := hk v l' hpo F w' (h2 l' w' hl')
  exact ⟨v, l'', he, h3, h4, hx⟩
end Go.Proofs.Ytmeaekcengmfbaa
