/- A string's bytes as new (frozen) memory. Nothing of any program stands here. -/
import Derived.Test.YtaacdekfeljpeaaDoorByt
import Derived.Laws.IdiomStrings
namespace Go.Proofs.YtaacdekfeljpeaaDoor
open Go
set_option maxHeartbeats 4000000
set_option linter.unusedSimpArgs false
set_option linter.unusedVariables false

theorem Stp.strBytes {P : Program} {n d : Nat} {x : Operand} {src dst e' ty : TypeId} {pos : String} {after : Array Edge} {g : Option (Nat × Bool)} {e : Env} {l : List HP} {Φ : Env → List HP → Prop} {s : List UInt8}
    [hs : ST P src] [ht : EL P dst e'] [he' : IK P e' .u8] (hx : evl e x = some (vs s)) (hd : Nat.blt d n = true)
    (hk : ∀ a c, Φ (eset e d (.slice a s.length c)) (fz (fun g => RdBytes g (.slice a s.length c) s) :: l)) :
    Stp P n ⟨some d, .convert src dst x, ty, pos, after, g⟩ e l Φ := by
  unfold Stp
  intro F w a ds hl he K Q0 hK
  have hr := run_bytes_of_string (P := P) w src dst e' ⟨s.toArray⟩ hs.pf ht.pf he'.pf
  rw [size_vs] at hr
  generalize hcap : grownCap w s.length 0 e' = cap at hr
  have hge : s.length ≤ cap := by rw [← hcap]; exact grownCap_ge w s.length 0 e'
  have hcells : (bytesRow ⟨s.toArray⟩ cap).toList = bytesC s ++ List.replicate (cap - s.length) (.int .u8 0) := by
    simp [bytesRow, bytesC, u8c, size_vs]
  have hh : Holds (fz (fun g => RdBytes g (.slice (some ⟨w.heap.size, 0, none⟩) s.length cap) s) :: l) F (w.drew.alloc (.cells (bytesRow ⟨s.toArray⟩ cap) e' ((bytesRow ⟨s.toArray⟩ cap).size, (bytesRow ⟨s.toArray⟩ cap).size + 1))) := by
    have h1 := hl.drew.alloc (.cells (bytesRow ⟨s.toArray⟩ cap) e' ((bytesRow ⟨s.toArray⟩ cap).size, (bytesRow ⟨s.toArray⟩ cap).size + 1))
    refine Holds.freeze_fz (fun g hg => ⟨by simp [bytesC], _, cap, rfl, .inr ⟨_, 0, rfl, _, _, _, hg, fun j v hj => ?_⟩⟩) h1
    rw [Nat.zero_add, ← Array.getElem?_toList, hcells, List.getElem?_append_left (List.getElem?_eq_some_iff.1 hj).1]
    exact hj
  unfold OpW
  have : (execOp a.eval ⟨some d, .convert src dst x, ty, pos, after, g⟩).run P w = .ok (.value (.slice (some ⟨w.heap.size, 0, none⟩) s.length cap)) (w.drew.alloc (.cells (bytesRow ⟨s.toArray⟩ cap) e' ((bytesRow ⟨s.toArray⟩ cap).size, (bytesRow ⟨s.toArray⟩ cap).size + 1))) := by
    simp only [execOp, he.eval hx, Sem.run_bind, hr, Result.andThen_ok, Sem.run_pure]
  rw [this]
  exact hK _ _ _ _ (he.put _ hd) hh ((Ext.drew w).trans (Ext.alloc _ _)) (hk _ _)

/-- Bytes that were written out, as a constant's. -/
theorem Stp.convBytes {P : Program} {n d b m c : Nat} {x : Operand} {t t' e' ty : TypeId} {pos : String} {after : Array Edge} {g : Option (Nat × Bool)} {e : Env} {l rest : List HP} {Φ : Env → List HP → Prop} {cs : List Value}
    [ht : EL P t e'] [he' : IK P e' .u8] (hx : evl e x = some (.slice (some ⟨b, 0, none⟩) m c)) (hd : Nat.blt d n = true) (hp : Pk l (cel b t' cs) rest) (hm : cs.length = m)
    (hk : Φ (eset e d (.slice (some ⟨b, 0, none⟩) m c)) (fz (fun g => RdRow g 1 (.slice (some ⟨b, 0, none⟩) m c) m cs) :: rest)) :
    Stp P n ⟨some d, .convert t t x, ty, pos, after, g⟩ e l Φ := by
  unfold Stp
  intro F w a ds hl he K Q0 hK
  unfold Pk at hp
  have h1 := hl.perm hp
  have hb := cel_sees h1
  have hlt : b < w.heap.size := (Array.getElem?_eq_some_iff.1 hb).1
  have hsh : w.shape? b = some (t', cs.toArray.size) := by
    unfold World.shape?
    rw [hb]
  have hr : (convert t t (.slice (some ⟨b, 0, none⟩) m c)).run P w = .ok (.slice (some ⟨b, 0, none⟩) m c) (w.freeze ⟨b, cs.toArray.size, none⟩ 1) := by
    simp [convert, run_underlying ht.pf, run_underlying he'.pf, markStringish, hsh]
  have hb2 : (w.freeze ⟨b, cs.toArray.size, none⟩ 1).heap[b]? = some (.cells cs.toArray t' (cs.toArray.size, cs.toArray.size + 1)) := by
    unfold World.freeze
    rw [if_neg (by decide)]
    simp only [Array.getElem?_modify]
    rw [hb]
    simp
  have hold : ∀ k, k ≠ b → (w.freeze ⟨b, cs.toArray.size, none⟩ 1).heap[k]? = w.heap[k]? := by
    intro k hk
    unfold World.freeze
    rw [if_neg (by decide)]
    simp only [Array.getElem?_modify]
    rw [if_neg (fun h => hk h.symm)]
  have hh : Holds (fz (fun g => RdRow g 1 (.slice (some ⟨b, 0, none⟩) m c) m cs) :: rest) F (w.freeze ⟨b, cs.toArray.size, none⟩ 1) := by
    refine Holds.freeze_fz (fun g hg => ⟨by simp [hm], _, c, rfl, .inr ⟨b, 0, rfl, _, _, _, hg, fun j v hj => ?_⟩⟩) (Holds.put (by unfold cel at h1; exact h1) hb2 (fun k hk _ => hold k hk))
    simpa using hj
  unfold OpW
  have : (execOp a.eval ⟨some d, .convert t t x, ty, pos, after, g⟩).run P w = .ok (.value (.slice (some ⟨b, 0, none⟩) m c)) (w.freeze ⟨b, cs.toArray.size, none⟩ 1) := by
    simp only [execOp, he.eval hx, Sem.run_bind, hr, Result.andThen_ok, Sem.run_pure]
  rw [this]
  exact hK _ _ _ _ (he.put _ hd) hh ⟨rfl, rfl, rfl, by simp [World.freeze]⟩ hk

/-- A triple out of another one; what the memory shows behind the call may be told as well. -/
theorem Trip.viaG {P : Program} {f : FuncId} {args : List Value} {l pre rest : List HP} {post post' : Value → List HP → Prop} (h : Trip P f args pre post) (hp : Tk l pre rest)
    (hk : ∀ v l', post v l' → ∀ F w, Holds (l' ++ rest) F w → ∃ l'', post' v l'' ∧ Holds l'' F w) : Trip P f args l post' := by
  unfold Trip
  intro F w hl
  obtain ⟨G, h1, h2⟩ := (hp.use hl).frame
  refine (h.use G w h1).mono ?_
  rintro e w' ⟨v, l', he, hpo, hl', hx⟩
  obtain ⟨l'', h3, h4⟩ := hk v l' hpo F w' (h2 l' w' hl')
  exact ⟨v, l'', he, h3, h4, hx⟩
end Go.Proofs.YtaacdekfeljpeaaDoor
