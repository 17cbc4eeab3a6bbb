/- Maps whose keys are structs: how a key is looked for. -/
import Derived.Test.YtccgdnocldmjeaaDoorEqv
namespace Go.Proofs.YtccgdnocldmjeaaDoor
open Go
set_option maxHeartbeats 4000000
set_option linter.unusedSimpArgs false
set_option linter.unusedVariables false
section
variable {P : Program} {κ : Type} [DecidableEq κ] {enc : κ → List Value} {kt : TypeId} {ks : List CK}

theorem findAsk_ok (h : CKS P kt ks) (ho : ∀ k, oks ks (enc k) = true) (hi : ∀ a b, enc a = enc b ↔ a = b) (k : κ) (w : World) :
    ∀ (es : List (κ × Value)) (bs : List Nat) (i : Nat), bs.length = es.length →
      (Instr.findAsking kt (.agg (enc k).toArray) (rawEs (fun k => .agg (enc k).toArray) es bs) i).run P w = .ok ((aidx es k).bind fun j => (alook es k).map fun v => (i + j, v)) w
  | [], bs, i, _ => by simp [rawEs, Instr.findAsking, aidx]
  | (x, v) :: es, [], i, hl => by simp at hl
  | (x, v) :: es, b :: bs, i, hl => by
    have ih := findAsk_ok h ho hi k w es bs (i + 1) (by simpa using hl)
    obtain ⟨r, hr, hiff⟩ := h.run (ho k) (ho x) w
    have e0 : rawEs (fun k => Value.agg (enc k).toArray) ((x, v) :: es) (b :: bs) = ⟨.agg (enc x).toArray, v, b⟩ :: rawEs (fun k => Value.agg (enc k).toArray) es bs := rfl
    rw [e0]
    unfold Instr.findAsking
    rw [Sem.run_bind]
    have hd' : (Op.equal kt (.agg (enc k).toArray) (.agg (enc x).toArray)).run P w = .ok r w := hr
    rw [hd', Result.andThen_ok]
    by_cases hx : x = k
    · subst hx
      have : r = true := hiff.2 rfl
      subst this
      simp [aidx, alook]
    · have hne : r = false := by
        cases r
        · rfl
        · exact absurd ((hi _ _).1 (hiff.1 rfl)).symm hx
      subst hne
      simp only [Bool.false_eq_true, if_false, ih, aidx, alook, if_neg hx]
      cases aidx es k <;> simp
      rename_i j
      cases alook es k <;> simp
      omega
def isStr : Option TypeDesc → Bool
  | some (.struct _) => true
  | _ => false
theorem isStr_get {o : Option TypeDesc} (h : isStr o = true) : ∃ fs, o = some (.struct fs) := by
  unfold isStr at h
  split at h
  · exact ⟨_, rfl⟩
  · cases h
theorem keyS (h : CKS P kt ks) (ho : ∀ k, oks ks (enc k) = true) (hi : ∀ a b, enc a = enc b ↔ a = b) (hu' : isStr (P.underlying kt) = true)
    (hc : ∀ (e : Bool) (k : κ) (w : World), (Instr.checkKey e 10000 kt (.agg (enc k).toArray)).run P w = .ok () w)
    (hs : ∀ k, Instr.sameBits 10000 (.agg (enc k).toArray) (.agg (enc k).toArray) = true) : KeyT P kt (fun k => .agg (enc k).toArray) where
  chk := hc
  fnd k es bs w hl := by
    obtain ⟨fs, hu⟩ := isStr_get hu'
    have h1 := findAsk_ok h ho hi k w es bs 0 hl
    simp only [Nat.zero_add] at h1
    unfold Instr.findKey
    rw [Sem.run_bind, run_underlying hu, Result.andThen_ok]
    match es, bs, hl with
    | [], bs, _ =>
      simp [rawEs, Instr.findNow, aidx]
    | (x, v) :: es, b :: bs, hl =>
      have e0 : rawEs (fun k => Value.agg (enc k).toArray) ((x, v) :: es) (b :: bs) = ⟨.agg (enc x).toArray, v, b⟩ :: rawEs (fun k => Value.agg (enc k).toArray) es bs := rfl
      have e1 : Instr.findNow (.struct fs) (.agg (enc k).toArray) (rawEs (fun k => Value.agg (enc k).toArray) ((x, v) :: es) (b :: bs)) 0 = none := by rw [e0]; rfl
      rw [e1]
      exact h1
  same := hs
end
end Go.Proofs.YtccgdnocldmjeaaDoor
