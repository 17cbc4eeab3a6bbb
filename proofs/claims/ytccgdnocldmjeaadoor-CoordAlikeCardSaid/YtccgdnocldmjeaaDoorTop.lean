/- Bytes that came in, as frozen memory. -/
import Derived.Test.YtccgdnocldmjeaaDoorByt
import Derived.OpenShut
namespace Go.Proofs.YtccgdnocldmjeaaDoor
open Go
set_option maxHeartbeats 4000000
set_option linter.unusedSimpArgs false
set_option linter.unusedVariables false

theorem rdBytes_of {W : World} {a : Addr} {len cap : Nat} {zs : List Int} (hl : len ≤ zs.length) (hcell : ∀ i, i < zs.length → W.cell? (a.add i) = some (.int .u8 (zs.getD i 0))) (hwf : ∀ n ∈ zs, (Lit.int .u8 n).wf = true) :
    ∃ bs : List UInt8, bs.length = len ∧ RdBytes (fun b => W.heap[b]?) (.slice (some a) len cap) bs := by
  refine ⟨(zs.take len).map fun z => UInt8.ofNat z.toNat, by simp [hl], ?_⟩
  have hlen : ((zs.take len).map fun z => UInt8.ofNat z.toNat).length = len := by simp [hl]
  refine ⟨by simp [bytesC], some a, cap, by rw [hlen], ?_⟩
  rw [hlen]
  rcases Nat.eq_zero_or_pos len with h0 | h0
  · exact .inl h0
  right
  have hc0 := hcell 0 (by omega)
  unfold World.cell? at hc0
  split at hc0
  · rename_i arr t fr hb
    split at hc0
    · cases hc0
    · rename_i hs
      obtain ⟨b, o, sp⟩ := a
      have hsp : sp = none := by
        cases sp with
        | none => rfl
        | some x => simp [Addr.add] at hs
      subst hsp
      refine ⟨b, o, rfl, arr, t, fr, by simpa [Addr.add] using hb, fun j v hj => ?_⟩
      have hj2 : j < len := by
        have := (List.getElem?_eq_some_iff.1 hj).1
        simpa [bytesC, hl] using this
      have hadd : ∀ j, (⟨b, o, none⟩ : Addr).add j = ⟨b, o + j, none⟩ := fun j => by
        unfold Addr.add
        split
        · rename_i h; simp [h]
        · rfl
      have h1 := hcell j (by omega)
      rw [hadd] at h1 hb
      unfold World.cell? at h1
      simp only at h1 hb
      rw [hb] at h1
      simp only [Option.isSome_none, Bool.false_eq_true, if_false] at h1
      rw [h1]
      have hz : zs[j]? = some (zs.getD j 0) := by
        rw [List.getD_eq_getElem?_getD, List.getElem?_eq_getElem (by omega)]
        rfl
      have hw := hwf (zs.getD j 0) (List.mem_of_getElem? hz)
      simp only [bytesC, List.getElem?_map, List.getElem?_take, if_pos hj2, hz, Option.map_some, Option.some.injEq] at hj
      rw [← hj]
      simp only [u8c, Value.int.injEq, true_and, Option.some.injEq]
      have hb2 := bounds_u8 hw
      clear hw h1 hz hj
      generalize zs.getD j 0 = z at hb2 ⊢
      simp only [UInt8.toNat_ofNat']
      omega
  · cases hc0
end Go.Proofs.YtccgdnocldmjeaaDoor
