/- Rows of numbers and of truth values that came in; loads out of frozen rows. Nothing of any program stands here. -/
import Derived.Test.YtccgdnocldmjeaaDoorFrm
namespace Go.Proofs.YtccgdnocldmjeaaDoor
open Go
set_option maxHeartbeats 4000000
set_option linter.unusedSimpArgs false
set_option linter.unusedVariables false

abbrev RdInts (g : FH) (v : Value) (ps : List Int) : Prop := RdRow g 1 v ps.length (ps.map vi)
abbrev RdBools (g : FH) (v : Value) (ps : List Bool) : Prop := RdRow g 1 v ps.length (ps.map vb)

theorem RdSl.to_row {α : Type} {R : FH → List Value → α → Prop} {c : α → List Value} {sz : Nat} (hR : ∀ g x a, R g x a → x = c a) {g : FH} {v : Value} {els : List α} (h : RdSl R sz g v els) : RdRow g sz v els.length (els.map c).flatten := by
  obtain ⟨css, h1, _, h3⟩ := h
  have : css = els.map c := by
    clear h1
    induction h3 with
    | nil => rfl
    | cons h _ ih => rw [hR _ _ _ h, ih (fun c hc => by rename_i hh; exact hh c (by simp [hc]))]; rfl
  rw [← this]
  exact h1
theorem flatten_single {α : Type} (f : α → Value) (els : List α) : (els.map fun a => [f a]).flatten = els.map f := by
  induction els with
  | nil => rfl
  | cons a els ih => simp [ih]
theorem RdSl.facts {α : Type} {R : FH → List Value → α → Prop} {φ : α → Prop} (hR : ∀ g x a, R g x a → φ a) {sz : Nat} {g : FH} {v : Value} {els : List α} (h : RdSl R sz g v els) : ∀ a ∈ els, φ a := by
  obtain ⟨css, h1, h2, h3⟩ := h
  clear h1 h2
  induction h3 with
  | nil => intro a ha; cases ha
  | cons h _ ih =>
    intro a ha
    rcases List.mem_cons.1 ha with rfl | ha
    · exact hR _ _ _ h
    · exact ih a ha

abbrev RInts (g : FH) (cs : List Value) (ps : List Int) : Prop := ∃ v, cs = [v] ∧ RdInts g v ps ∧ (∀ n ∈ ps, In64 n) ∧ ps.length * 8 ≤ reachBytes
abbrev RBools (g : FH) (cs : List Value) (ps : List Bool) : Prop := ∃ v, cs = [v] ∧ RdBools g v ps ∧ ps.length * 1 ≤ reachBytes
abbrev RBytes (g : FH) (cs : List Value) (bs : List UInt8) : Prop := ∃ v, cs = [v] ∧ RdBytes g v bs ∧ bs.length ≤ reachBytes
abbrev RBytess (g : FH) (cs : List Value) (els : List (List UInt8)) : Prop := ∃ v, cs = [v] ∧ RdSl RBytes 1 g v els ∧ els.length * 24 ≤ reachBytes
section
variable {P : Program} {t e : TypeId}
theorem Opn.ints (hu : P.underlying t = some (.slice e)) (he : P.underlying e = some (.int .i64)) (hc : P.cellsOf e = 1) (hby : P.bytesOf e = 8) : Opn P t 1 RInts := by
  refine Opn.map id (Opn.slice hu hc (by omega) hby (Opn.int he)) ?_
  rintro g cs els ⟨v, rfl, h, h4⟩
  have h1 := RdSl.to_row (c := fun n : Int => [vi n]) (fun g x a h => h.1) h
  rw [flatten_single] at h1
  exact ⟨v, rfl, h1, RdSl.facts (fun g x a h => in64_of h.2) h, h4⟩
theorem Opn.bools (hu : P.underlying t = some (.slice e)) (he : P.underlying e = some .bool) (hc : P.cellsOf e = 1) (hby : P.bytesOf e = 1) : Opn P t 1 RBools := by
  refine Opn.map id (Opn.slice hu hc (by omega) hby (Opn.bool he)) ?_
  rintro g cs els ⟨v, rfl, h, h4⟩
  have h1 := RdSl.to_row (c := fun n : Bool => [vb n]) (fun g x a h => h) h
  rw [flatten_single] at h1
  exact ⟨v, rfl, h1, h4⟩
theorem Opn.bytess {e2 : TypeId} (hu : P.underlying t = some (.slice e)) (he : P.underlying e = some (.slice e2)) (he2 : P.underlying e2 = some (.int .u8)) (hc : P.cellsOf e = 1) (hc2 : P.cellsOf e2 = 1) (hby : P.bytesOf e = 24) (hby2 : P.bytesOf e2 = 1) :
    Opn P t 1 RBytess :=
  Opn.slice hu hc (by omega) hby (Opn.bytes he he2 hc2 hby2)

theorem shape_row {sz n : Nat} {v : Value} {xs : List Value} (r : Res) (h : fz (fun g => RdRow g sz v n xs) r) : ∃ a c, v = .slice a n c := by
  unfold fz at h
  obtain ⟨_, a, c, h2, _⟩ := h
  exact ⟨a, c, h2⟩
theorem shape_rdsl {α : Type} {R : FH → List Value → α → Prop} {sz : Nat} {v : Value} {els : List α} (r : Res) (h : fz (fun g => RdSl R sz g v els) r) : ∃ a c, v = .slice a els.length c := by unfold fz at h; exact RdSl.shape h
/-- Where a row stands that has a cell. -/
theorem row_some {sz n c : Nat} {a : Option Addr} {xs : List Value} (h0 : 0 < n) (r : Res) (h : fz (fun g => RdRow g sz (.slice a n c) n xs) r) : ∃ b o, a = some ⟨b, o, none⟩ := by
  unfold fz at h
  obtain ⟨_, a', c', h2, h3⟩ := h
  simp only [Value.slice.injEq, true_and] at h2
  obtain ⟨rfl, rfl⟩ := h2
  rcases h3 with h3 | ⟨b, o, h3, _⟩
  · omega
  · exact ⟨b, o, h3⟩

theorem fzrow_sees {l : List HP} {F : Res} {w : World} {sz n b o c : Nat} {xs : List Value} (h : Holds (fz (fun g => RdRow g sz (.slice (some ⟨b, o, none⟩) n c) n xs) :: l) F w) (j : Nat) (v : Value) (hj : xs[j]? = some v) : w.cell? ⟨b, o + j, none⟩ = some v := by
  obtain ⟨g, ⟨hl, a', c', h2, h3⟩, hw⟩ := h.fz_sees
  simp only [Value.slice.injEq, true_and] at h2
  obtain ⟨rfl, rfl⟩ := h2
  rcases h3 with h3 | ⟨b', o', h3, arr, t, fr, hb, hc⟩
  · have := (List.getElem?_eq_some_iff.1 hj).1
    rw [hl, h3] at this
    simp at this
  · simp only [Option.some.injEq, Addr.mk.injEq, and_true] at h3
    obtain ⟨rfl, rfl⟩ := h3
    unfold World.cell?
    simp [hw _ _ hb, hc j v hj]
theorem Lds.fz1 {l : List HP} {ty : TypeId} {n b o c i : Nat} {xs : List Value} {v : Value} [ha : AG P ty false] (hx : xs[i]? = some v) :
    Lds P (fz (fun g => RdRow g 1 (.slice (some ⟨b, o, none⟩) n c) n xs) :: l) ⟨b, o + i * 1, none⟩ ty v := by
  unfold Lds
  intro F w hl
  have := fzrow_sees hl i v hx
  simp [Instr.loadAt, Instr.sureAddr, loadVar, ha.run, this]
theorem Lds.fzN {l : List HP} {ty : TypeId} {sz n b o c i : Nat} {xs pre cs post : List Value} [ha : AG P ty true] [hz : SZ P ty sz] (hx : xs = pre ++ (cs ++ post)) (hp : pre.length = i * sz) (hc : cs.length = sz) :
    Lds P (fz (fun g => RdRow g sz (.slice (some ⟨b, o, none⟩) n c) n xs) :: l) ⟨b, o + i * sz, none⟩ ty (.agg cs.toArray) := by
  unfold Lds
  intro F w hl
  subst hx
  have := run_loadCells_list (P := P) w ⟨b, o + i * sz, none⟩ cs (fun j v hj => by
    rw [addr_add, Nat.add_assoc]
    refine fzrow_sees hl _ v ?_
    rw [List.getElem?_append_right (by omega), hp, Nat.add_sub_cancel_left, List.getElem?_append_left (List.getElem?_eq_some_iff.1 hj).1]
    exact hj)
  rw [hc] at this
  simp [Instr.loadAt, Instr.sureAddr, loadVar, ha.run, hz.run, this]
theorem bytesC_at {bs : List UInt8} {i : Nat} {b : UInt8} (h : bs[i]? = some b) : (bytesC bs)[i]? = some (.int .u8 b.toNat) := by simp [bytesC, u8c, h]
theorem intsC_at {ps : List Int} {i : Nat} {n : Int} (h : ps[i]? = some n) : (ps.map vi)[i]? = some (vi n) := by simp [h]
theorem boolsC_at {ps : List Bool} {i : Nat} {n : Bool} (h : ps[i]? = some n) : (ps.map vb)[i]? = some (vb n) := by simp [h]
end
end Go.Proofs.YtccgdnocldmjeaaDoor
