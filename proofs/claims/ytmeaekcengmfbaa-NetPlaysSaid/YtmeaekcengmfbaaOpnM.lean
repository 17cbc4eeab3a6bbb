/- What came in: digests, votes, messages. -/
import Derived.Test.YtmeaekcengmfbaaMsg
import Derived.Test.YtmeaekcengmfbaaFrz
import Derived.Test.YtmeaekcengmfbaaTop
namespace Go.Proofs.Ytmeaekcengmfbaa
open Go
set_option maxHeartbeats 4000000
set_option linter.unusedSimpArgs false
set_option linter.unusedVariables false
set_option maxRecDepth 20000

section
variable {P : Program} {t e : TypeId}
theorem Opn.array {n sz : Nat} {α : Type} {R : FH → List Value → α → Prop} (hu : P.underlying t = some (.array n e)) (hc : P.cellsOf e = sz) (ht : P.cellsOf t = n * sz) (he : Opn P e sz R) :
    Opn P t (n * sz) (fun g cs (els : List α) => els.length = n ∧ ∃ css, cs = css.flatten ∧ All2 (R g) css els) := fun H enc w base spare held fuel cs x hx hwt => by
  cases fuel with
  | zero => simp [DataW.trod] at hx
  | succ m =>
    unfold DataW.trod at hx
    rw [hu] at hx
    simp only at hx
    split at hx
    · rename_i hl
      rw [Option.map_eq_some_iff] at hx
      obtain ⟨xs, hxs, rfl⟩ := hx
      simp only [DataW.weights, hu] at hwt
      rw [ht] at hl
      rw [hc] at hxs
      refine ⟨hl, ?_⟩
      have key : ∀ (k : Nat) (is : List Nat) (ys : List (DataW H × List MemPlace)), is = List.range' k is.length → is.mapM (fun i => DataW.trod enc P w base spare held m e ((cs.drop (i * sz)).take sz)) = some ys → (∀ y ∈ ys, ∀ q ∈ DataW.weights P e y.1, q ≤ reachBytes) → (k + is.length) * sz ≤ cs.length →
          ∃ (css : List (List Value)) (els : List α), els.length = is.length ∧ css.flatten = (cs.drop (k * sz)).take (is.length * sz) ∧ All2 (R fun b => w.heap[b]?) css els := by
        intro k is
        induction is generalizing k with
        | nil => intro ys _ _ _ _; exact ⟨[], [], rfl, by simp, .nil⟩
        | cons i is ih =>
          intro ys hr hm hyw hlen
          rw [List.length_cons, List.range'_succ] at hr
          obtain ⟨rfl, hr2⟩ := List.cons.inj hr
          simp only [List.mapM_cons, Option.pure_def, Option.bind_eq_bind, Option.bind_eq_some_iff, Option.some.injEq] at hm
          obtain ⟨y, hy, ys', hys, rfl⟩ := hm
          obtain ⟨h1, a, h2⟩ := he H enc w base spare held m _ _ hy (hyw y (by simp))
          obtain ⟨css, els, h3, h4, h5⟩ := ih (i + 1) ys' hr2 hys (fun z hz => hyw z (by simp [hz])) (by simp only [List.length_cons] at hlen; rw [show i + 1 + is.length = i + (is.length + 1) by omega]; exact hlen)
          refine ⟨_ :: css, a :: els, by simp [h3], ?_, .cons h2 h5⟩
          rw [List.flatten_cons, h4, List.length_cons, Nat.add_mul (is.length) 1 sz, Nat.one_mul, Nat.add_comm (is.length * sz) sz, List.take_add, List.drop_drop]
          rw [Nat.add_mul, Nat.one_mul]
      obtain ⟨css, els, h3, h4, h5⟩ := key 0 (List.range n) xs (by rw [List.range_eq_range', List.length_range']) hxs (fun y hy q hq => hwt q (weightsAll_mem (List.mem_map.2 ⟨y, hy, rfl⟩) hq)) (by simp; omega)
      refine ⟨els, by simpa using h3, css, ?_, h5⟩
      rw [h4]
      simp only [Nat.zero_mul, List.drop_zero, List.length_range]
      rw [List.take_of_length_le (by omega)]
    · cases hx

theorem Opn.hash (hu : P.underlying t = some (.array 32 e)) (he : P.underlying e = some (.int .u8)) (h1 : P.cellsOf e = 1) (ht : P.cellsOf t = 32) : Opn P t 32 (fun _ cs (h : Hash) => cs = hc h) := by
  have h0 := Opn.array (n := 32) (sz := 1) hu h1 (by rw [ht]) (Opn.int he)
  intro H enc w base spare held fuel cs x hx hwt
  obtain ⟨hl, els, h1', css, h2, h3⟩ := h0 H enc w base spare held fuel cs x hx hwt
  refine ⟨hl, ⟨els.map fun z => UInt8.ofNat z.toNat, by simp [h1']⟩, ?_⟩
  rw [h2]
  unfold Go.Proofs.Ytmeaekcengmfbaa.hc
  simp only
  clear h2 h1' hl hx hwt
  induction h3 with
  | nil => rfl
  | cons h _ ih =>
    obtain ⟨rfl, hw⟩ := h
    have hb := bounds_u8 hw
    rw [List.flatten_cons, ih]
    simp only [bytesC, List.map_cons, List.cons_append, List.nil_append, u8c, List.cons.injEq, Value.int.injEq, true_and, and_true, UInt8.toNat_ofNat']
    omega
end

def In64V (v : Vote) : Prop := In64 v.kind ∧ In64 v.slot ∧ In64 v.view ∧ In64 v.from_
abbrev RVote (_ : FH) (cs : List Value) (v : Vote) : Prop := cs = voteC v ∧ In64V v
theorem opnInt : Opn Try.prog 3 1 (fun _ cs (n : Int) => cs = [vi n] ∧ In64 n) := Opn.map id (Opn.int (k := .i64) (by kernel_rfl)) fun g cs a h => ⟨h.1, in64_of h.2⟩
theorem opnHash : Opn Try.prog 28 32 (fun _ cs (h : Hash) => cs = hc h) := Opn.hash (e := 5) (by kernel_rfl) (by kernel_rfl) (by kernel_rfl) (by kernel_rfl)
theorem opnVote : Opn Try.prog 48 68 RVote := by
  refine Opn.map (fun x => ⟨x.1, x.2.1, x.2.2.1, x.2.2.2.1, x.2.2.2.2.1, x.2.2.2.2.2.1⟩) (Opn.struct (by kernel_rfl)
    (OpnF.cons (k := 0) opnInt (OpnF.cons (k := 1) opnInt (OpnF.cons (k := 2) opnInt (OpnF.cons (k := 3) opnHash (OpnF.cons (k := 4) opnInt (OpnF.cons (k := 5) opnHash (OpnF.nil (k := 6) (by kernel_rfl))))))))) ?_
  rintro g cs ⟨a1, a2, a3, a4, a5, a6, _⟩ ⟨c1, d1, rfl, _, ⟨rfl, h1⟩, c2, d2, rfl, _, ⟨rfl, h2⟩, c3, d3, rfl, _, ⟨rfl, h3⟩, c4, d4, rfl, _, rfl, c5, d5, rfl, _, ⟨rfl, h5⟩, c6, d6, rfl, _, rfl, rfl⟩
  exact ⟨by simp [voteC], h1, h2, h3, h5⟩
theorem opnVotes : Opn Try.prog 26 1 (fun g cs (vs : List Vote) => ∃ v, cs = [v] ∧ RdVotes g v vs ∧ (∀ x ∈ vs, In64V x) ∧ vs.length * 96 ≤ reachBytes) := by
  refine Opn.map id (Opn.slice (e := 48) (by kernel_rfl) (by kernel_rfl) (by omega) (by_ := 96) (by kernel_rfl) opnVote) ?_
  rintro g cs els ⟨v, rfl, h, h4⟩
  exact ⟨v, rfl, RdSl.to_row (c := voteC) (fun g x a h => h.1) h, RdSl.facts (fun g x a h => h.2) h, h4⟩
theorem opnBytes : Opn Try.prog 25 1 RBytes := Opn.bytes (e := 5) (by kernel_rfl) (by kernel_rfl) (by kernel_rfl) (by kernel_rfl)
abbrev RMsg (g : FH) (cs : List Value) (m : Msg) : Prop := ∃ x, cs = msgCs m x ∧ RdMsg g cs m ∧ m.value.length ≤ reachBytes ∧ m.votes.length * 96 ≤ reachBytes ∧ (In64 m.kind ∧ In64 m.from_ ∧ In64 m.to ∧ In64 m.slot ∧ In64 m.view) ∧ ∀ v ∈ m.votes, In64V v
theorem opnMsg : Opn Try.prog 30 39 RMsg := by
  refine Opn.map (fun x => ⟨x.1, x.2.1, x.2.2.1, x.2.2.2.1, x.2.2.2.2.1, x.2.2.2.2.2.1, x.2.2.2.2.2.2.1, x.2.2.2.2.2.2.2.1⟩) (Opn.struct (by kernel_rfl)
    (OpnF.cons (k := 0) opnInt (OpnF.cons (k := 1) opnInt (OpnF.cons (k := 2) opnInt (OpnF.cons (k := 3) opnInt (OpnF.cons (k := 4) opnInt (OpnF.cons (k := 5) opnBytes (OpnF.cons (k := 6) opnVotes (OpnF.cons (k := 7) opnHash (OpnF.nil (k := 8) (by kernel_rfl))))))))))) ?_
  rintro g cs ⟨a1, a2, a3, a4, a5, a6, a7, a8, _⟩ ⟨c1, d1, rfl, _, ⟨rfl, h1⟩, c2, d2, rfl, _, ⟨rfl, h2⟩, c3, d3, rfl, _, ⟨rfl, h3⟩, c4, d4, rfl, _, ⟨rfl, h4⟩, c5, d5, rfl, _, ⟨rfl, h5⟩, c6, d6, rfl, _, ⟨v6, rfl, h6, l6⟩, c7, d7, rfl, _, ⟨v7, rfl, h7, b7, l7⟩, c8, d8, rfl, _, rfl, rfl⟩
  obtain ⟨p, c, rfl⟩ := h6.shape
  obtain ⟨p', c', rfl⟩ := h7.shape
  exact ⟨((p, c), (p', c')), by simp [msgC], ⟨_, _, by simp [msgC], h6, h7⟩, l6, l7, ⟨h1, h2, h3, h4, h5⟩, b7⟩
end Go.Proofs.Ytmeaekcengmfbaa
