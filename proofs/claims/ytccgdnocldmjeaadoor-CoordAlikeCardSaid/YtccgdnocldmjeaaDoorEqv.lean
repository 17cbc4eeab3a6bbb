/- When two structs or arrays are one: cells that are compared one by one. Nothing of any program stands here. -/
import Derived.Test.YtccgdnocldmjeaaDoorK
import Derived.DeepKeys
import Derived.Laws.Strings
namespace Go.Proofs.YtccgdnocldmjeaaDoor
open Go
set_option maxHeartbeats 4000000
set_option linter.unusedSimpArgs false
set_option linter.unusedVariables false

/-- Kinds of cells that can be compared. -/
inductive CK where
  | i (k : IntKind)
  | b
  | s
  deriving DecidableEq
def okc : CK → Value → Bool
  | .i k, .int k' _ => decide (k' = k)
  | .b, .bool _ => true
  | .s, .string _ => true
  | _, _ => false
def oks : List CK → List Value → Bool
  | [], [] => true
  | c :: cs, v :: vs => okc c v && oks cs vs
  | _, _ => false
theorem oks_len : ∀ {ks : List CK} {xs : List Value}, oks ks xs = true → xs.length = ks.length
  | [], [], _ => rfl
  | [], _ :: _, h => by simp [oks] at h
  | _ :: _, [], h => by simp [oks] at h
  | c :: cs, v :: vs, h => by
    simp only [oks, Bool.and_eq_true] at h
    simp [oks_len h.2]
theorem oks_append : ∀ {k1 k2 : List CK} {xs ys : List Value}, oks k1 xs = true → oks k2 ys = true → oks (k1 ++ k2) (xs ++ ys) = true
  | [], _, [], _, _, h => h
  | [], _, _ :: _, _, h, _ => by simp [oks] at h
  | _ :: _, _, [], _, h, _ => by simp [oks] at h
  | c :: cs, k2, v :: vs, ys, h, h2 => by
    simp only [oks, Bool.and_eq_true] at h
    simp only [List.cons_append, oks, Bool.and_eq_true]
    exact ⟨h.1, oks_append h.2 h2⟩
theorem oks_split : ∀ {k1 k2 : List CK} {xs : List Value}, oks (k1 ++ k2) xs = true → oks k1 (xs.take k1.length) = true ∧ oks k2 (xs.drop k1.length) = true
  | [], _, _, h => ⟨by simp [oks], by simpa using h⟩
  | _ :: _, _, [], h => by simp [oks] at h
  | c :: cs, k2, v :: vs, h => by
    simp only [List.cons_append, oks, Bool.and_eq_true] at h
    obtain ⟨h1, h2⟩ := oks_split h.2
    simp only [List.length_cons, List.take_succ_cons, oks, Bool.and_eq_true, List.drop_succ_cons]
    exact ⟨⟨h.1, h1⟩, h2⟩

def cksF (f : TypeId → Option (List CK)) : List Field → Nat → Option (List CK)
  | [], _ => some []
  | g :: fs, o => if g.name != "_" && g.offset == o then (f g.type).bind fun k => (cksF f fs (o + k.length)).map (k ++ ·) else none
/-- The cells' kinds of a type that can be compared. -/
def cks (P : Program) : Nat → TypeId → Option (List CK)
  | 0, _ => none
  | d + 1, t => match P.underlying t with
    | some .bool => if aggOf P t = some false then some [.b] else none
    | some (.int k) => if aggOf P t = some false then some [.i k] else none
    | some .string => if aggOf P t = some false then some [.s] else none
    | some (.struct fs) => if aggOf P t = some true && !P.stoodInHeld t then (cksF (cks P d) fs.toList 0).bind fun ks => if (P.info? t).map (·.size) = some ks.length then some ks else none else none
    | some (.array n e) => if aggOf P t = some true then (cks P d e).bind fun k => if (P.info? e).map (·.size) = some k.length && P.cellsOf e == k.length && (P.info? t).map (·.size) = some (n * k.length) then some (List.replicate n k).flatten else none else none
    | _ => none

def valOf (ag : Bool) (xs : List Value) : Value := if ag then .agg xs.toArray else xs.headD (.bool false)
def EqvAt (P : Program) (d : Nat) (t : TypeId) (ks : List CK) : Prop :=
  ∃ ag, aggOf P t = some ag ∧ (ag = true → (P.info? t).map (·.size) = some ks.length) ∧ (ag = false → ks.length = 1) ∧
    ∀ w xs ys, oks ks xs = true → oks ks ys = true → ∃ r : Bool, (Op.equalIn d t (valOf ag xs) (valOf ag ys)).run P w = .ok r w ∧ (r = true ↔ xs = ys)

section
variable {P : Program}
theorem part_eqv {d : Nat} {t : TypeId} {ks : List CK} (h : EqvAt P d t ks) {w : World} {xs : List Value} {off : Nat} (hx : oks ks ((xs.drop off).take ks.length) = true) :
    ∃ ag, aggOf P t = some ag ∧ (part t xs.toArray off).run P w = .ok (valOf ag ((xs.drop off).take ks.length)) w := by
  obtain ⟨ag, h1, h2, h3, _⟩ := h
  refine ⟨ag, h1, ?_⟩
  have hl := oks_len hx
  cases ag with
  | true =>
    have hz := h2 rfl
    have ha : AG P t true := ⟨h1⟩
    have hs : SZ P t ks.length := ⟨hz⟩
    simp [part, ha.run, hs.run, valOf, List.extract_eq_take_drop]
  | false =>
    have hk := h3 rfl
    have ha : AG P t false := ⟨h1⟩
    rw [hk] at hl ⊢
    obtain ⟨v, hv⟩ : ∃ v, xs[off]? = some v := by
      have : off < xs.length := by simp at hl; omega
      exact ⟨_, List.getElem?_eq_getElem this⟩
    have hd : (xs.drop off).take 1 = [v] := by
      rw [List.take_one, List.head?_drop, hv]
      rfl
    rw [hd]
    simp [part, ha.run, valOf, hv]
theorem eqStep {d : Nat} {t : TypeId} {ks : List CK} (h : EqvAt P d t ks) {w : World} {xs ys : List Value} {off : Nat} (hx : oks ks ((xs.drop off).take ks.length) = true) (hy : oks ks ((ys.drop off).take ks.length) = true) :
    ∃ a b r, (part t xs.toArray off).run P w = .ok a w ∧ (part t ys.toArray off).run P w = .ok b w ∧ (Op.equalIn d t a b).run P w = .ok r w ∧ (r = true ↔ (xs.drop off).take ks.length = (ys.drop off).take ks.length) := by
  obtain ⟨ag, h1, h2⟩ := part_eqv h (w := w) hx
  obtain ⟨ag', h1', h2'⟩ := part_eqv h (w := w) hy
  obtain ⟨ag2, g1, _, _, g2⟩ := h
  obtain rfl : ag2 = ag := Option.some.inj (g1.symm.trans h1)
  obtain rfl : ag2 = ag' := Option.some.inj (g1.symm.trans h1')
  obtain ⟨r, hr, hiff⟩ := g2 w _ _ hx hy
  exact ⟨_, _, r, h2, h2', hr, hiff⟩
theorem eqFields_ok {d : Nat} (hall : ∀ t ks, cks P d t = some ks → EqvAt P (10000 - 12 + d) t ks) (w : World) : ∀ (fs : List Field) (o : Nat) (ks : List CK), cksF (cks P d) fs o = some ks → ∀ xs ys : List Value, oks ks (xs.drop o) = true → oks ks (ys.drop o) = true →
    ∃ r : Bool, (Op.eqFields (10000 - 12 + d) xs.toArray ys.toArray fs).run P w = .ok r w ∧ (r = true ↔ xs.drop o = ys.drop o)
  | [], o, ks, h, xs, ys, hx, hy => by
    simp only [cksF, Option.some.injEq] at h
    subst h
    have h1 := oks_len hx
    have h2 := oks_len hy
    have e1 : xs.drop o = [] := List.eq_nil_of_length_eq_zero h1
    have e2 : ys.drop o = [] := List.eq_nil_of_length_eq_zero h2
    exact ⟨true, by simp [Op.eqFields], by simp [e1, e2]⟩
  | g :: fs, o, ks, h, xs, ys, hx, hy => by
    simp only [cksF] at h
    split at h
    · rename_i hg
      simp only [Bool.and_eq_true, bne_iff_ne, ne_eq, beq_iff_eq] at hg
      obtain ⟨hn, ho⟩ := hg
      simp only [Option.bind_eq_some_iff, Option.map_eq_some_iff] at h
      obtain ⟨k, hk, k2, hk2, rfl⟩ := h
      obtain ⟨x1, x2⟩ := oks_split hx
      obtain ⟨y1, y2⟩ := oks_split hy
      obtain ⟨a, b, r, p1, p2, p3, hiff⟩ := eqStep (hall _ _ hk) (w := w) x1 y1
      obtain ⟨r', hr', hiff'⟩ := eqFields_ok hall w fs (o + k.length) k2 hk2 xs ys (by rw [← List.drop_drop]; exact x2) (by rw [← List.drop_drop]; exact y2)
      rw [← ho] at p1 p2
      have hsplit : (xs.drop o = ys.drop o) ↔ ((xs.drop o).take k.length = (ys.drop o).take k.length ∧ xs.drop (o + k.length) = ys.drop (o + k.length)) := by
        constructor
        · intro e
          rw [e, ← List.drop_drop, e, List.drop_drop]
          exact ⟨rfl, rfl⟩
        · rintro ⟨e1, e2⟩
          rw [← List.take_append_drop k.length (xs.drop o), ← List.take_append_drop k.length (ys.drop o), e1, List.drop_drop, List.drop_drop, e2]
      simp only [Op.eqFields, hn, ne_eq, not_false_eq_true, if_true, Sem.run_bind, p1, p2, p3, Result.andThen_ok]
      rw [hsplit]
      cases r
      · exact ⟨false, by simp, by simp; intro e; exact absurd (hiff.2 e) (by simp)⟩
      · refine ⟨r', by simpa using hr', ?_⟩
        rw [hiff']
        simp [hiff.1 rfl]
    · cases h
theorem eqItems_ok {dd : Nat} {e : TypeId} {k : List CK} (IH : EqvAt P dd e k) (w : World) (xs ys : List Value) : ∀ (is : List Nat), (∀ i ∈ is, oks k ((xs.drop (i * k.length)).take k.length) = true ∧ oks k ((ys.drop (i * k.length)).take k.length) = true) →
    ∃ r : Bool, (Op.eqItems dd e k.length xs.toArray ys.toArray is).run P w = .ok r w ∧ (r = true ↔ ∀ i ∈ is, (xs.drop (i * k.length)).take k.length = (ys.drop (i * k.length)).take k.length)
  | [], _ => ⟨true, by simp [Op.eqItems], by simp⟩
  | i :: is, h => by
    obtain ⟨x1, y1⟩ := h i (by simp)
    obtain ⟨a, b, r, p1, p2, p3, hiff⟩ := eqStep IH (w := w) x1 y1
    obtain ⟨r', hr', hiff'⟩ := eqItems_ok IH w xs ys is fun j hj => h j (by simp [hj])
    simp only [Op.eqItems, Sem.run_bind, p1, p2, p3, Result.andThen_ok, List.forall_mem_cons]
    cases r
    · exact ⟨false, by simp, by simp; intro e; exact absurd (hiff.2 e) (by simp)⟩
    · refine ⟨r', by simpa using hr', ?_⟩
      rw [hiff']
      simp [hiff.1 rfl]
theorem oks_rep {k : List CK} : ∀ {n : Nat} {xs : List Value}, oks (List.replicate n k).flatten xs = true → ∀ i < n, oks k ((xs.drop (i * k.length)).take k.length) = true
  | 0, _, _, i, hi => by omega
  | n + 1, xs, h, i, hi => by
    rw [List.replicate_succ, List.flatten_cons] at h
    obtain ⟨h1, h2⟩ := oks_split h
    cases i with
    | zero => simpa using h1
    | succ i =>
      have := oks_rep h2 i (by omega)
      rw [List.drop_drop] at this
      rwa [show k.length + i * k.length = (i + 1) * k.length by rw [Nat.add_mul]; omega] at this
theorem ext_rep {m : Nat} : ∀ {n : Nat} {xs ys : List Value}, xs.length = n * m → ys.length = n * m → ((∀ i ∈ List.range n, (xs.drop (i * m)).take m = (ys.drop (i * m)).take m) ↔ xs = ys)
  | n, xs, ys, hx, hy => by
    constructor
    · intro h
      have key : ∀ j, j ≤ n → xs.take (j * m) = ys.take (j * m) := by
        intro j
        induction j with
        | zero => simp
        | succ j ih =>
          intro hj
          rw [Nat.add_mul, Nat.one_mul, List.take_add, List.take_add, ih (by omega), h j (by simp; omega)]
      have := key n (Nat.le_refl _)
      rwa [List.take_of_length_le (by omega), List.take_of_length_le (by omega)] at this
    · rintro rfl _ _
      rfl

theorem cks_ok : ∀ (d : Nat) (t : TypeId) (ks : List CK), cks P d t = some ks → EqvAt P (10000 - 12 + d) t ks
  | 0, _, _, h => by simp [cks] at h
  | d + 1, t, ks, h => by
    unfold cks at h
    split at h
    · rename_i hu
      split at h
      · rename_i ha
        cases h
        refine ⟨false, ha, by simp, by simp, fun w xs ys hx hy => ?_⟩
        obtain ⟨v, rfl⟩ := List.length_eq_one_iff.1 (oks_len hx)
        obtain ⟨u, rfl⟩ := List.length_eq_one_iff.1 (oks_len hy)
        simp only [oks, Bool.and_true] at hx hy
        cases v <;> simp [okc] at hx
        cases u <;> simp [okc] at hy
        exact ⟨_, run_equalIn_bool' w _ t _ _ hu, by simp⟩
      · cases h
    · rename_i k hu
      split at h
      · rename_i ha
        cases h
        refine ⟨false, ha, by simp, by simp, fun w xs ys hx hy => ?_⟩
        obtain ⟨v, rfl⟩ := List.length_eq_one_iff.1 (oks_len hx)
        obtain ⟨u, rfl⟩ := List.length_eq_one_iff.1 (oks_len hy)
        simp only [oks, Bool.and_true] at hx hy
        cases v <;> simp [okc] at hx
        cases u <;> simp [okc] at hy
        subst hx
        subst hy
        exact ⟨_, run_equalIn_int w _ t _ _ _ _ hu, by simp⟩
      · cases h
    · rename_i hu
      split at h
      · rename_i ha
        cases h
        refine ⟨false, ha, by simp, by simp, fun w xs ys hx hy => ?_⟩
        obtain ⟨v, rfl⟩ := List.length_eq_one_iff.1 (oks_len hx)
        obtain ⟨u, rfl⟩ := List.length_eq_one_iff.1 (oks_len hy)
        simp only [oks, Bool.and_true] at hx hy
        cases v <;> simp [okc] at hx
        cases u <;> simp [okc] at hy
        refine ⟨_, run_equalIn_string w _ t _ _ hu, ?_⟩
        rename_i s1 s2
        simp only [beq_iff_eq, List.cons.injEq, Value.string.injEq, and_true]
        constructor
        · intro h
          rw [ByteArray.toList_eq, ByteArray.toList_eq] at h
          exact ByteArray.ext (Array.toList_inj.1 h)
        · rintro rfl
          rfl
      · cases h
    · rename_i fs hu
      split at h
      · rename_i ha
        simp only [Bool.and_eq_true, decide_eq_true_eq, Bool.not_eq_true'] at ha
        obtain ⟨ha, hst⟩ := ha
        simp only [Option.bind_eq_some_iff] at h
        obtain ⟨ks', hks, h⟩ := h
        split at h
        · rename_i hsz
          cases h
          refine ⟨true, ha, fun _ => hsz, by simp, fun w xs ys hx hy => ?_⟩
          have hfs : P.fieldsOf t = fs := by simp [Program.fieldsOf, hu]
          obtain ⟨r, hr, hiff⟩ := eqFields_ok (fun t ks h => cks_ok d t ks h) w fs.toList 0 ks hks xs ys (by simpa using hx) (by simpa using hy)
          refine ⟨r, ?_, by simpa using hiff⟩
          simp only [valOf, if_true]
          rw [show 10000 - 12 + (d + 1) = (10000 - 12 + d) + 1 from rfl, run_equalIn_struct w _ t _ _ (by rw [hfs]; exact hu) hst, hfs]
          exact hr
        · cases h
      · cases h
    · rename_i n e hu
      split at h
      · rename_i ha
        simp only [Option.bind_eq_some_iff] at h
        obtain ⟨k, hk, h⟩ := h
        split at h
        · rename_i hc
          simp only [Bool.and_eq_true, decide_eq_true_eq, beq_iff_eq] at hc
          obtain ⟨⟨hse, hce⟩, hst⟩ := hc
          cases h
          have hlen : (List.replicate n k).flatten.length = n * k.length := by simp
          refine ⟨true, ha, fun _ => by rw [hlen]; exact hst, by simp, fun w xs ys hx hy => ?_⟩
          obtain ⟨r, hr, hiff⟩ := eqItems_ok (cks_ok d e k hk) w xs ys (List.range n) (fun i hi => ⟨oks_rep hx i (by simpa using hi), oks_rep hy i (by simpa using hi)⟩)
          obtain ⟨inf, hinf, _⟩ := Option.map_eq_some_iff.1 hse
          refine ⟨r, ?_, by rw [hiff]; exact ext_rep (by rw [oks_len hx, hlen]) (by rw [oks_len hy, hlen])⟩
          simp only [valOf, if_true]
          rw [show 10000 - 12 + (d + 1) = (10000 - 12 + d) + 1 from rfl, run_equalIn_array w _ _ _ hu hinf, hce]
          exact hr
        · cases h
      · cases h
    · cases h

/-- A type whose values can be compared, by the kinds of their cells. -/
class CKS (P : Program) (t : TypeId) (ks : outParam (List CK)) : Prop where
  pf : cks P 12 t = some ks
  gd : P.eqGuardType P.depth t = false
  ag : aggOf P t = some true
theorem CKS.run {t : TypeId} {ks : List CK} (h : CKS P t ks) {xs ys : List Value} (hx : oks ks xs = true) (hy : oks ks ys = true) (w : World) : ∃ r : Bool, (Op.equalIn 10000 t (.agg xs.toArray) (.agg ys.toArray)).run P w = .ok r w ∧ (r = true ↔ xs = ys) := by
  obtain ⟨ag, h1, _, _, h2⟩ := cks_ok 12 t ks h.pf
  obtain rfl : ag = true := Option.some.inj (h1.symm.trans h.ag)
  exact h2 w xs ys hx hy
open Classical in
theorem CKS.dec {t : TypeId} {ks : List CK} (h : CKS P t ks) {xs ys : List Value} (hx : oks ks xs = true) (hy : oks ks ys = true) (w : World) : (Op.equalIn 10000 t (.agg xs.toArray) (.agg ys.toArray)).run P w = .ok (decide (xs = ys)) w := by
  obtain ⟨r, hr, hiff⟩ := h.run hx hy w
  rw [hr]
  congr 1
  rw [Bool.eq_iff_iff, hiff]
  simp
open Classical in
theorem Rdo.eqagg {e : Env} {C : List HP} {x y : Operand} {t u ty : TypeId} {ks : List CK} {xs ys : List Value} [h : CKS P t ks] (hx : evl e x = some (.agg xs.toArray)) (hy : evl e y = some (.agg ys.toArray)) (h1 : oks ks xs = true) (h2 : oks ks ys = true) :
    Rdo P e C (.binOp .eql t x y u) ty (.bool (decide (xs = ys))) := by
  unfold Rdo
  intro G w a n dst pos after g hG he
  simp [execOp, he.eval hx, he.eval hy, run_eqGuard_agg w _ _ _ _ _ _ h.gd, run_eql_struct, h.dec h1 h2 w]
open Classical in
theorem Rdo.neagg {e : Env} {C : List HP} {x y : Operand} {t u ty : TypeId} {ks : List CK} {xs ys : List Value} [h : CKS P t ks] (hx : evl e x = some (.agg xs.toArray)) (hy : evl e y = some (.agg ys.toArray)) (h1 : oks ks xs = true) (h2 : oks ks ys = true) :
    Rdo P e C (.binOp .neq t x y u) ty (.bool (!decide (xs = ys))) := by
  unfold Rdo
  intro G w a n dst pos after g hG he
  have hb : (binOp .neq t (.agg xs.toArray) (.agg ys.toArray)).run P w = .ok (.bool (!decide (xs = ys))) w := by
    simp [binOp, Op.equal, Op.maxDepth, h.dec h1 h2 w]
  simp [execOp, he.eval hx, he.eval hy, run_eqGuard_agg w _ _ _ _ _ _ h.gd, hb]
end
end Go.Proofs.YtccgdnocldmjeaaDoor
