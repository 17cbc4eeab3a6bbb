/- What came in: cells of a type, as the statement's frame gives them, read as data in frozen memory. Nothing of any program stands here. -/
import Derived.Test.YtccgdnocldmjeaaDoorByt
import Derived.OpenShut
import Derived.ChangeSlices
import Derived.DataElems
import Derived.Handed
namespace Go.Proofs.YtccgdnocldmjeaaDoor
open Go
set_option maxHeartbeats 4000000
set_option linter.unusedSimpArgs false
set_option linter.unusedVariables false

/-- Cells of a type, wherever they stand, read as data. -/
def Opn (P : Program) (t : TypeId) (sz : Nat) {α : Type} (R : FH → List Value → α → Prop) : Prop :=
  ∀ (H : Type) (enc : TypeId × Value → H) (w : World) (base : Nat) (spare : Nat → Bool) (held : Bool) (fuel : Nat) (cs : List Value) (x : DataW H × List MemPlace), DataW.trod enc P w base spare held fuel t cs = some x → (∀ q ∈ DataW.weights P t x.1, q ≤ reachBytes) → cs.length = sz ∧ ∃ a, R (fun b => w.heap[b]?) cs a

section
variable {P : Program} {t e : TypeId}
theorem Opn.map {sz : Nat} {α β : Type} {R : FH → List Value → α → Prop} {R' : FH → List Value → β → Prop} (f : α → β) (h : Opn P t sz R) (hf : ∀ g cs a, R g cs a → R' g cs (f a)) : Opn P t sz R' := fun H enc w base spare held fuel cs x hx hw => by
  obtain ⟨hl, a, ha⟩ := h H enc w base spare held fuel cs x hx hw
  exact ⟨hl, f a, hf _ _ _ ha⟩
theorem Opn.int {k : IntKind} (hu : P.underlying t = some (.int k)) : Opn P t 1 (fun _ cs (n : Int) => cs = [.int k n] ∧ (Lit.int k n).wf = true) := fun H enc w base spare held fuel cs x hx _ => by
  obtain ⟨n, rfl, _, hw⟩ := DataW.trod_int hu hx
  exact ⟨rfl, n, rfl, hw⟩
theorem Opn.bool (hu : P.underlying t = some .bool) : Opn P t 1 (fun _ cs (b : Bool) => cs = [.bool b]) := fun H enc w base spare held fuel cs x hx _ => by
  obtain ⟨b, rfl, _⟩ := DataW.trod_bool hu hx
  exact ⟨rfl, b, rfl⟩
theorem Opn.string (hu : P.underlying t = some .string) : Opn P t 1 (fun _ cs (s : List UInt8) => cs = [vs s] ∧ s.length ≤ reachBytes) := fun H enc w base spare held fuel cs x hx hwt => by
  obtain ⟨s, rfl, rfl, hw⟩ := DataW.trod_string hu hx
  obtain ⟨l, rfl⟩ := str_bytes s
  exact ⟨rfl, l, rfl, hwt _ (by simp [DataW.weights])⟩

theorem cells_of {w : World} {base : Nat} {a : Addr} {n : Nat} {cs : List Value} (h : w.cells? base a n = some cs) : cs.length = n ∧ ∀ j v, cs[j]? = some v → w.cell? (a.add j) = some v := by
  unfold World.cells? at h
  split at h
  · have key : ∀ (l : List Nat) (r : List Value), l.mapM (fun i => w.cell? (a.add i)) = some r → r.length = l.length ∧ ∀ (j : Nat) v, r[j]? = some v → ∃ i, l[j]? = some i ∧ w.cell? (a.add i) = some v := by
      intro l
      induction l with
      | nil =>
        intro r hr
        simp at hr
        subst hr
        exact ⟨rfl, by simp⟩
      | cons i l ih =>
        intro r hr
        simp only [List.mapM_cons, Option.pure_def, Option.bind_eq_bind, Option.bind_eq_some_iff, Option.some.injEq] at hr
        obtain ⟨v, hv, r', hr', rfl⟩ := hr
        obtain ⟨h1, h2⟩ := ih r' hr'
        refine ⟨by simp [h1], fun j u hj => ?_⟩
        cases j with
        | zero =>
          simp at hj
          subst hj
          exact ⟨i, rfl, hv⟩
        | succ j =>
          obtain ⟨i', h3, h4⟩ := h2 j u (by simpa using hj)
          exact ⟨i', by simpa using h3, h4⟩
    obtain ⟨h1, h2⟩ := key _ _ h
    refine ⟨by simpa using h1, fun j v hj => ?_⟩
    obtain ⟨i, h3, h4⟩ := h2 j v hj
    have hj2 := (List.getElem?_eq_some_iff.1 h3).1
    rw [List.getElem?_eq_getElem hj2] at h3
    simp at h3
    rw [h3]
    exact h4
  · cases h

theorem weightsAll_mem {H : Type} {P : Program} {e : TypeId} {d : DataW H} : ∀ {l : List (DataW H)}, d ∈ l → ∀ {q : Nat}, q ∈ DataW.weights P e d → q ∈ DataW.weightsAll P e l
  | [], h, _, _ => by cases h
  | x :: l, h, q, hq => by
    simp only [DataW.weightsAll, List.mem_append]
    rcases List.mem_cons.1 h with rfl | h
    · exact .inl hq
    · exact .inr (weightsAll_mem h hq)
theorem weightsEach_mem {H : Type} {P : Program} : ∀ {ts : List TypeId} {ds : List (DataW H)} {i : Nat} {t : TypeId} {d : DataW H}, ts[i]? = some t → ds[i]? = some d → ∀ {q : Nat}, q ∈ DataW.weights P t d → q ∈ DataW.weightsEach P ts ds
  | [], _, i, _, _, h, _, _, _ => by simp at h
  | _ :: _, [], i, _, _, _, h, _, _ => by simp at h
  | t :: ts, d :: ds, 0, _, _, h, h', q, hq => by
    simp at h h'
    subst h h'
    simp only [DataW.weightsEach, List.mem_append]
    exact .inl hq
  | t :: ts, d :: ds, i + 1, _, _, h, h', q, hq => by
    simp only [DataW.weightsEach, List.mem_append]
    exact .inr (weightsEach_mem (i := i) (by simpa using h) (by simpa using h') hq)
theorem Opn.slice {sz : Nat} {α : Type} {R : FH → List Value → α → Prop} (hu : P.underlying t = some (.slice e)) (hc : P.cellsOf e = sz) (hp : 0 < sz) {by_ : Nat} (hby : P.bytesOf e = by_) (he : Opn P e sz R) : Opn P t 1 (fun g cs (els : List α) => ∃ v, cs = [v] ∧ RdSl R sz g v els ∧ els.length * by_ ≤ reachBytes) := fun H enc w base spare held fuel cs x hx hwt => by
  rcases DataW.trod_slice hu hx with ⟨rfl, _⟩ | ⟨a, len, cap, elems, rest, n, _, rfl, rfl, hb, hl, hm, hlen, hel, _, _⟩
  · exact ⟨rfl, [], _, rfl, RdSl.nil none 0, by simp⟩
  · refine ⟨rfl, ?_⟩
    rw [hc] at hel
    simp only [DataW.weights, hu, hby, List.length_map, List.mem_cons, List.mem_append] at hwt
    have hlw : len * by_ ≤ reachBytes := by
      have h1 := hwt _ (.inl rfl)
      rw [hlen, Nat.add_mul] at h1
      omega
    have hew : ∀ (i : Nat) (y : DataW H × List MemPlace), elems[i]? = some y → ∀ q ∈ DataW.weights P e y.1, q ≤ reachBytes := fun i y hy q hq => hwt q (.inr (.inl (weightsAll_mem (d := y.1) (List.mem_map.2 ⟨y, List.mem_of_getElem? hy, rfl⟩) hq)))
    have key : ∀ m, m ≤ len → ∃ (css : List (List Value)) (els : List α), els.length = m ∧ (∀ c ∈ css, c.length = sz) ∧ All2 (R fun b => w.heap[b]?) css els ∧ ∀ j v, css.flatten[j]? = some v → w.cell? (a.add j) = some v := by
      intro m
      induction m with
      | zero => exact fun _ => ⟨[], [], rfl, by simp, .nil, by simp⟩
      | succ m ih =>
        intro hml
        obtain ⟨css, els, h1, h2, h3, h4⟩ := ih (by omega)
        have h5 := hel m (by omega)
        rw [List.getElem?_eq_getElem (by omega), Option.bind_eq_some_iff] at h5
        obtain ⟨c, h6, h7⟩ := h5
        obtain ⟨h8, y, h9⟩ := he H enc w base spare held n c _ h7 (hew m _ (List.getElem?_eq_getElem (by omega)))
        obtain ⟨h10, h11⟩ := cells_of h6
        have hfl := flatten_length h2
        rw [h3.len, h1] at hfl
        refine ⟨css ++ [c], els ++ [y], by simp [h1], ?_, h3.append (.cons h9 .nil), ?_⟩
        · intro d hd
          rcases List.mem_append.1 hd with hd | hd
          · exact h2 d hd
          · rw [List.mem_singleton.1 hd]
            exact h8
        · intro j v hj
          rw [List.flatten_append, List.flatten_cons, List.flatten_nil, List.append_nil] at hj
          by_cases hjl : j < css.flatten.length
          · rw [List.getElem?_append_left hjl] at hj
            exact h4 j v hj
          · rw [List.getElem?_append_right (by omega)] at hj
            have h12 := h11 _ v hj
            rw [Addr.add_add] at h12
            rwa [show m * sz + (j - css.flatten.length) = j by omega] at h12
    obtain ⟨css, els, h1, h2, h3, h4⟩ := key len (Nat.le_refl _)
    have hfl := flatten_length h2
    rw [h3.len, h1] at hfl
    refine ⟨els, _, rfl, ⟨css, ⟨by rw [hfl, h1], some a, cap, by rw [h1], ?_⟩, h2, h3⟩, by rw [h1]; exact hlw⟩
    rcases Nat.eq_zero_or_pos len with h0 | h0
    · exact .inl (by omega)
    right
    have hpos : 0 < css.flatten.length := by rw [hfl]; exact Nat.mul_pos h0 hp
    obtain ⟨arr, ty, fr, b, o, rfl, hbk⟩ : ∃ arr ty fr b o, a = ⟨b, o, none⟩ ∧ w.heap[b]? = some (.cells arr ty fr) := by
      have hc0 := h4 0 _ (List.getElem?_eq_getElem hpos)
      unfold World.cell? at hc0
      split at hc0
      · rename_i arr ty fr hbk
        split at hc0
        · cases hc0
        · rename_i hs
          obtain ⟨b, o, sp⟩ := a
          have hsp : sp = none := by
            cases sp with
            | none => rfl
            | some x => simp [Addr.add] at hs
          subst hsp
          exact ⟨arr, ty, fr, b, o, rfl, by simpa [Addr.add] using hbk⟩
      · cases hc0
    refine ⟨b, o, rfl, arr, ty, fr, hbk, fun j v hj => ?_⟩
    have h5 := h4 j v hj
    rw [addr_add] at h5
    unfold World.cell? at h5
    simp only at h5
    rw [hbk] at h5
    simpa using h5

/-- The fields of a struct from the k-th on, whose cells begin at o. -/
def OpnF (P : Program) (t : TypeId) (k o : Nat) {α : Type} (R : FH → List Value → α → Prop) : Prop :=
  ∀ (fs : Array Field) (H : Type) (enc : TypeId × Value → H) (w : World) (base : Nat) (spare : Nat → Bool) (held : Bool) (fuel : Nat) (cs : List Value) (xs : List (DataW H × List MemPlace)), P.underlying t = some (.struct fs) → cs.length = P.cellsOf t → xs.length = fs.size →
    (∀ (i : Nat) (f : Field), fs[i]? = some f → DataW.trod enc P w base spare held fuel f.type ((cs.drop f.offset).take (P.cellsOf f.type)) = xs[i]?) → (∀ (i : Nat) (f : Field) y, fs[i]? = some f → xs[i]? = some y → ∀ q ∈ DataW.weights P f.type y.1, q ≤ reachBytes) → ∃ a, R (fun b => w.heap[b]?) (cs.drop o) a
theorem OpnF.nil {k o : Nat} (h : P.cellsOf t = o) : OpnF P t k o (fun _ cs (_ : Unit) => cs = []) := fun fs H enc w base spare held fuel cs xs _ hl _ _ _ => ⟨(), List.drop_eq_nil_iff.2 (by omega)⟩
theorem OpnF.cons {k o n T : Nat} {α β : Type} {R : FH → List Value → α → Prop} {R' : FH → List Value → β → Prop} [hf : FO P t k o n] [ht : FT P t k T] (h : Opn P T n R) (h' : OpnF P t (k + 1) (o + n) R') :
    OpnF P t k o (fun g cs (x : α × β) => ∃ c d, cs = c ++ d ∧ c.length = n ∧ R g c x.1 ∧ R' g d x.2) := fun fs H enc w base spare held fuel cs xs hu hl hx hall hwt => by
  obtain ⟨fs', f, hu', hf', ho, hn⟩ := hf.field
  obtain rfl : fs' = fs := by rw [hu] at hu'; cases hu'; rfl
  have hT := ht.field hu hf'
  have h1 := hall k f hf'
  have hk : k < xs.length := by rw [hx]; exact (Array.getElem?_eq_some_iff.1 hf').1
  rw [List.getElem?_eq_getElem hk, ho, hn, hT] at h1
  obtain ⟨h2, a, h3⟩ := h H enc w base spare held fuel _ _ h1 (by have := hwt k f _ hf' (List.getElem?_eq_getElem hk); rwa [hT] at this)
  obtain ⟨b, h4⟩ := h' fs' H enc w base spare held fuel cs xs hu hl hx hall hwt
  exact ⟨(a, b), _, _, by rw [← List.drop_drop, List.take_append_drop], h2, h3, h4⟩
theorem Opn.struct {sz : Nat} {α : Type} {R : FH → List Value → α → Prop} [hs : FS P t] (hc : P.cellsOf t = sz) (h : OpnF P t 0 0 R) : Opn P t sz R := fun H enc w base spare held fuel cs x hx hwt => by
  obtain ⟨fs, hu⟩ : ∃ fs, P.underlying t = some (.struct fs) := by
    have h1 := hs.pf
    unfold fldsThere at h1
    split at h1
    · rename_i fs hu
      exact ⟨fs, hu⟩
    · cases h1
  obtain ⟨xs, n, _, rfl, hl, hxl, hall⟩ := DataW.trod_struct hu hx
  simp only [DataW.weights, hu] at hwt
  refine ⟨by rw [hl, hc], h fs H enc w base spare held n cs xs hu hl hxl hall fun i f y hf hy q hq => hwt q (weightsEach_mem (i := i) (by simp [hf]) (by simp [hy]) hq)⟩

/-- Bytes. -/
theorem Opn.bytes (hu : P.underlying t = some (.slice e)) (he : P.underlying e = some (.int .u8)) (hc : P.cellsOf e = 1) (hby : P.bytesOf e = 1) : Opn P t 1 (fun g cs (bs : List UInt8) => ∃ v, cs = [v] ∧ RdBytes g v bs ∧ bs.length ≤ reachBytes) := by
  refine Opn.map (fun els : List Int => els.map fun z => UInt8.ofNat z.toNat) (Opn.slice hu hc (by omega) hby (Opn.int he)) ?_
  rintro g cs els ⟨v, rfl, ⟨css, h1, h2, h3⟩, h4⟩
  refine ⟨v, rfl, ?_, by simpa using h4⟩
  have e1 : css.flatten = bytesC (els.map fun z => UInt8.ofNat z.toNat) := by
    clear h1 h2 h4
    induction h3 with
    | nil => rfl
    | cons h _ ih =>
      obtain ⟨rfl, hw⟩ := h
      have hb := bounds_u8 hw
      rw [List.flatten_cons, ih]
      simp only [bytesC, List.map_cons, List.cons_append, List.nil_append, u8c, List.cons.injEq, Value.int.injEq, true_and, and_true, UInt8.toNat_ofNat']
      omega
  rw [e1] at h1
  unfold RdBytes
  rwa [List.length_map]
end

/-- The statement's way, with how much each part of what came in may take. -/
theorem returnsInHanded_w {H : Type} {enc : TypeId × Value → H} {a : Assume} {C : Checked} {os : Os} {f : FuncId} {fn : Func} {s : ChangeSpec} {conds : List PathCond} {apart fresh handsOn again : Bool}
    (own : ownKnob C.prog.godebug = none) (started : os.Started) (noInit : C.prog.inits.idxOf? f = none) (hfn : C.prog.funcs[f]? = some fn)
    (witness : ∃ (w : World) (tape : Tape) (i : Input), w.os = os ∧ (w.forCall tape i).Shaped C.prog ∧ i.vars = [] ∧ Input.okWide C.prog (w.forCall tape i) .any w.heap.size f i ∧
      s.pre6 enc C.prog fn conds apart (w.forCall tape i).memory i.args ∧ a.holds C.prog (lone (Frame.enter C.prog f i.args .normal) [] (w.forCall tape i)))
    (contract : ∀ (W : World) (base : Nat) (args : Array Value) (ds gs : List (DataW H)) (before : List MemPlace),
      (∀ (j : Nat) t v, fn.params[j]? = some t → args[j]? = some v → Value.okWide C.prog W .any base t v) →
      DataW.Whole enc C.prog fn.params.toList s.vars apart W args.toList ds gs before →
      conds.all (PathCond.test C.prog ⟨fn.params.toList, ds, s.plain.varTypes C.prog, gs⟩) = true →
      (DataW.weightsEach C.prog (fn.params.toList ++ s.plain.varTypes C.prog) (ds ++ gs)).all (· ≤ reachBytes) = true →
      a.holds C.prog (lone (Frame.enter C.prog f args .normal) [] W) →
      Calls C.prog f args W fun e W' => ∃ v, e = .returned v ∧ s.post enc C.prog fn apart fresh handsOn again W args v W') :
    ReturnsInHanded a C os f .any (s.pre6 enc C.prog fn conds apart) (s.post enc C.prog fn apart fresh handsOn again) := by
  refine returnsInHanded_of_calls own started noInit witness ?_
  intro w tape i _ _ _ hok hpre hholds
  obtain ⟨_, _, _, fn', hfn', _, _, _, _, hval⟩ := hok
  have e : fn' = fn := Option.some.inj (hfn'.symm.trans hfn)
  subst e
  obtain ⟨⟨ds, gs, before, hw, hc⟩, hz⟩ := hpre
  have hw' := DataW.Whole.of_heap (w' := w.forCall tape i) (by rfl) hw
  refine (contract (w.forCall tape i) w.heap.size i.args ds gs before hval hw' hc (hz.weights hw) hholds).mono fun e W' ⟨v, he, hp⟩ => ?_
  subst he
  exact ChangeSpec.post_blind hp

/-- Is it an int64? -/
def In64 (n : Int) : Prop := -9223372036854775808 ≤ n ∧ n ≤ 9223372036854775807
theorem in64_of {n : Int} (h : (Lit.int .i64 n).wf = true) : In64 n := bounds_i64 h
end Go.Proofs.YtccgdnocldmjeaaDoor
