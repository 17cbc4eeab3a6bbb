/- Frozen memory and what is read from it: facts on blocks that never change any more; rows of elements; how an owned row is frozen. Nothing of any program stands here. -/
import Derived.Test.YtmeaekcengmfbaaSl
import Derived.Laws.Cover3
import Derived.Laws.BytesString
set_option linter.unusedSimpArgs false
set_option linter.unusedVariables false
namespace Go.Proofs.Ytmeaekcengmfbaa
open Go Go.RowKit

/-- A heap's frozen part. -/
abbrev FH := Nat → Option Obj
def frz (r : Res) : FH := fun b => match r b with | some (false, o) => some o | _ => none
def FLe (h h' : FH) : Prop := ∀ b o, h b = some o → h' b = some o
def Mono (Φ : FH → Prop) : Prop := ∀ h h', FLe h h' → Φ h → Φ h'
/-- A fact on frozen memory, as an atom. -/
def fz (Φ : FH → Prop) : HP := fun r => Φ (frz r)

theorem frz_some {r : Res} {b : Nat} {o : Obj} : frz r b = some o ↔ r b = some (false, o) := by
  unfold frz
  cases h : r b with
  | none => simp
  | some x => obtain ⟨c, p⟩ := x; cases c <;> simp

theorem dup_fz (Φ : FH → Prop) : Dup (fz Φ) := fun r h => by
  refine ⟨fun b => (frz r b).map fun o => (false, o), fun b => ?_, ?_⟩
  · show J1 ((frz r b).map fun o => (false, o)) (r b) (r b)
    cases hr : frz r b with
    | none => exact .r _
    | some o => rw [frz_some.1 hr]; exact .f o
  · have : frz (fun b => (frz r b).map fun o => (false, o)) = frz r := by
      funext b
      show (match (frz r b).map (fun o => (false, o)) with | some (false, o) => some o | _ => none) = frz r b
      cases frz r b <;> rfl
    unfold fz
    rw [this]
    exact h

theorem FLe.join_left {r s t : Res} (h : Join r s t) : FLe (frz r) (frz t) := fun b o hb => frz_some.2 (h.left (frz_some.1 hb))
theorem FLe.join_right {r s t : Res} (h : Join r s t) : FLe (frz s) (frz t) := FLe.join_left h.comm

section
variable {l : List HP} {F : Res} {w : World}

theorem Holds.fz_imp {Φ Ψ : FH → Prop} (h : ∀ g, Φ g → Ψ g) (hl : Holds (fz Φ :: l) F w) : Holds (fz Ψ :: l) F w := hl.imp fun r hr => h _ hr

theorem Holds.fz_and {Φ Ψ : FH → Prop} (hΦ : Mono Φ) (hΨ : Mono Ψ) (hl : Holds (fz Φ :: fz Ψ :: l) F w) : Holds (fz (fun g => Φ g ∧ Ψ g) :: l) F w := by
  have h1 : Holds (starH [fz Φ, fz Ψ] :: l) F w := Holds.shut_star (l := [fz Φ, fz Ψ]) hl
  refine h1.imp ?_
  intro r hr
  unfold starH at hr
  obtain ⟨a, b, hj, h1, c, d, hj2, h2, _⟩ := hr
  exact ⟨hΦ _ _ (FLe.join_left hj) h1, hΨ _ _ (fun x o hx => FLe.join_right hj x o (FLe.join_left hj2 x o hx)) h2⟩

theorem Holds.fz_dup {Φ : FH → Prop} (hl : Holds (fz Φ :: l) F w) : Holds (fz Φ :: fz Φ :: l) F w := hl.dup (dup_fz Φ)

/-- A further fact out of a fact on frozen memory. -/
theorem Holds.fz_also {Φ Ψ : FH → Prop} (h : ∀ g, Φ g → Ψ g) (hl : Holds (fz Φ :: l) F w) : Holds (fz Ψ :: fz Φ :: l) F w := hl.fz_dup.fz_imp h

/-- What the world has of the frozen part. -/
theorem Holds.fz_sees {Φ : FH → Prop} (hl : Holds (fz Φ :: l) F w) : ∃ g, Φ g ∧ ∀ b o, g b = some o → w.heap[b]? = some o := by
  obtain ⟨r, hr, hs⟩ := hl.sees
  exact ⟨frz r, hr, fun b o hb => hs b _ (frz_some.1 hb)⟩

theorem Holds.fz_fact {Φ : FH → Prop} {φ : Prop} (h : ∀ g, Φ g → φ) (hl : Holds (fz Φ :: l) F w) : φ := hl.fact fun r hr => h _ hr

theorem Holds.freeze_fz {b : Nat} {o : Obj} {Φ : FH → Prop} (h : ∀ g : FH, g b = some o → Φ g) (hl : Holds (blk b o :: l) F w) : Holds (fz Φ :: l) F w :=
  hl.freeze.imp fun r hr => h _ (frz_some.2 (by unfold ice at hr; exact hr))

theorem Holds.fz_true {Φ : FH → Prop} (h : ∀ g, Φ g) (hl : Holds l F w) : Holds (fz Φ :: l) F w := by
  have := Holds.shut_pure (φ := True) trivial hl
  exact this.imp fun r _ => h _
end

/-! ### Cells in frozen memory -/

def CellsAt (g : FH) (b off : Nat) (cs : List Value) : Prop := ∃ arr t fr, g b = some (.cells arr t fr) ∧ ∀ j v, cs[j]? = some v → arr[off + j]? = some v

theorem CellsAt.mono (b off : Nat) (cs : List Value) : Mono fun g => CellsAt g b off cs := fun _ _ hle ⟨arr, t, fr, h, hc⟩ => ⟨arr, t, fr, hle _ _ h, hc⟩

theorem CellsAt.sub {g : FH} {b off : Nat} {pre cs post : List Value} (h : CellsAt g b off (pre ++ (cs ++ post))) : CellsAt g b (off + pre.length) cs := by
  obtain ⟨arr, t, fr, h, hc⟩ := h
  refine ⟨arr, t, fr, h, fun j v hj => ?_⟩
  have := hc (pre.length + j) v (by
    rw [List.getElem?_append_right (by omega), Nat.add_sub_cancel_left, List.getElem?_append_left (List.getElem?_eq_some_iff.1 hj).1]
    exact hj)
  rwa [← Nat.add_assoc] at this

/-- Frozen cells, as an atom. -/
def icel (b off : Nat) (cs : List Value) : HP := fz fun g => CellsAt g b off cs

theorem icel_sees {l : List HP} {F : Res} {w : World} {b off : Nat} {cs : List Value} (h : Holds (icel b off cs :: l) F w) (j : Nat) (v : Value) (hj : cs[j]? = some v) : w.cell? ⟨b, off + j, none⟩ = some v := by
  obtain ⟨g, ⟨arr, t, fr, hb, hc⟩, hw⟩ := Holds.fz_sees h
  have := hw b _ hb
  simp [World.cell?, this, hc j v hj]

theorem Lds.ione {P : Program} {l : List HP} {b off o : Nat} {t : TypeId} {cs : List Value} {v : Value} [ha : AG P t false] (hv : cs[o]? = some v) : Lds P (icel b off cs :: l) ⟨b, off + o, none⟩ t v := by
  unfold Lds
  intro F w hl
  have := icel_sees hl o v hv
  simp [Instr.loadAt, Instr.sureAddr, loadVar, ha.run, this]
theorem Lds.ione0 {P : Program} {l : List HP} {b off : Nat} {t : TypeId} {cs : List Value} {v : Value} [ha : AG P t false] : Lds P (icel b off (v :: cs) :: l) ⟨b, off, none⟩ t v := by
  have := Lds.ione (P := P) (l := l) (b := b) (off := off) (o := 0) (t := t) (cs := v :: cs) (v := v) rfl
  simpa using this
theorem Lds.iall {P : Program} {l : List HP} {b off n : Nat} {t : TypeId} {cs : List Value} [ha : AG P t true] [hz : SZ P t n] (hn : cs.length = n) : Lds P (icel b off cs :: l) ⟨b, off, none⟩ t (.agg cs.toArray) := by
  unfold Lds
  intro F w hl
  have := run_loadCells_list (P := P) w ⟨b, off, none⟩ cs (fun j v hj => by rw [addr_add]; exact icel_sees hl j v hj)
  rw [hn] at this
  simp [Instr.loadAt, Instr.sureAddr, loadVar, ha.run, hz.run, this]

/-! ### Rows in frozen memory -/

/-- A slice value that reads as n elements, these cells. -/
def RdRow (g : FH) (sz : Nat) (v : Value) (n : Nat) (xs : List Value) : Prop :=
  xs.length = n * sz ∧ ∃ a cap, v = .slice a n cap ∧ (n = 0 ∨ ∃ b o, a = some ⟨b, o, none⟩ ∧ CellsAt g b o xs)

theorem RdRow.mono (sz : Nat) (v : Value) (n : Nat) (xs : List Value) : Mono fun g => RdRow g sz v n xs := by
  rintro g g' hle ⟨hl, a, cap, hv, h⟩
  refine ⟨hl, a, cap, hv, ?_⟩
  rcases h with h | ⟨b, o, ha, hc⟩
  · exact .inl h
  · exact .inr ⟨b, o, ha, CellsAt.mono b o xs g g' hle hc⟩

theorem RdRow.nil (g : FH) (sz : Nat) (a : Option Addr) (cap : Nat) : RdRow g sz (.slice a 0 cap) 0 [] := ⟨by simp, a, cap, rfl, .inl rfl⟩

theorem Src.frozen {P : Program} {l : List HP} {sz n : Nat} {v : Value} {xs : List Value} : Src P (fz (fun g => RdRow g sz v n xs) :: l) sz v n xs := by
  unfold Src
  intro F w hl
  obtain ⟨g, ⟨hxl, a, cap, rfl, h⟩, hw⟩ := Holds.fz_sees hl
  refine ⟨by simp [Builtin.lenOf], ?_⟩
  rcases h with rfl | ⟨b, o, rfl, arr, t, fr, hb, hc⟩
  · have : xs = [] := List.eq_nil_of_length_eq_zero (by simpa using hxl)
    subst this
    cases a <;> simp [Builtin.firstCells, loadCells, loadCellsFrom]
  · refine run_firstCells_some w sz n ⟨b, o, none⟩ n cap xs hxl fun j u hj => ?_
    rw [addr_add]
    simp [World.cell?, hw b _ hb, hc j u hj]

/-- An owned row is frozen. -/
theorem Holds.freeze_row {l : List HP} {F : Res} {w : World} {t : TypeId} {sz n : Nat} {v : Value} {xs : List Value} (h : Holds (rowA t sz v n xs :: l) F w) : Holds (fz (fun g => RdRow g sz v n xs) :: l) F w := by
  have key : (∃ b o cap cur, v = .slice (some ⟨b, o, none⟩) n cap ∧ o + cap * sz ≤ cur.size ∧ n ≤ cap ∧ (cur.toList.drop o).take (n * sz) = xs ∧ xs.length = n * sz ∧ Holds (blk b (.cells cur t (0, 0)) :: l) F w) ∨ (v = .slice none 0 0 ∧ n = 0 ∧ xs = []) := by
    unfold Holds at h
    obtain ⟨r, tt, ⟨ra, rc, hj1, hrow, hC⟩, hj2, hsat⟩ := h
    unfold rowA at hrow
    obtain ⟨hxl, hrow⟩ := hrow
    rcases hrow with ⟨rfl, rfl⟩ | ⟨b, o, cap, cur, rfl, hb, hkc, hsz, htake⟩
    · exact .inr ⟨rfl, rfl, List.eq_nil_of_length_eq_zero (by simpa using hxl)⟩
    · refine .inl ⟨b, o, cap, cur, rfl, hsz, hkc, htake, hxl, ?_⟩
      unfold Holds
      exact ⟨r, tt, ⟨ra, rc, hj1, by unfold blk; exact hb, hC⟩, hj2, hsat⟩
  rcases key with ⟨b, o, cap, cur, rfl, hsz, hkc, htake, hxl, hb⟩ | ⟨rfl, rfl, rfl⟩
  · refine Holds.freeze_fz (fun g hg => ⟨hxl, _, cap, rfl, .inr ⟨b, o, rfl, cur, t, (0, 0), hg, fun j v hj => ?_⟩⟩) hb
    have hj' : j < n * sz := by have := (List.getElem?_eq_some_iff.1 hj).1; omega
    rw [← htake, List.getElem?_take, if_pos hj', List.getElem?_drop] at hj
    simpa using hj
  · exact Holds.fz_true (fun g => RdRow.nil g sz none 0) h.drop

theorem Gh.ice {l rest : List HP} {t : TypeId} {sz n : Nat} {v : Value} {xs : List Value} (hp : Pk l (rowA t sz v n xs) rest) : Gh l (fz (fun g => RdRow g sz v n xs) :: rest) := by
  unfold Gh
  intro F w hl
  unfold Pk at hp
  exact (hl.perm hp).freeze_row

/-! ### Elements -/

inductive All2 {α β : Type} (R : α → β → Prop) : List α → List β → Prop where
  | nil : All2 R [] []
  | cons {a : α} {b : β} {els : List α} {bs : List β} (h : R a b) (t : All2 R els bs) : All2 R (a :: els) (b :: bs)

theorem All2.len {α β : Type} {R : α → β → Prop} {els : List α} {bs : List β} (h : All2 R els bs) : els.length = bs.length := by
  induction h with
  | nil => rfl
  | cons _ _ ih => simp [ih]
theorem All2.mono {α β : Type} {R S : α → β → Prop} (hrs : ∀ a b, R a b → S a b) {els : List α} {bs : List β} (h : All2 R els bs) : All2 S els bs := by
  induction h with
  | nil => exact .nil
  | cons h _ ih => exact .cons (hrs _ _ h) ih
theorem All2.append {α β : Type} {R : α → β → Prop} {els els' : List α} {bs bs' : List β} (h : All2 R els bs) (h' : All2 R els' bs') : All2 R (els ++ els') (bs ++ bs') := by
  induction h with
  | nil => exact h'
  | cons h _ ih => exact .cons h ih
/-- The element at i, with what stands ahead of it and behind. -/
theorem All2.split {α β : Type} {R : α → β → Prop} {els : List α} {bs : List β} (h : All2 R els bs) (i : Nat) (hi : i < bs.length) :
    ∃ el1 a el2, els = el1 ++ a :: el2 ∧ el1.length = i ∧ R a bs[i] ∧ All2 R el1 (bs.take i) ∧ All2 R el2 (bs.drop (i + 1)) := by
  induction h generalizing i with
  | nil => simp at hi
  | cons h t ih =>
    rename_i a b els bs
    cases i with
    | zero => exact ⟨[], a, els, rfl, rfl, h, by simpa using All2.nil, by simpa using t⟩
    | succ i =>
      obtain ⟨el1, x, el2, rfl, hl, hr, h1, h2⟩ := ih i (by simpa using hi)
      exact ⟨a :: el1, x, el2, rfl, by simp [hl], by simpa using hr, by simpa using All2.cons h h1, by simpa using h2⟩

theorem flatten_length {css : List (List Value)} {sz : Nat} (h : ∀ c ∈ css, c.length = sz) : css.flatten.length = css.length * sz := by
  induction css with
  | nil => simp
  | cons c css ih =>
    have h1 := h c (by simp)
    have h2 := ih fun x hx => h x (by simp [hx])
    simp [h1, h2, Nat.add_mul, Nat.add_comm]

/-- A slice that reads as data: each element's cells read as its datum. -/
def RdSl {α : Type} (R : FH → List Value → α → Prop) (sz : Nat) (g : FH) (v : Value) (els : List α) : Prop :=
  ∃ css, RdRow g sz v els.length css.flatten ∧ (∀ c ∈ css, c.length = sz) ∧ All2 (R g) css els

theorem RdSl.mono {α : Type} {R : FH → List Value → α → Prop} (hR : ∀ c a, Mono fun g => R g c a) (sz : Nat) (v : Value) (els : List α) : Mono fun g => RdSl R sz g v els := by
  rintro g g' hle ⟨css, h1, h2, h3⟩
  exact ⟨css, RdRow.mono sz v _ _ g g' hle h1, h2, h3.mono fun c a h => hR c a g g' hle h⟩

theorem RdSl.shape {α : Type} {R : FH → List Value → α → Prop} {sz : Nat} {g : FH} {v : Value} {els : List α} (h : RdSl R sz g v els) : ∃ a c, v = .slice a els.length c := by
  obtain ⟨css, ⟨_, a, cap, hv, _⟩, _⟩ := h
  exact ⟨a, cap, hv⟩

theorem RdSl.nil {α : Type} {R : FH → List Value → α → Prop} {sz : Nat} {g : FH} (a : Option Addr) (cap : Nat) : RdSl R sz g (.slice a 0 cap) ([] : List α) := ⟨[], RdRow.nil g sz a cap, by simp, .nil⟩

/-- The i-th element. -/
theorem RdSl.elem {α : Type} {R : FH → List Value → α → Prop} {sz : Nat} {g : FH} {v : Value} {els : List α} (h : RdSl R sz g v els) (i : Nat) (hi : i < els.length) :
    ∃ b o cap cs, v = .slice (some ⟨b, o, none⟩) els.length cap ∧ cs.length = sz ∧ CellsAt g b (o + i * sz) cs ∧ R g cs els[i] := by
  obtain ⟨css, ⟨hl, a, cap, rfl, hc⟩, hsz, hall⟩ := h
  obtain ⟨c1, c, c2, rfl, h1, h2, h3, h4⟩ := hall.split i hi
  rcases hc with h0 | ⟨b, o, rfl, hc⟩
  · omega
  · refine ⟨b, o, cap, c, rfl, hsz c (by simp), ?_, h2⟩
    rw [List.flatten_append, List.flatten_cons] at hc
    have := hc.sub
    rwa [flatten_length fun x hx => hsz x (by simp [hx]), h1] at this

/-- The i-th element of a slice in frozen memory: its cells, and what they read els. -/
theorem Holds.elem {l : List HP} {F : Res} {w : World} {α : Type} {R : FH → List Value → α → Prop} {sz : Nat} {v : Value} {els : List α} (h : Holds (fz (fun g => RdSl R sz g v els) :: l) F w) (i : Nat) (hi : i < els.length) :
    ∃ b o cap cs, v = .slice (some ⟨b, o, none⟩) els.length cap ∧ cs.length = sz ∧ Holds (icel b (o + i * sz) cs :: fz (fun g => R g cs els[i]) :: fz (fun g => RdSl R sz g v els) :: l) F w := by
  have h2 : Holds (exH (fun x : Nat × Nat × Nat × List Value => fz fun g => (v = .slice (some ⟨x.1, x.2.1, none⟩) els.length x.2.2.1 ∧ x.2.2.2.length = sz) ∧ CellsAt g x.1 (x.2.1 + i * sz) x.2.2.2 ∧ R g x.2.2.2 els[i]) :: fz (fun g => RdSl R sz g v els) :: l) F w := by
    refine h.fz_dup.imp fun r hr => ?_
    unfold fz at hr
    obtain ⟨b, o, cap, cs, h1, h2, h3, h4⟩ := RdSl.elem hr i hi
    unfold exH
    exact ⟨(b, o, cap, cs), ⟨h1, h2⟩, h3, h4⟩
  obtain ⟨⟨b, o, cap, cs⟩, h3⟩ := h2.open_ex
  obtain ⟨hv, hl⟩ := h3.fz_fact fun g hg => hg.1
  refine ⟨b, o, cap, cs, hv, hl, ?_⟩
  have h4 := h3.fz_dup
  have h5 : Holds (icel b (o + i * sz) cs :: fz (fun g => R g cs els[i]) :: fz (fun g => RdSl R sz g v els) :: l) F w := by
    have h6 := h4.fz_imp (Ψ := fun g => CellsAt g b (o + i * sz) cs) fun g hg => hg.2.1
    have h7 := (h6.perm (List.Perm.swap _ _ _)).fz_imp (Ψ := fun g => R g cs els[i]) fun g hg => hg.2.2
    exact h7.perm (List.Perm.swap _ _ _)
  exact h5

/-! ### From a triple to the law -/

theorem Trip.top {P : Program} {f : FuncId} {args : List Value} {W : World} {Φ : FH → Prop} {post : Value → List HP → Prop} (hΦ : Φ fun b => W.heap[b]?) (hp : ∀ v l, post v l → v = .bool true) (ht : Trip P f args [fz Φ] post) :
    Calls P f args.toArray W fun e w' => e = .returned (.bool true) ∧ Below W.heap.size W w' := by
  have hF : frz (fun b => (W.heap[b]?).map fun o => (false, o)) = fun b => W.heap[b]? := by
    funext b
    unfold frz
    cases h : W.heap[b]? <;> simp [h]
  have hold : Holds [fz Φ] (fun b => (W.heap[b]?).map fun o => (false, o)) W := by
    unfold Holds
    refine ⟨fun b => (W.heap[b]?).map fun o => (false, o), fun b => (W.heap[b]?).map fun o => (false, o), ⟨_, fun _ => none, fun b => .l _, ?_, trivial⟩, fun b => ?_, fun b x hb => ?_⟩
    · unfold fz
      rw [hF]
      exact hΦ
    · show J1 ((W.heap[b]?).map _) ((W.heap[b]?).map _) ((W.heap[b]?).map _)
      cases W.heap[b]? with
      | none => exact .l _
      | some o => exact .f o
    · cases hw : W.heap[b]? with
      | none => simp [hw] at hb
      | some o => simp [hw] at hb; subst hb; rfl
  refine (ht.use _ W hold).mono ?_
  rintro e w' ⟨v, l, rfl, hpost, hl, hx⟩
  refine ⟨by rw [hp v l hpost], hx.1, hx.2.1, hx.2.2.1, hx.2.2.2, fun k hk => ?_⟩
  have := hl.satF k (false, W.heap[k]) (by simp [hk])
  rw [this]
  simp [hk]

/-! ### More operations -/

section
variable {P : Program} {e : Env} {C : List HP} {ty : TypeId}

theorem Rdo.eqslnil {x y : Operand} {a : Option Addr} {n c : Nat} {t u e' : TypeId} [h : EL P t e'] (hx : evl e x = some (.slice a n c)) (hy : evl e y = some (.slice none 0 0)) : Rdo P e C (.binOp .eql t x y u) ty (.bool a.isNone) := by
  unfold Rdo
  intro G w a' n' dst pos after g hl' he
  simp [execOp, he.eval hx, he.eval hy, eqGuard_at_slice, binOp, run_equal_slice_nil w t e' a n c h.pf]
theorem Rdo.neslnil {x y : Operand} {a : Option Addr} {n c : Nat} {t u e' : TypeId} [h : EL P t e'] (hx : evl e x = some (.slice a n c)) (hy : evl e y = some (.slice none 0 0)) : Rdo P e C (.binOp .neq t x y u) ty (.bool (!a.isNone)) := by
  unfold Rdo
  intro G w a' n' dst pos after g hl' he
  simp [execOp, he.eval hx, he.eval hy, eqGuard_at_slice, binOp, run_equal_slice_nil w t e' a n c h.pf]

theorem Rdo.eqb {x y : Operand} {p q : Bool} {t u : TypeId} [h : BL P t] (hx : evl e x = some (.bool p)) (hy : evl e y = some (.bool q)) : Rdo P e C (.binOp .eql t x y u) ty (.bool (p == q)) := by
  unfold Rdo
  intro G w a' n' dst pos after g hl' he
  simp [execOp, he.eval hx, he.eval hy, eqGuard_at_bool, run_eql_bool w t p q h.pf]
theorem Rdo.neb {x y : Operand} {p q : Bool} {t u : TypeId} [h : BL P t] (hx : evl e x = some (.bool p)) (hy : evl e y = some (.bool q)) : Rdo P e C (.binOp .neq t x y u) ty (.bool (!(p == q))) := by
  unfold Rdo
  intro G w a' n' dst pos after g hl' he
  simp [execOp, he.eval hx, he.eval hy, eqGuard_at_bool, run_neq_bool w t p q h.pf]

theorem Rdo.eqs {x y : Operand} {p q : ByteArray} {t u : TypeId} (hx : evl e x = some (.string p)) (hy : evl e y = some (.string q)) : Rdo P e C (.binOp .eql t x y u) ty (.bool (p.toList == q.toList)) := by
  unfold Rdo
  intro G w a' n' dst pos after g hl' he
  simp [execOp, he.eval hx, he.eval hy, eqGuard_at_string, binOp, Op.stringOp]
theorem Rdo.nes {x y : Operand} {p q : ByteArray} {t u : TypeId} (hx : evl e x = some (.string p)) (hy : evl e y = some (.string q)) : Rdo P e C (.binOp .neq t x y u) ty (.bool (!(p.toList == q.toList))) := by
  unfold Rdo
  intro G w a' n' dst pos after g hl' he
  simp [execOp, he.eval hx, he.eval hy, eqGuard_at_string, binOp, Op.stringOp]

theorem Rdo.lenString {x : Operand} {s : ByteArray} {t : TypeId} [h : ST P t] (hx : evl e x = some (.string s)) :
    Rdo P e C (.call { callee := .builtin .len, args := [x].toArray, argTypes := [t].toArray }) ty (.int .i64 s.size) := by
  unfold Rdo
  intro G w a' n dst pos after g hl' he
  simp [execOp, resolve, invoke, builtin, he.eval hx, Builtin.len_, run_underlying h.pf, goInt]

theorem Rdo.min {x y : Operand} {t t' : TypeId} {k : IntKind} {p q : Int} (hx : evl e x = some (.int k p)) (hy : evl e y = some (.int k q)) :
    Rdo P e C (.call { callee := .builtin .min, args := [x, y].toArray, argTypes := [t, t'].toArray }) ty (.int k (if q < p then q else p)) := by
  unfold Rdo
  intro G w a' n dst pos after g hl' he
  simp [execOp, resolve, invoke, builtin, he.eval hx, he.eval hy, run_min_int2]
theorem Rdo.max {x y : Operand} {t t' : TypeId} {k : IntKind} {p q : Int} (hx : evl e x = some (.int k p)) (hy : evl e y = some (.int k q)) :
    Rdo P e C (.call { callee := .builtin .max, args := [x, y].toArray, argTypes := [t, t'].toArray }) ty (.int k (if q > p then q else p)) := by
  unfold Rdo
  intro G w a' n dst pos after g hl' he
  simp [execOp, resolve, invoke, builtin, he.eval hx, he.eval hy, run_max_int2]

theorem Rdo.and {x y : Operand} {xt yt : TypeId} {k : IntKind} {p q : Int} (hx : evl e x = some (.int k p)) (hy : evl e y = some (.int k q)) : Rdo P e C (.binOp .and xt x y yt) ty (.int k (bits .and k p q)) := by
  unfold Rdo
  intro G w a n dst pos after g hl he
  simp [execOp, he.eval hx, he.eval hy, eqGuard_and, binOp_and, intBits_and]
theorem Rdo.or {x y : Operand} {xt yt : TypeId} {k : IntKind} {p q : Int} (hx : evl e x = some (.int k p)) (hy : evl e y = some (.int k q)) : Rdo P e C (.binOp .or xt x y yt) ty (.int k (bits .or k p q)) := by
  unfold Rdo
  intro G w a n dst pos after g hl he
  simp [execOp, he.eval hx, he.eval hy, eqGuard_or, binOp_or, intBits_or]
theorem Rdo.xor {x y : Operand} {xt yt : TypeId} {k : IntKind} {p q : Int} (hx : evl e x = some (.int k p)) (hy : evl e y = some (.int k q)) : Rdo P e C (.binOp .xor xt x y yt) ty (.int k (bits .xor k p q)) := by
  unfold Rdo
  intro G w a n dst pos after g hl he
  simp [execOp, he.eval hx, he.eval hy, eqGuard_xor, binOp_xor, intBits_xor]
theorem Rdo.rem {x y : Operand} {xt yt : TypeId} {k : IntKind} {p q : Int} (hx : evl e x = some (.int k p)) (hy : evl e y = some (.int k q)) (hq : q ≠ 0) : Rdo P e C (.binOp .rem xt x y yt) ty (.int k (p.tmod q)) := by
  unfold Rdo
  intro G w a n dst pos after g hl he
  simp [execOp, he.eval hx, he.eval hy, eqGuard_rem, binOp_rem, Op.intDiv, hq]
theorem Rdo.quo {x y : Operand} {xt yt : TypeId} {k : IntKind} {p q : Int} (hx : evl e x = some (.int k p)) (hy : evl e y = some (.int k q)) (hq : q ≠ 0) : Rdo P e C (.binOp .quo xt x y yt) ty (.int k (k.wrap (p.tdiv q))) := by
  unfold Rdo
  intro G w a n dst pos after g hl he
  simp [execOp, he.eval hx, he.eval hy, eqGuard_quo, binOp_quo, Op.intDiv, hq]

theorem Rdo.convInt {x : Operand} {src dst : TypeId} {k k' : IntKind} {p : Int} [hs : IK P src k'] [hd : IK P dst k] (hx : evl e x = some (.int k' p)) : Rdo P e C (.convert src dst x) ty (.int k (k.wrap p)) := by
  unfold Rdo
  intro G w a n d pos after g hl he
  simp [execOp, he.eval hx, convert, run_underlying hs.pf, run_underlying hd.pf, Conv.intToInt]

def u8c (b : UInt8) : Value := .int .u8 (b.toNat : Int)
def bytesC (bs : List UInt8) : List Value := bs.map u8c

theorem foldl_bytes (bs : List UInt8) : ∀ s : ByteArray, (bs.map fun b : UInt8 => (b.toNat : Int)).foldl (fun r n => r.push (UInt8.ofNat n.toNat)) s = ⟨s.data ++ bs.toArray⟩ := by
  induction bs with
  | nil => intro s; simp
  | cons b bs ih =>
    intro s
    simp only [List.map_cons, List.foldl_cons]
    rw [ih]
    simp [ByteArray.push, Array.append_assoc]

/-- string(b): the bytes are read. -/
theorem Rdo.bytesStr {x : Operand} {ad : Option Addr} {cap : Nat} {src dst e' : TypeId} {n : Nat} {bs : List UInt8} [hs : EL P src e'] [hk : IK P e' .u8] [hd : ST P dst] (hx : evl e x = some (.slice ad n cap)) (hsrc : Src P C 1 (.slice ad n cap) n (bytesC bs)) :
    Rdo P e C (.convert src dst x) ty (.string ⟨bs.toArray⟩) := by
  unfold Rdo
  intro G w a m d pos after g hl he
  unfold Src at hsrc
  obtain ⟨h1, h2⟩ := hsrc G w hl
  have h3 : (convert src dst (.slice ad n cap)).run P w = .ok (.string ⟨bs.toArray⟩) w := by
    rw [run_convert_bytes_string w src dst e' ad n cap hs.pf hk.pf hd.pf]
    cases ad with
    | none =>
      simp [Builtin.firstCells] at h2
      have : bs = [] := by simpa [bytesC] using h2.symm
      subst this
      simp [Conv.bytesToString]
      rfl
    | some ad =>
      simp only [Builtin.firstCells, Nat.mul_one] at h2
      have h4 := run_bytesToString (P := P) w ad n cap (bs.map fun b : UInt8 => (b.toNat : Int)) (by rw [h2]; simp [bytesC, u8c, Function.comp_def])
      rw [h4, foldl_bytes]
      simp
  simp [execOp, he.eval hx, h3]
end

theorem GhE.elem {l rest : List HP} {α : Type} {R : FH → List Value → α → Prop} {sz : Nat} {v : Value} {els : List α} (hp : Pk l (fz (fun g => RdSl R sz g v els)) rest) (i : Nat) (hi : i < els.length) :
    GhE l (fun x : Nat × Nat × Nat × List Value => v = .slice (some ⟨x.1, x.2.1, none⟩) els.length x.2.2.1 ∧ x.2.2.2.length = sz)
      (fun x => icel x.1 (x.2.1 + i * sz) x.2.2.2 :: fz (fun g => R g x.2.2.2 els[i]) :: fz (fun g => RdSl R sz g v els) :: rest) := by
  unfold GhE
  intro F w hl
  unfold Pk at hp
  obtain ⟨b, o, cap, cs, h1, h2, h3⟩ := (hl.perm hp).elem i hi
  exact ⟨(b, o, cap, cs), ⟨h1, h2⟩, h3⟩

/-- A fact on frozen memory is parted: a witness, a plain fact, further facts. -/
theorem GhE.part {l rest : List HP} {α : Type} {Φ : FH → Prop} {φ : α → Prop} {Ψ : α → FH → Prop} (hp : Pk l (Go.Proofs.Ytmeaekcengmfbaa.fz Φ) rest) (h : ∀ g, Φ g → ∃ x, φ x ∧ Ψ x g) : GhE l φ (fun x => Go.Proofs.Ytmeaekcengmfbaa.fz (Ψ x) :: rest) := by
  unfold GhE
  intro F w hl
  unfold Pk at hp
  have h1 : Holds (exH (fun x : α => Go.Proofs.Ytmeaekcengmfbaa.fz fun g => φ x ∧ Ψ x g) :: rest) F w := (hl.perm hp).imp fun r hr => by
    unfold Go.Proofs.Ytmeaekcengmfbaa.fz at hr
    obtain ⟨x, h2⟩ := h _ hr
    unfold exH Go.Proofs.Ytmeaekcengmfbaa.fz
    exact ⟨x, h2⟩
  obtain ⟨x, h3⟩ := h1.open_ex
  exact ⟨x, h3.fz_fact fun g hg => hg.1, h3.fz_imp fun g hg => hg.2⟩
theorem Gh.fz2 {l rest : List HP} {Φ Ψ : FH → Prop} (hp : Pk l (Go.Proofs.Ytmeaekcengmfbaa.fz fun g => Φ g ∧ Ψ g) rest) : Gh l (Go.Proofs.Ytmeaekcengmfbaa.fz Φ :: Go.Proofs.Ytmeaekcengmfbaa.fz Ψ :: rest) := by
  unfold Gh
  intro F w hl
  unfold Pk at hp
  have h1 := ((hl.perm hp).fz_dup).fz_imp (Ψ := Φ) fun g hg => hg.1
  exact ((h1.perm (List.Perm.swap _ _ _)).fz_imp (Ψ := Ψ) fun g hg => hg.2).perm (List.Perm.swap _ _ _)
theorem Gh.fzAnd {l rest rest' : List HP} {Φ Ψ : FH → Prop} (hΦ : Mono Φ) (hΨ : Mono Ψ) (hp : Pk l (Go.Proofs.Ytmeaekcengmfbaa.fz Φ) rest) (hp' : Pk rest (Go.Proofs.Ytmeaekcengmfbaa.fz Ψ) rest') : Gh l ((Go.Proofs.Ytmeaekcengmfbaa.fz fun g => Φ g ∧ Ψ g) :: rest') := by
  unfold Gh
  intro F w hl
  unfold Pk at hp hp'
  exact Holds.fz_and hΦ hΨ ((hl.perm hp).perm (List.Perm.cons _ hp'))
theorem Gh.fzImp {l rest : List HP} {Φ Ψ : FH → Prop} (hp : Pk l (Go.Proofs.Ytmeaekcengmfbaa.fz Φ) rest) (h : ∀ g, Φ g → Ψ g) : Gh l (Go.Proofs.Ytmeaekcengmfbaa.fz Ψ :: rest) := by
  unfold Gh
  intro F w hl
  unfold Pk at hp
  exact (hl.perm hp).fz_imp h
theorem Gh.fzAlso {l rest : List HP} {Φ Ψ : FH → Prop} (hp : Pk l (Go.Proofs.Ytmeaekcengmfbaa.fz Φ) rest) (h : ∀ g, Φ g → Ψ g) : Gh l (Go.Proofs.Ytmeaekcengmfbaa.fz Ψ :: Go.Proofs.Ytmeaekcengmfbaa.fz Φ :: rest) := by
  unfold Gh
  intro F w hl
  unfold Pk at hp
  exact (hl.perm hp).fz_also h
theorem Gh.fzTrue {l : List HP} {Φ : FH → Prop} (h : ∀ g, Φ g) : Gh l (Go.Proofs.Ytmeaekcengmfbaa.fz Φ :: l) := by
  unfold Gh
  exact fun F w hl => hl.fz_true h
attribute [irreducible] icel fz
end Go.Proofs.Ytmeaekcengmfbaa
