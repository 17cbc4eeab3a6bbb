/- Owned memory that is lent to a call that only reads it. Nothing of any program stands here. -/
import Derived.Test.YtccgdnocldmjeaaDoorCvt
namespace Go.Proofs.YtccgdnocldmjeaaDoor
open Go
set_option maxHeartbeats 4000000
set_option linter.unusedSimpArgs false
set_option linter.unusedVariables false

theorem J1.cases' {x y z : Option (Bool × Obj)} (h : J1 x y z) : (y = none ∧ z = x) ∨ (x = none ∧ z = y) ∨ (∃ o, x = some (false, o) ∧ y = some (false, o) ∧ z = some (false, o)) := by
  cases h
  · exact .inl ⟨rfl, rfl⟩
  · exact .inr (.inl ⟨rfl, rfl⟩)
  · exact .inr (.inr ⟨_, rfl, rfl, rfl⟩)

/-- All as if frozen. -/
def iced (r : Res) : Res := fun b => (r b).map fun x => (false, x.2)
/-- What is owned alone. -/
def mine (r : Res) : Res := fun b => match r b with | some (true, o) => some (true, o) | _ => none
/-- Resources that need no frozen memory. -/
def Own1 (p : HP) : Prop := ∀ r, p r → p (mine r)
def OwnL (l : List HP) : Prop := ∀ r, stars l r → stars l (mine r)

theorem mine_join {a c r : Res} (h : Join a c r) : Join (mine a) (mine c) (mine r) := fun b => by
  unfold mine
  rcases (h b).cases' with ⟨h1, h2⟩ | ⟨h1, h2⟩ | ⟨o, h1, h2, h3⟩
  · rw [h1, h2]; exact .l _
  · rw [h1, h2]; exact .r _
  · rw [h1, h2, h3]; exact .l _
theorem OwnL.nil : OwnL [] := fun _ _ => trivial
theorem OwnL.cons {p : HP} {l : List HP} (hp : Own1 p) (hl : OwnL l) : OwnL (p :: l) := fun r ⟨a, c, hj, ha, hc⟩ => ⟨mine a, mine c, mine_join hj, hp a ha, hl c hc⟩
theorem Own1.row {t : TypeId} {sz n : Nat} {v : Value} {xs : List Value} : Own1 (rowA t sz v n xs) := fun r hr => by
  unfold rowA at hr ⊢
  obtain ⟨hl, h⟩ := hr
  refine ⟨hl, ?_⟩
  rcases h with h | ⟨b, o, cap, cur, h1, h2, h3⟩
  · exact .inl h
  · exact .inr ⟨b, o, cap, cur, h1, by unfold mine; rw [h2], h3⟩
theorem Own1.blk {b : Nat} {o : Obj} : Own1 (blk b o) := fun r hr => by
  unfold Go.Proofs.YtccgdnocldmjeaaDoor.blk at hr ⊢
  unfold mine
  rw [hr]
theorem Own1.cel {b : Nat} {t : TypeId} {cs : List Value} : Own1 (Go.Proofs.YtccgdnocldmjeaaDoor.cel b t cs) := fun r hr => by
  unfold Go.Proofs.YtccgdnocldmjeaaDoor.cel at hr ⊢
  exact Own1.blk r hr

/-- Owned memory is lent. -/
theorem Trip.lend {P : Program} {f : FuncId} {args : List Value} {own pre : List HP} {Φ : FH → Prop} {post : Value → List HP → Prop} (h : Trip P f args (fz Φ :: pre) post)
    (hΦ : ∀ r, stars own r → Φ (fun b => (r b).map (·.2))) (hown : ∀ v l, post v l → OwnL l) : Trip P f args (own ++ pre) (fun v l => ∃ l', post v l' ∧ l = own ++ l') := by
  unfold Trip
  intro F w hl
  unfold Holds at hl
  obtain ⟨r, t, hst, hj, hs⟩ := hl
  obtain ⟨ro, rp, hj2, ho, hp⟩ := stars_append.1 hst
  have mk : ∀ g : Res, ∃ F' : Res, (∀ b x, ro b = some x → F' b = some (false, x.2)) ∧ (∀ b, ro b = none → F' b = g b) := fun g =>
    ⟨fun b => match ro b with | some x => some (false, x.2) | none => g b, fun b x h => by simp only [h], fun b h => by simp only [h]⟩
  obtain ⟨F', hF1, hF0⟩ := mk F
  obtain ⟨r', hr1, hr0⟩ := mk rp
  obtain ⟨t', ht1, ht0⟩ := mk t
  have key : ∀ b x, ro b = some x → (rp b = none ∨ rp b = some (false, x.2)) ∧ (F b = none ∨ (x.1 = false ∧ F b = some (false, x.2))) ∧ t b = some x := by
    intro b x hx
    have h1 := hj2 b
    have h2 := hj b
    rw [hx] at h1
    rcases h1.cases' with ⟨g1, g2⟩ | ⟨g1, g2⟩ | ⟨o, g1, g2, g3⟩
    · refine ⟨.inl g1, ?_⟩
      rw [g2] at h2
      rcases h2.cases' with ⟨k1, k2⟩ | ⟨k1, k2⟩ | ⟨o, k1, k2, k3⟩
      · exact ⟨.inl k1, k2⟩
      · cases k1
      · cases k1; exact ⟨.inr ⟨rfl, k2⟩, k3⟩
    · cases g1
    · cases g1
      refine ⟨.inr g2, ?_⟩
      rw [g3] at h2
      rcases h2.cases' with ⟨k1, k2⟩ | ⟨k1, k2⟩ | ⟨o', k1, k2, k3⟩
      · exact ⟨.inl k1, k2⟩
      · cases k1
      · cases k1; exact ⟨.inr ⟨rfl, k2⟩, k3⟩
  have key0 : ∀ b, ro b = none → J1 (rp b) (F b) (t b) := by
    intro b hx
    have h1 := hj2 b
    have h2 := hj b
    rw [hx] at h1
    rcases h1.cases' with ⟨g1, g2⟩ | ⟨g1, g2⟩ | ⟨o, g1, g2, g3⟩
    · rw [g1]; rw [g2] at h2; exact h2
    · rw [g2] at h2; exact h2
    · cases g1
  have hsF : Sat w t' := by
    intro b x hx
    cases hb : ro b with
    | none =>
      rw [ht0 b hb] at hx
      exact hs b x hx
    | some y =>
      rw [ht1 b y hb] at hx
      have := hs b y (key b y hb).2.2
      cases hx
      exact this
  have hpre : Holds (fz Φ :: pre) F' w := by
    unfold Holds
    refine ⟨r', t', ⟨iced ro, rp, fun b => ?_, ?_, hp⟩, fun b => ?_, hsF⟩
    · cases hb : ro b with
      | none => rw [hr0 b hb, show iced ro b = none by unfold iced; rw [hb]; rfl]; exact .r _
      | some x =>
        rw [hr1 b x hb, show iced ro b = some (false, x.2) by unfold iced; rw [hb]; rfl]
        rcases (key b x hb).1 with h1 | h1
        · rw [h1]; exact .l _
        · rw [h1]; exact .f _
    · unfold fz
      have : frz (iced ro) = fun b => (ro b).map (·.2) := by
        funext b
        unfold frz iced
        cases ro b <;> rfl
      rw [this]
      exact hΦ ro ho
    · cases hb : ro b with
      | none => rw [hr0 b hb, hF0 b hb, ht0 b hb]; exact key0 b hb
      | some x => rw [hr1 b x hb, hF1 b x hb, ht1 b x hb]; exact .f _
  refine (h.use F' w hpre).mono ?_
  rintro e w' ⟨v, l', he, hpo, hl', hx⟩
  refine ⟨v, own ++ l', he, ⟨l', hpo, rfl⟩, ?_, hx⟩
  have hsat' := hl'.satF
  unfold Holds at hl' ⊢
  obtain ⟨r2, t2, hst2, hj2', hs2⟩ := hl'
  have hm : ∀ b x, ro b = some x → mine r2 b = none := by
    intro b x hb
    have h1 := hj2' b
    rw [hF1 b x hb] at h1
    unfold mine
    rcases h1.cases' with ⟨g1, g2⟩ | ⟨g1, g2⟩ | ⟨o, g1, g2, g3⟩
    · cases g1
    · rw [g1]
    · rw [g1]
  have hm2 : ∀ b y, mine r2 b = some y → r2 b = some y ∧ y.1 = true := by
    intro b y hb2
    unfold mine at hb2
    split at hb2
    · rename_i o ho2; cases hb2; exact ⟨ho2, rfl⟩
    · cases hb2
  have mk2 : ∀ g : Res, ∃ F' : Res, (∀ b x, ro b = some x → F' b = some x) ∧ (∀ b, ro b = none → F' b = g b) := fun g =>
    ⟨fun b => match ro b with | some x => some x | none => g b, fun b x h => by simp only [h], fun b h => by simp only [h]⟩
  have mk3 : ∃ g : Res, (∀ b y, mine r2 b = some y → g b = some y) ∧ (∀ b, mine r2 b = none → g b = F b) :=
    ⟨fun b => match mine r2 b with | some x => some x | none => F b, fun b x h => by simp only [h], fun b h => by simp only [h]⟩
  obtain ⟨g, hg1, hg0⟩ := mk3
  obtain ⟨r3, hr31, hr30⟩ := mk2 (mine r2)
  obtain ⟨t3, ht31, ht30⟩ := mk2 g
  refine ⟨r3, t3, stars_append.2 ⟨ro, mine r2, fun b => ?_, ho, hown v l' hpo r2 hst2⟩, fun b => ?_, ?_⟩
  · cases hb : ro b with
    | none => rw [hr30 b hb]; exact .r _
    | some x => rw [hr31 b x hb, hm b x hb]; exact .l _
  · cases hb : ro b with
    | none =>
      rw [hr30 b hb, ht30 b hb]
      cases hb2 : mine r2 b with
      | none => rw [hg0 b hb2]; exact .r _
      | some y =>
        obtain ⟨hy1, hy2⟩ := hm2 b y hb2
        have h1 := hj2' b
        rw [hF0 b hb, hy1] at h1
        obtain ⟨y1, y2⟩ := y
        simp only at hy2
        subst hy2
        rw [hg1 b _ hb2]
        rcases h1.cases' with ⟨g1, g2⟩ | ⟨g1, g2⟩ | ⟨o, g1, g2, g3⟩
        · rw [g1]; exact .l _
        · cases g1
        · cases g1
    | some x =>
      rw [hr31 b x hb, ht31 b x hb]
      rcases (key b x hb).2.1 with h1 | ⟨h0, h1⟩
      · rw [h1]; exact .l _
      · obtain ⟨x1, x2⟩ := x
        simp only at h0 h1
        subst h0
        rw [h1]; exact .f _
  · intro b y hy
    cases hb : ro b with
    | some x =>
      rw [ht31 b x hb] at hy
      cases hy
      exact hsat' b (false, _) (hF1 b _ hb)
    | none =>
      rw [ht30 b hb] at hy
      cases hb2 : mine r2 b with
      | none =>
        rw [hg0 b hb2] at hy
        exact hsat' b y (by rw [hF0 b hb]; exact hy)
      | some z =>
        rw [hg1 b z hb2] at hy
        cases hy
        exact hs2 b y (hj2'.left (hm2 b y hb2).1)

/-- Frozen memory is kept. -/
theorem Trip.keep {P : Program} {f : FuncId} {args : List Value} {A : List HP} {Φ : FH → Prop} {post : Value → List HP → Prop} (h : Trip P f args (A ++ [fz Φ]) post) : Trip P f args (A ++ [fz Φ]) (fun v l => ∃ l', post v l' ∧ l = l' ++ [fz Φ]) := by
  refine Trip.mono (Trip.gh ?_ (Trip.frame h [fz Φ])) (fun v l ⟨l', h1, h2⟩ => ⟨l', h2, h1⟩)
  refine Gh.trans (Gh.perm (List.perm_append_comm (l₁ := A) (l₂ := [fz Φ]))) (Gh.trans (Gh.fzAlso Pk.here fun g h => h) (Gh.perm ?_))
  refine (List.Perm.cons _ (List.perm_append_comm (l₁ := [fz Φ]) (l₂ := A))).trans ?_
  exact (List.perm_append_comm (l₁ := [fz Φ]) (l₂ := A ++ [fz Φ]))
/-- A row as if frozen. -/
theorem row_iced {t : TypeId} {sz n : Nat} {v : Value} {xs : List Value} {r : Res} (h : rowA t sz v n xs r) : RdRow (fun b => (r b).map (·.2)) sz v n xs := by
  unfold rowA at h
  obtain ⟨hl, h⟩ := h
  refine ⟨hl, ?_⟩
  rcases h with ⟨rfl, rfl⟩ | ⟨b, o, cap, cur, rfl, h2, h3, h4, h5⟩
  · exact ⟨none, 0, rfl, .inl rfl⟩
  · refine ⟨_, cap, rfl, .inr ⟨b, o, rfl, cur, t, (0, 0), by simp only [h2]; rfl, fun j u hj => ?_⟩⟩
    have hj' : j < n * sz := by have := (List.getElem?_eq_some_iff.1 hj).1; omega
    rw [← h5, List.getElem?_take, if_pos hj', List.getElem?_drop] at hj
    simpa using hj
end Go.Proofs.YtccgdnocldmjeaaDoor
