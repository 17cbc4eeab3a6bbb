/- Separation logic over the model's worlds: resources, lists of heap atoms with a frame, triples of calls, and weakest preconditions of code over a partial environment of slots. Nothing of any program stands here. -/
import Derived.Orders
import Derived.Below
import Derived.Tactics
import Derived.Laws.AppendOwn
import Derived.Laws.CopyRow
import Derived.Laws.ResultCell
import Derived.Laws.Slices
import Derived.Laws.Small
import Derived.Laws.StructEq
import Derived.Laws.Pointers
import Derived.Laws.Unary
import Derived.Laws.Cells
set_option linter.unusedSimpArgs false
set_option linter.unusedVariables false
namespace Go.Proofs.Ytmeaekcengmfbaa

/-- What is known of a block: is it owned (true) or frozen for ever (false), and what it holds. -/
abbrev Res := Nat → Option (Bool × Obj)

inductive J1 : Option (Bool × Obj) → Option (Bool × Obj) → Option (Bool × Obj) → Prop where
  | l (x) : J1 x none x
  | r (x) : J1 none x x
  | f (o) : J1 (some (false, o)) (some (false, o)) (some (false, o))

def Join (r s t : Res) : Prop := ∀ b, J1 (r b) (s b) (t b)

theorem J1.comm {x y z} (h : J1 x y z) : J1 y x z := by cases h <;> constructor
theorem Join.comm {r s t : Res} (h : Join r s t) : Join s r t := fun b => (h b).comm

theorem J1.assoc {x y xy z t} (h : J1 x y xy) (k : J1 xy z t) : ∃ yz, J1 y z yz ∧ J1 x yz t := by
  cases h
  case l => exact ⟨z, .r _, k⟩
  case r => exact ⟨t, k, .r _⟩
  case f o =>
    generalize hx : (some (false, o) : Option (Bool × Obj)) = u at k
    cases k
    case l => subst hx; exact ⟨some (false, o), .l _, .f o⟩
    case r => cases hx
    case f => cases hx; exact ⟨some (false, o), .f o, .f o⟩

theorem Join.assoc {r s rs t u : Res} (h : Join r s rs) (k : Join rs t u) : ∃ st, Join s t st ∧ Join r st u :=
  ⟨fun b => Classical.choose ((h b).assoc (k b)), fun b => (Classical.choose_spec ((h b).assoc (k b))).1, fun b => (Classical.choose_spec ((h b).assoc (k b))).2⟩

theorem Join.assoc' {r s st t u : Res} (h : Join s t st) (k : Join r st u) : ∃ rs, Join r s rs ∧ Join rs t u := by
  obtain ⟨x, h1, h2⟩ := h.comm.assoc k.comm
  exact ⟨x, h1.comm, h2.comm⟩

theorem Join.unit (r : Res) : Join (fun _ => none) r r := fun b => .r _

theorem J1.left {x y z} (h : J1 x y z) {u} (hx : x = some u) : z = some u := by
  cases h
  · exact hx
  · cases hx
  · exact hx

theorem J1.owned {x y z} (h : J1 x y z) {o} (hx : x = some (true, o)) : y = none := by
  cases h
  · rfl
  · cases hx
  · cases hx

theorem Join.left {r s t : Res} (h : Join r s t) {b x} (hb : r b = some x) : t b = some x := (h b).left hb

theorem Join.right {r s t : Res} (h : Join r s t) {b x} (hb : s b = some x) : t b = some x := h.comm.left hb

abbrev HP := Res → Prop

def stars : List HP → Res → Prop
  | [] => fun _ => True
  | p :: l => fun t => ∃ r s, Join r s t ∧ p r ∧ stars l s

theorem stars_up : ∀ {l : List HP} {r x t : Res}, stars l r → Join r x t → stars l t
  | [], _, _, _, _, _ => trivial
  | p :: l, r, x, t, ⟨a, b, hj, hp, hl⟩, h => by
    obtain ⟨c, h1, h2⟩ := hj.assoc h
    exact ⟨a, c, h2, hp, stars_up hl h1⟩

theorem stars_swap {p q : HP} {l : List HP} {r : Res} (h : stars (p :: q :: l) r) : stars (q :: p :: l) r := by
  obtain ⟨a, b, h1, hp, c, d, h2, hq, hl⟩ := h
  obtain ⟨x, h3, h4⟩ := h2.assoc' h1
  obtain ⟨y, h5, h6⟩ := h3.comm.assoc h4
  exact ⟨c, y, h6, hq, a, d, h5, hp, hl⟩

theorem stars_perm {l l' : List HP} (h : l.Perm l') : ∀ {r : Res}, stars l r → stars l' r := by
  induction h with
  | nil => exact id
  | cons p _ ih => rintro r ⟨a, b, h1, hp, hl⟩; exact ⟨a, b, h1, hp, ih hl⟩
  | swap p q l => exact stars_swap
  | trans _ _ ih1 ih2 => exact fun h => ih2 (ih1 h)

theorem stars_append : ∀ {l1 l2 : List HP} {r : Res}, stars (l1 ++ l2) r ↔ ∃ r1 r2, Join r1 r2 r ∧ stars l1 r1 ∧ stars l2 r2
  | [], l2, r => ⟨fun h => ⟨_, r, Join.unit r, trivial, h⟩, fun ⟨_, _, hj, _, h⟩ => stars_up h hj.comm⟩
  | p :: l1, l2, r => by
    constructor
    · rintro ⟨a, b, h1, hp, hl⟩
      obtain ⟨r1, r2, hj, k1, k2⟩ := stars_append.1 hl
      obtain ⟨x, h3, h4⟩ := hj.assoc' h1
      exact ⟨x, r2, h4, ⟨a, r1, h3, hp, k1⟩, k2⟩
    · rintro ⟨r1, r2, hj, ⟨a, b, h1, hp, hl⟩, k2⟩
      obtain ⟨x, h3, h4⟩ := h1.assoc hj
      exact ⟨a, x, h4, hp, stars_append.2 ⟨b, r2, h3, hl, k2⟩⟩

def Sat (w : World) (r : Res) : Prop := ∀ b x, r b = some x → w.heap[b]? = some x.2

theorem Sat.left {w : World} {r s t : Res} (h : Sat w t) (hj : Join r s t) : Sat w r := fun b x hb => h b x (hj.left hb)
theorem Sat.right {w : World} {r s t : Res} (h : Sat w t) (hj : Join r s t) : Sat w s := fun b x hb => h b x (hj.right hb)

def Holds (l : List HP) (F : Res) (w : World) : Prop := ∃ r t, stars l r ∧ Join r F t ∧ Sat w t

theorem Holds.perm {l l' : List HP} {F : Res} {w : World} (hp : l.Perm l') : Holds l F w → Holds l' F w :=
  fun ⟨r, t, h, hj, hs⟩ => ⟨r, t, stars_perm hp h, hj, hs⟩

theorem Holds.satF {l : List HP} {F : Res} {w : World} : Holds l F w → Sat w F := fun ⟨_, _, _, hj, hs⟩ => hs.right hj

/-- The frame: what stands behind in the list goes with the frame, and comes back. -/
theorem Holds.frame {l1 l2 : List HP} {F : Res} {w : World} (h : Holds (l1 ++ l2) F w) :
    ∃ G, Holds l1 G w ∧ ∀ l1' w', Holds l1' G w' → Holds (l1' ++ l2) F w' := by
  obtain ⟨r, t, hr, hj, hs⟩ := h
  obtain ⟨r1, r2, h1, k1, k2⟩ := stars_append.1 hr
  obtain ⟨G, h3, h4⟩ := h1.assoc hj
  refine ⟨G, ⟨r1, t, k1, h4, hs⟩, ?_⟩
  rintro l1' w' ⟨r1', t', k1', h5, hs'⟩
  obtain ⟨x, h6, h7⟩ := h3.assoc' h5
  exact ⟨x, t', stars_append.2 ⟨r1', r2, h6, k1', k2⟩, h7, hs'⟩

/-- The frame, from the other side. -/
theorem Holds.frameR {l1 l2 : List HP} {F : Res} {w : World} (h : Holds (l1 ++ l2) F w) :
    ∃ G, Holds l2 G w ∧ ∀ l2' w', Holds l2' G w' → Holds (l1 ++ l2') F w' := by
  obtain ⟨G, h1, h2⟩ := Holds.frame (h.perm List.perm_append_comm)
  exact ⟨G, h1, fun l w' k => (h2 l w' k).perm List.perm_append_comm⟩

theorem Holds.drop {p : HP} {l : List HP} {F : Res} {w : World} (h : Holds (p :: l) F w) : Holds l F w := by
  obtain ⟨r, t, ⟨a, b, h1, hp, hl⟩, hj, hs⟩ := h
  exact ⟨r, t, stars_up hl h1.comm, hj, hs⟩

theorem Holds.imp {p q : HP} {l : List HP} {F : Res} {w : World} (hpq : ∀ r, p r → q r) (h : Holds (p :: l) F w) : Holds (q :: l) F w := by
  obtain ⟨r, t, ⟨a, b, h1, hp, hl⟩, hj, hs⟩ := h
  exact ⟨r, t, ⟨a, b, h1, hpq _ hp, hl⟩, hj, hs⟩

/-- A fact that follows from an atom. -/
theorem Holds.fact {p : HP} {l : List HP} {F : Res} {w : World} {φ : Prop} (hp : ∀ r, p r → φ) (h : Holds (p :: l) F w) : φ := by
  obtain ⟨r, t, ⟨a, b, h1, hp', hl⟩, hj, hs⟩ := h
  exact hp _ hp'

/-- What the first atom says of the world. -/
theorem Holds.sees {p : HP} {l : List HP} {F : Res} {w : World} (h : Holds (p :: l) F w) : ∃ r, p r ∧ Sat w r := by
  obtain ⟨r, t, ⟨a, b, h1, hp', hl⟩, hj, hs⟩ := h
  exact ⟨a, hp', (hs.left hj).left h1⟩

theorem Holds.left_ {l k : List HP} {F : Res} {w : World} (h : Holds (l ++ k) F w) : Holds l F w := by
  obtain ⟨r, t, hr, hj, hs⟩ := h
  obtain ⟨a, b, h1, k1, k2⟩ := stars_append.1 hr
  exact ⟨r, t, stars_up k1 h1, hj, hs⟩

def Ext (w w' : World) : Prop := w'.os = w.os ∧ w'.tape = w.tape ∧ w'.output = w.output ∧ w.heap.size ≤ w'.heap.size
theorem Ext.refl (w : World) : Ext w w := ⟨rfl, rfl, rfl, Nat.le_refl _⟩
theorem Ext.trans {a b c : World} (h : Ext a b) (k : Ext b c) : Ext a c :=
  ⟨k.1.trans h.1, k.2.1.trans h.2.1, k.2.2.1.trans h.2.2.1, Nat.le_trans h.2.2.2 k.2.2.2⟩

/-! ### Atoms -/

/-- A block that is owned. -/
def blk (b : Nat) (o : Obj) : HP := fun r => r b = some (true, o)
/-- A block that never changes any more. -/
def ice (b : Nat) (o : Obj) : HP := fun r => r b = some (false, o)
/-- An owned row of cells. -/
def cel (b : Nat) (t : TypeId) (cs : List Value) : HP := blk b (.cells cs.toArray t (0, 0))
/-- A plain fact as an atom. -/
def pureH (φ : Prop) : HP := fun _ => φ
/-- Several atoms as one. -/
def starH (l : List HP) : HP := stars l
/-- Some atom. -/
def exH {α : Type} (f : α → HP) : HP := fun r => ∃ x, f x r

theorem Holds.open_star {l k : List HP} {F : Res} {w : World} (h : Holds (starH l :: k) F w) : Holds (l ++ k) F w := by
  obtain ⟨r, t, ⟨a, b, h1, hp, hl⟩, hj, hs⟩ := h
  exact ⟨r, t, stars_append.2 ⟨a, b, h1, hp, hl⟩, hj, hs⟩

theorem Holds.shut_star {l k : List HP} {F : Res} {w : World} (h : Holds (l ++ k) F w) : Holds (starH l :: k) F w := by
  obtain ⟨r, t, hr, hj, hs⟩ := h
  obtain ⟨a, b, h1, hp, hl⟩ := stars_append.1 hr
  exact ⟨r, t, ⟨a, b, h1, hp, hl⟩, hj, hs⟩

theorem Holds.open_ex {α : Type} {f : α → HP} {k : List HP} {F : Res} {w : World} (h : Holds (exH f :: k) F w) : ∃ x, Holds (f x :: k) F w := by
  obtain ⟨r, t, ⟨a, b, h1, ⟨x, hp⟩, hl⟩, hj, hs⟩ := h
  exact ⟨x, r, t, ⟨a, b, h1, hp, hl⟩, hj, hs⟩

theorem Holds.shut_ex {α : Type} {f : α → HP} {k : List HP} {F : Res} {w : World} (x : α) (h : Holds (f x :: k) F w) : Holds (exH f :: k) F w :=
  h.imp fun _ hp => ⟨x, hp⟩

theorem Holds.open_pure {φ : Prop} {k : List HP} {F : Res} {w : World} (h : Holds (pureH φ :: k) F w) : φ ∧ Holds k F w :=
  ⟨h.fact fun _ h => h, h.drop⟩

theorem Holds.shut_pure {φ : Prop} {k : List HP} {F : Res} {w : World} (hφ : φ) (h : Holds k F w) : Holds (pureH φ :: k) F w := by
  obtain ⟨r, t, hr, hj, hs⟩ := h
  exact ⟨r, t, ⟨_, r, Join.unit r, hφ, hr⟩, hj, hs⟩

/-- An atom that can be had twice. -/
def Dup (p : HP) : Prop := ∀ r, p r → ∃ s, Join s r r ∧ p s

theorem Holds.dup {p : HP} (hd : Dup p) {k : List HP} {F : Res} {w : World} (h : Holds (p :: k) F w) : Holds (p :: p :: k) F w := by
  obtain ⟨r, t, ⟨a, b, h1, hp, hl⟩, hj, hs⟩ := h
  obtain ⟨s, h2, hps⟩ := hd a hp
  obtain ⟨x, h3, h4⟩ := h2.assoc h1
  exact ⟨r, t, ⟨s, x, h4, hps, a, b, h3, hp, hl⟩, hj, hs⟩

/-! ### New blocks, changed blocks -/

theorem Sat.lt {w : World} {r : Res} (h : Sat w r) {b x} (hb : r b = some x) : b < w.heap.size := by
  have := h b x hb
  exact (Array.getElem?_eq_some_iff.1 this).1

theorem Holds.alloc {l : List HP} {F : Res} {w : World} (o : Obj) (h : Holds l F w) : Holds (blk w.heap.size o :: l) F (w.alloc o) := by
  obtain ⟨r, t, hr, hj, hs⟩ := h
  have hnone : t w.heap.size = none := by
    cases ht : t w.heap.size with
    | none => rfl
    | some x => exact absurd (hs.lt ht) (Nat.lt_irrefl _)
  have hrn : r w.heap.size = none := by
    cases hrr : r w.heap.size with
    | none => rfl
    | some x => rw [hj.left hrr] at hnone; cases hnone
  have hFn : F w.heap.size = none := by
    cases hrr : F w.heap.size with
    | none => rfl
    | some x => rw [hj.right hrr] at hnone; cases hnone
  refine ⟨fun b => if b = w.heap.size then some (true, o) else r b, fun b => if b = w.heap.size then some (true, o) else t b,
    ⟨fun b => if b = w.heap.size then some (true, o) else none, r, ?_, by simp [blk], hr⟩, ?_, ?_⟩
  · intro b
    by_cases hb : b = w.heap.size
    · subst hb; simp only [if_pos, hrn]; exact .l _
    · simp only [if_neg hb]; exact .r _
  · intro b
    by_cases hb : b = w.heap.size
    · subst hb; simp only [if_pos, hFn]; exact .l _
    · simp only [if_neg hb]; exact hj b
  · intro b x hb
    by_cases hbb : b = w.heap.size
    · subst hbb
      simp only [if_pos, Option.some.injEq] at hb
      subst hb
      exact heap_alloc_new w o
    · simp only [if_neg hbb] at hb
      rw [heap_alloc_old w o b (hs.lt hb)]
      exact hs b x hb

/-- An owned block is given new contents. -/
theorem Holds.put {l : List HP} {F : Res} {w w' : World} {b : Nat} {o o' : Obj} (h : Holds (blk b o :: l) F w)
    (hb : w'.heap[b]? = some o') (hold : ∀ k, k ≠ b → k < w.heap.size → w'.heap[k]? = w.heap[k]?) : Holds (blk b o' :: l) F w' := by
  obtain ⟨r, t, ⟨a, c, h1, hp, hl⟩, hj, hs⟩ := h
  have hcb : c b = none := (h1 b).owned hp
  have hrb : r b = some (true, o) := h1.left hp
  have hFb : F b = none := (hj b).owned hrb
  refine ⟨fun k => if k = b then some (true, o') else r k, fun k => if k = b then some (true, o') else t k,
    ⟨fun k => if k = b then some (true, o') else a k, c, ?_, by simp [blk], hl⟩, ?_, ?_⟩
  · intro k
    by_cases hk : k = b
    · subst hk; simp only [if_pos, hcb]; exact .l _
    · simp only [if_neg hk]; exact h1 k
  · intro k
    by_cases hk : k = b
    · subst hk; simp only [if_pos, hFb]; exact .l _
    · simp only [if_neg hk]; exact hj k
  · intro k x hx
    by_cases hk : k = b
    · subst hk
      simp only [if_pos, Option.some.injEq] at hx
      subst hx
      exact hb
    · simp only [if_neg hk] at hx
      rw [hold k hk (hs.lt hx)]
      exact hs k x hx

/-- The world that a list sees may turn elsewhere: new blocks behind, the same blocks ahead. -/
theorem Holds.world {l : List HP} {F : Res} {w w' : World} (h : Holds l F w) (hold : ∀ k, k < w.heap.size → w'.heap[k]? = w.heap[k]?) : Holds l F w' := by
  obtain ⟨r, t, hr, hj, hs⟩ := h
  exact ⟨r, t, hr, hj, fun b x hb => by rw [hold b (hs.lt hb)]; exact hs b x hb⟩

theorem Holds.drew {l : List HP} {F : Res} {w : World} (h : Holds l F w) : Holds l F w.drew := h.world fun _ _ => rfl

/-- An owned block is frozen for ever. -/
theorem Holds.freeze {l : List HP} {F : Res} {w : World} {b : Nat} {o : Obj} (h : Holds (blk b o :: l) F w) : Holds (ice b o :: l) F w := by
  obtain ⟨r, t, ⟨a, c, h1, hp, hl⟩, hj, hs⟩ := h
  have hcb : c b = none := (h1 b).owned hp
  have hrb : r b = some (true, o) := h1.left hp
  have hFb : F b = none := (hj b).owned hrb
  have htb : t b = some (true, o) := hj.left hrb
  refine ⟨fun k => if k = b then some (false, o) else r k, fun k => if k = b then some (false, o) else t k,
    ⟨fun k => if k = b then some (false, o) else a k, c, ?_, by simp [ice], hl⟩, ?_, ?_⟩
  · intro k
    by_cases hk : k = b
    · subst hk; simp only [if_pos, hcb]; exact .l _
    · simp only [if_neg hk]; exact h1 k
  · intro k
    by_cases hk : k = b
    · subst hk; simp only [if_pos, hFb]; exact .l _
    · simp only [if_neg hk]; exact hj k
  · intro k x hx
    by_cases hk : k = b
    · subst hk
      simp only [if_pos, Option.some.injEq] at hx
      subst hx
      exact hs _ (true, o) htb
    · simp only [if_neg hk] at hx
      exact hs k x hx

theorem dup_ice (b : Nat) (o : Obj) : Dup (ice b o) := fun r h => by
  have h' : r b = some (false, o) := h
  refine ⟨fun k => if k = b then some (false, o) else none, fun k => ?_, by simp [ice]⟩
  by_cases hk : k = b
  · subst hk; simp only [if_pos, h']; exact .f _
  · simp only [if_neg hk]; exact .r _

/-! ### Triples of calls -/

def Trip (P : Program) (f : FuncId) (args : List Value) (pre : List HP) (post : Value → List HP → Prop) : Prop :=
  ∀ F w, Holds pre F w → Calls P f args.toArray w fun e w' => ∃ v l, e = .returned v ∧ post v l ∧ Holds l F w' ∧ Ext w w'

theorem Trip.mono {P : Program} {f : FuncId} {args : List Value} {pre : List HP} {post post' : Value → List HP → Prop} (h : Trip P f args pre post)
    (hp : ∀ v l, post v l → post' v l) : Trip P f args pre post' :=
  fun F w hw => (h F w hw).mono fun _ _ ⟨v, l, he, hl, hr⟩ => ⟨v, l, he, hp v l hl, hr⟩

/-- Whatever stands behind the premise's atoms stays. -/
theorem Trip.frame {P : Program} {f : FuncId} {args : List Value} {pre : List HP} {post : Value → List HP → Prop} (h : Trip P f args pre post) (k : List HP) :
    Trip P f args (pre ++ k) fun v l => ∃ l', l = l' ++ k ∧ post v l' := by
  intro F w hw
  obtain ⟨G, h1, h2⟩ := hw.frame
  exact (h G w h1).mono fun e w' ⟨v, l, he, hp, hl, hx⟩ => ⟨v, l ++ k, he, ⟨l, rfl, hp⟩, h2 l w' hl, hx⟩

theorem Trip.pre {P : Program} {f : FuncId} {args : List Value} {pre pre' : List HP} {post : Value → List HP → Prop} (h : Trip P f args pre post)
    (hp : ∀ F w, Holds pre' F w → Holds pre F w) : Trip P f args pre' post :=
  fun F w hw => h F w (hp F w hw)

/-! ### The environment -/

abbrev Env := List (Nat × Value)

def elook : Env → Nat → Option Value
  | [], _ => none
  | (i, v) :: e, j => bif Nat.beq i j then some v else elook e j

abbrev eset (e : Env) (d : Nat) (v : Value) : Env := (d, v) :: e

theorem nbeq_ne {i j : Nat} (h : i ≠ j) : Nat.beq i j = false := by
  cases hb : Nat.beq i j
  · rfl
  · exact absurd (Nat.eq_of_beq_eq_true hb) h

theorem elook_eset (e : Env) (d : Nat) (v : Value) (j : Nat) : elook (eset e d v) j = if d = j then some v else elook e j := by
  simp only [eset, elook]
  by_cases h : d = j
  · subst h; simp
  · simp [h, nbeq_ne h]

structure EnvOk (n : Nat) (e : Env) (a : Act) : Prop where
  size : a.tmps.size = n
  defers : a.defers = []
  at_ : ∀ i v, elook e i = some v → a.tmps[i]? = some v

theorem EnvOk.put {n : Nat} {e : Env} {a : Act} (h : EnvOk n e a) {d : Nat} (v : Value) (hd : Nat.blt d n = true) : EnvOk n (eset e d v) (a.put (some d) v) := by
  have hd' : d < n := by simpa [Nat.blt_eq] using hd
  refine ⟨by simp [Act.put, h.size], h.defers, fun i u hu => ?_⟩
  rw [elook_eset] at hu
  by_cases hi : d = i
  · subst hi
    simp only [if_pos, Option.some.injEq] at hu
    subst hu
    simp [Act.put, h.size, hd']
  · rw [if_neg hi] at hu
    simp only [Act.put, Array.getElem?_setIfInBounds_ne hi]
    exact h.at_ i u hu

/-- A slot that is written and never read again. -/
theorem EnvOk.weaken {n : Nat} {e e' : Env} {a : Act} (h : EnvOk n e a) (hs : ∀ i v, elook e' i = some v → elook e i = some v) : EnvOk n e' a :=
  ⟨h.size, h.defers, fun i v hv => h.at_ i v (hs i v hv)⟩

/-- What an operand is. -/
def evl (e : Env) : Operand → Option Value
  | .tmp i => elook e i
  | .const v => some v
  | .global g => some (.pointer (some ⟨g, 0, none⟩))
  | .func f => some (.func (.func f) #[] #[])

theorem EnvOk.eval {n : Nat} {e : Env} {a : Act} (h : EnvOk n e a) {x : Operand} {v : Value} (hx : evl e x = some v) : a.eval x = v := by
  cases x with
  | tmp i =>
    have := h.at_ i v hx
    simp [Act.eval, this]
  | const c => simpa [evl, Act.eval] using hx
  | global g => simpa [evl, Act.eval] using hx
  | func f => simpa [evl, Act.eval] using hx

/-! ### Code -/

def calmX : Exit → Bool
  | .panic _ => false
  | _ => true

def SPost (n : Nat) (F : Res) (w0 : World) (Q : Exit → Env → List HP → Prop) : Exit → Act → World → Prop :=
  fun x a w => calmX x = true ∧ ∃ e l, EnvOk n e a ∧ Holds l F w ∧ Ext w0 w ∧ Q x e l

def Wp (P : Program) (n : Nat) (c : Code) (Q : Exit → Env → List HP → Prop) (e : Env) (l : List HP) : Prop :=
  ∀ F w a, Holds l F w → EnvOk n e a → Code.wp P c (SPost n F w Q) a w

def Thn (K : Env → List HP → Prop) (Q : Exit → Env → List HP → Prop) : Exit → Env → List HP → Prop
  | .normal => K
  | x => Q x

def Blk (id : Nat) (Q : Exit → Env → List HP → Prop) : Exit → Env → List HP → Prop
  | .exit i => if i == id then Q .normal else Q (.exit i)
  | x => Q x

section
variable {P : Program} {n : Nat} {Q : Exit → Env → List HP → Prop} {e : Env} {l : List HP}

theorem SPost.mono {F : Res} {w0 w1 : World} {Q' : Exit → Env → List HP → Prop} (hx : Ext w0 w1) (hq : ∀ x e l, Q x e l → Q' x e l) {x : Exit} {a : Act} {w : World}
    (h : SPost n F w1 Q x a w) : SPost n F w0 Q' x a w := by
  obtain ⟨hc, e, l, h1, h2, h3, h4⟩ := h
  exact ⟨hc, e, l, h1, h2, hx.trans h3, hq x e l h4⟩

theorem Wp.mono {c : Code} {Q' : Exit → Env → List HP → Prop} (h : Wp P n c Q e l) (hq : ∀ x e l, Q x e l → Q' x e l) : Wp P n c Q' e l :=
  fun F w a hl he => wp_mono (h F w a hl he) fun _ _ _ h => SPost.mono (Ext.refl w) hq h

theorem Wp.heap {c : Code} {l' : List HP} (hp : ∀ F w, Holds l F w → Holds l' F w) (h : Wp P n c Q e l') : Wp P n c Q e l :=
  fun F w a hl he => h F w a (hp F w hl) he

theorem Wp.env {c : Code} {e' : Env} (hs : ∀ i v, elook e' i = some v → elook e i = some v) (h : Wp P n c Q e' l) : Wp P n c Q e l :=
  fun F w a hl he => h F w a hl (he.weaken hs)

theorem Wp.skip (h : Q .normal e l) : Wp P n .skip Q e l := fun _ w _ hl he => wp_skip ⟨rfl, e, l, he, hl, Ext.refl w, h⟩
theorem Wp.ret (h : Q .ret e l) : Wp P n .ret Q e l := fun _ w _ hl he => wp_ret ⟨rfl, e, l, he, hl, Ext.refl w, h⟩
theorem Wp.exit {id : Nat} (h : Q (.exit id) e l) : Wp P n (.exit id) Q e l := fun _ w _ hl he => wp_exit ⟨rfl, e, l, he, hl, Ext.refl w, h⟩

theorem Wp.seq {c d : Code} (h : Wp P n c (Thn (Wp P n d Q) Q) e l) : Wp P n (.seq c d) Q e l := by
  intro F w a hl he
  refine wp_seq (wp_mono (h F w a hl he) ?_)
  rintro x a' w' ⟨hc, e', l', he', hl', hx, hq⟩
  cases x
  case normal => exact wp_mono (hq F w' a' hl' he') fun _ _ _ h => SPost.mono hx (fun _ _ _ h => h) h
  all_goals exact ⟨hc, e', l', he', hl', hx, hq⟩

theorem Wp.seq_k {c d : Code} (h : ∀ K : Env → List HP → Prop, (∀ e l, Wp P n d Q e l → K e l) → Wp P n c (Thn K Q) e l) : Wp P n (.seq c d) Q e l :=
  Wp.seq (h _ fun _ _ h => h)

theorem Wp.cond {x : Operand} {c d : Code} {b : Bool} (hx : evl e x = some (.bool b)) (ht : b = true → Wp P n c Q e l) (hf : b = false → Wp P n d Q e l) :
    Wp P n (.cond x c d) Q e l := by
  intro F w a hl he
  refine wp_cond (t := b) (he.eval hx) ?_
  cases b
  · exact hf rfl F w a hl he
  · exact ht rfl F w a hl he

theorem Wp.block {id : Nat} {c : Code} (h : Wp P n c (Blk id Q) e l) : Wp P n (.block id c) Q e l := by
  intro F w a hl he
  refine wp_block (wp_mono (h F w a hl he) ?_)
  rintro x a' w' ⟨hc, e', l', he', hl', hx, hq⟩
  cases x
  case exit i =>
    simp only [Exit.inBlock, Blk, beq_iff_eq] at hq ⊢
    split <;> rename_i hi
    · rw [if_pos hi] at hq; exact ⟨rfl, e', l', he', hl', hx, hq⟩
    · rw [if_neg hi] at hq; exact ⟨rfl, e', l', he', hl', hx, hq⟩
  all_goals exact ⟨hc, e', l', he', hl', hx, hq⟩

theorem wp_loop_ind {P : Program} {Q : Exit → Act → World → Prop} {c : Code} {R : Nat → Act → World → Prop}
    (hs : ∀ k a w, R k a w → c.wp P (Exit.then (fun a' w' => ∃ j, j < k ∧ R j a' w') Q) a w) {k : Nat} {a : Act} {w : World} (h : R k a w) : (Code.loop c).wp P Q a w := by
  intro b kk cs
  have key : ∀ n a w, R n a w → ∃ e a' w', Q e a' w' ∧ Arrives P (lone (b.at a (.code c :: .inLoop c :: kk)) cs w) b kk cs e a' w' := by
    intro n
    induction n using Nat.strongRecOn with
    | ind n ih =>
      intro a w h
      obtain ⟨e, a₁, w₁, hq, harr⟩ := hs n a w h b (.inLoop c :: kk) cs
      cases e with
      | normal =>
        obtain ⟨j, hj, hr⟩ := hq
        obtain ⟨e₂, a₂, w₂, hq₂, harr₂⟩ := ih j hj a₁ w₁ hr
        exact ⟨e₂, a₂, w₂, hq₂, .of_steps (Steps.trans harr (.one step_inLoop)) harr₂⟩
      | exit id => exact ⟨_, a₁, w₁, hq, .pass (x := .inLoop c) rfl (fun _ _ => .inl (by simp)) harr⟩
      | goto l => exact ⟨_, a₁, w₁, hq, .pass (x := .inLoop c) rfl (fun _ _ => .inl (by simp)) harr⟩
      | ret => exact ⟨_, a₁, w₁, hq, .pass (x := .inLoop c) rfl (fun _ _ => .inl (by simp)) harr⟩
      | panic ch => exact ⟨_, a₁, w₁, hq, .pass (x := .inLoop c) rfl (fun _ _ => .inl (by simp)) harr⟩
      | outgrown => exact ⟨_, a₁, w₁, hq, .pass (x := .inLoop c) rfl (fun _ _ => .inl (by simp)) harr⟩
  obtain ⟨e, a', w', hq, harr⟩ := key k a w h
  exact ⟨e, a', w', hq, .of_steps (.one step_loop) harr⟩

theorem Wp.loop {c : Code} (I : Nat → Env → List HP → Prop) (k : Nat) (h0 : I k e l)
    (hs : ∀ k e l, I k e l → Wp P n c (Thn (fun e' l' => ∃ j, j < k ∧ I j e' l') Q) e l) : Wp P n (.loop c) Q e l := by
  intro F w a hl he
  refine wp_loop_ind (R := fun k a w1 => ∃ e l, I k e l ∧ Holds l F w1 ∧ EnvOk n e a ∧ Ext w w1) ?_ ⟨e, l, h0, hl, he, Ext.refl w⟩ (k := k)
  rintro k a w1 ⟨e, l, hi, hl, he, hx⟩
  refine wp_mono (hs k e l hi F w1 a hl he) ?_
  rintro x a' w' ⟨hc, e', l', he', hl', hx', hq⟩
  cases x
  case normal =>
    obtain ⟨j, hj, hi'⟩ := hq
    exact ⟨j, hj, e', l', hi', hl', he', hx.trans hx'⟩
  all_goals exact ⟨hc, e', l', he', hl', hx.trans hx', hq⟩

end

/-! ### Operations: those that only read -/

/-- In every world in which C holds the operation gives v and leaves the world. -/
def Rdo (P : Program) (e : Env) (C : List HP) (op : Op) (ty : TypeId) (v : Value) : Prop :=
  ∀ G w a n dst pos after g, Holds C G w → EnvOk n e a → (execOp a.eval ⟨dst, op, ty, pos, after, g⟩).run P w = .ok (.value v) w

/-- An operation as a step of the symbolic state. -/
def Stp (P : Program) (n : Nat) (o : Oper) (e : Env) (l : List HP) (Φ : Env → List HP → Prop) : Prop :=
  ∀ F w a, Holds l F w → EnvOk n e a → ∀ (K : Act → World → Prop) (Q0 : Exit → Act → World → Prop),
    (∀ e' l' a' w', EnvOk n e' a' → Holds l' F w' → Ext w w' → Φ e' l' → K a' w') → o.wp P a w K Q0

theorem Rdo.more {P : Program} {e : Env} {C D : List HP} {op : Op} {ty : TypeId} {v : Value} (h : Rdo P e C op ty v) (hd : ∀ G w, Holds D G w → ∃ G', Holds C G' w) : Rdo P e D op ty v :=
  fun G w a n dst pos after g hl he => let ⟨G', h'⟩ := hd G w hl; h G' w a n dst pos after g h' he

theorem Stp.rd {P : Program} {n : Nat} {d : Nat} {op : Op} {ty : TypeId} {pos : String} {after : Array Edge} {g : Option (Nat × Bool)} {e : Env} {l : List HP} {Φ : Env → List HP → Prop} {v : Value}
    (h : Rdo P e l op ty v) (hd : Nat.blt d n = true) (hk : Φ (eset e d v) l) : Stp P n ⟨some d, op, ty, pos, after, g⟩ e l Φ := by
  intro F w a hl he K Q0 hK
  unfold Oper.wp
  rw [h F w a n (some d) pos after g hl he]
  exact hK _ _ _ _ (he.put v hd) hl (Ext.refl w) hk

section
variable {P : Program} {e : Env} {C : List HP} {ty : TypeId}

theorem Rdo.move {x : Operand} {v : Value} (hx : evl e x = some v) : Rdo P e C (.move x) ty v := by
  intro G w a n dst pos after g hl he
  simp [execOp, he.eval hx]

theorem Rdo.assign {x : Operand} {v : Value} (hx : evl e x = some v) : Rdo P e C (.assign x) ty v := by
  intro G w a n dst pos after g hl he
  simp [execOp, he.eval hx]

theorem Rdo.nilCheck {x : Operand} {p : Addr} (hx : evl e x = some (.pointer (some p))) : Rdo P e C (.nilCheck x) ty (.pointer (some p)) := by
  intro G w a n dst pos after g hl he
  simp [execOp, he.eval hx]

theorem Rdo.pick {c x y : Operand} {b : Bool} {u v : Value} (hc : evl e c = some (.bool b)) (hx : evl e x = some u) (hy : evl e y = some v) :
    Rdo P e C (.pick c x y) ty (if b = true then u else v) := by
  intro G w a n dst pos after g hl he
  simp [execOp, he.eval hc, he.eval hx, he.eval hy, asBool]

theorem Rdo.pick_t {c x y : Operand} {u : Value} (hc : evl e c = some (.bool true)) (hx : evl e x = some u) : Rdo P e C (.pick c x y) ty u := by
  intro G w a n dst pos after g hl he
  simp [execOp, he.eval hc, he.eval hx, asBool]

theorem Rdo.pick_f {c x y : Operand} {u : Value} (hc : evl e c = some (.bool false)) (hy : evl e y = some u) : Rdo P e C (.pick c x y) ty u := by
  intro G w a n dst pos after g hl he
  simp [execOp, he.eval hc, he.eval hy, asBool]

theorem Rdo.pickT {c x y : Operand} {b : Bool} {u : Value} (hc : evl e c = some (.bool b)) (hb : b = true) (hx : evl e x = some u) : Rdo P e C (.pick c x y) ty u := by
  subst hb
  exact Rdo.pick_t hc hx
theorem Rdo.pickF {c x y : Operand} {b : Bool} {u : Value} (hc : evl e c = some (.bool b)) (hb : b = false) (hy : evl e y = some u) : Rdo P e C (.pick c x y) ty u := by
  subst hb
  exact Rdo.pick_f hc hy

section ints
variable {x y : Operand} {xt yt : TypeId} {k : IntKind} {p q : Int}
theorem Rdo.add (hx : evl e x = some (.int k p)) (hy : evl e y = some (.int k q)) : Rdo P e C (.binOp .add xt x y yt) ty (.int k (k.wrap (p + q))) := by
  intro G w a n dst pos after g hl he
  simp [execOp, he.eval hx, he.eval hy, eqGuard, binOp, Op.intArith]
theorem Rdo.sub (hx : evl e x = some (.int k p)) (hy : evl e y = some (.int k q)) : Rdo P e C (.binOp .sub xt x y yt) ty (.int k (k.wrap (p - q))) := by
  intro G w a n dst pos after g hl he
  simp [execOp, he.eval hx, he.eval hy, eqGuard, binOp, Op.intArith]
theorem Rdo.mul (hx : evl e x = some (.int k p)) (hy : evl e y = some (.int k q)) : Rdo P e C (.binOp .mul xt x y yt) ty (.int k (k.wrap (p * q))) := by
  intro G w a n dst pos after g hl he
  simp [execOp, he.eval hx, he.eval hy, eqGuard, binOp, Op.intArith]

theorem wrap_in {k : IntKind} {z : Int} (h1 : k.min ≤ z) (h2 : z ≤ k.max) : k.wrap z = z := by
  cases k <;> simp [IntKind.wrap, IntKind.min, IntKind.max, IntKind.signed, IntKind.bits] at * <;> (try split) <;> omega

theorem Rdo.add64 (hx : evl e x = some (.int .i64 p)) (hy : evl e y = some (.int .i64 q)) (h : -9223372036854775808 ≤ p + q ∧ p + q ≤ 9223372036854775807) : Rdo P e C (.binOp .add xt x y yt) ty (.int .i64 (p + q)) := by
  have := Rdo.add (P := P) (C := C) (xt := xt) (yt := yt) (ty := ty) hx hy
  rwa [wrap_in (by simpa [IntKind.min, IntKind.signed, IntKind.bits] using h.1) (by simpa [IntKind.max, IntKind.signed, IntKind.bits] using h.2)] at this
theorem Rdo.sub64 (hx : evl e x = some (.int .i64 p)) (hy : evl e y = some (.int .i64 q)) (h : -9223372036854775808 ≤ p - q ∧ p - q ≤ 9223372036854775807) : Rdo P e C (.binOp .sub xt x y yt) ty (.int .i64 (p - q)) := by
  have := Rdo.sub (P := P) (C := C) (xt := xt) (yt := yt) (ty := ty) hx hy
  rwa [wrap_in (by simpa [IntKind.min, IntKind.signed, IntKind.bits] using h.1) (by simpa [IntKind.max, IntKind.signed, IntKind.bits] using h.2)] at this
theorem Rdo.mul64 (hx : evl e x = some (.int .i64 p)) (hy : evl e y = some (.int .i64 q)) (h : -9223372036854775808 ≤ p * q ∧ p * q ≤ 9223372036854775807) : Rdo P e C (.binOp .mul xt x y yt) ty (.int .i64 (p * q)) := by
  have := Rdo.mul (P := P) (C := C) (xt := xt) (yt := yt) (ty := ty) hx hy
  rwa [wrap_in (by simpa [IntKind.min, IntKind.signed, IntKind.bits] using h.1) (by simpa [IntKind.max, IntKind.signed, IntKind.bits] using h.2)] at this

theorem Rdo.eqi (hx : evl e x = some (.int k p)) (hy : evl e y = some (.int k q)) : Rdo P e C (.binOp .eql xt x y yt) ty (.bool (decide (p = q))) := by
  intro G w a n dst pos after g hl he
  simp [execOp, he.eval hx, he.eval hy, eqGuard, binOp, Op.intCmp]
  rfl
theorem Rdo.nei (hx : evl e x = some (.int k p)) (hy : evl e y = some (.int k q)) : Rdo P e C (.binOp .neq xt x y yt) ty (.bool (!decide (p = q))) := by
  intro G w a n dst pos after g hl he
  simp [execOp, he.eval hx, he.eval hy, eqGuard, binOp, Op.intCmp]
  rfl
theorem Rdo.lti (hx : evl e x = some (.int k p)) (hy : evl e y = some (.int k q)) : Rdo P e C (.binOp .lss xt x y yt) ty (.bool (decide (p < q))) := by
  intro G w a n dst pos after g hl he
  simp [execOp, he.eval hx, he.eval hy, eqGuard, binOp, Op.intCmp]
theorem Rdo.lei (hx : evl e x = some (.int k p)) (hy : evl e y = some (.int k q)) : Rdo P e C (.binOp .leq xt x y yt) ty (.bool (decide (p ≤ q))) := by
  intro G w a n dst pos after g hl he
  simp [execOp, he.eval hx, he.eval hy, eqGuard, binOp, Op.intCmp]
theorem Rdo.gti (hx : evl e x = some (.int k p)) (hy : evl e y = some (.int k q)) : Rdo P e C (.binOp .gtr xt x y yt) ty (.bool (decide (q < p))) := by
  intro G w a n dst pos after g hl he
  simp [execOp, he.eval hx, he.eval hy, eqGuard, binOp, Op.intCmp]
theorem Rdo.gei (hx : evl e x = some (.int k p)) (hy : evl e y = some (.int k q)) : Rdo P e C (.binOp .geq xt x y yt) ty (.bool (decide (q ≤ p))) := by
  intro G w a n dst pos after g hl he
  simp [execOp, he.eval hx, he.eval hy, eqGuard, binOp, Op.intCmp]
end ints

theorem Rdo.not {x : Operand} {xt : TypeId} {b : Bool} (hx : evl e x = some (.bool b)) : Rdo P e C (.unOp .not xt x) ty (.bool (!b)) := by
  intro G w a n dst pos after g hl he
  simp [execOp, he.eval hx, Op.unary]

theorem Rdo.extract {x : Operand} {vs : List Value} {i : Nat} {v : Value} (hx : evl e x = some (.tuple vs.toArray)) (hv : vs[i]? = some v) : Rdo P e C (.extract x i) ty v := by
  intro G w a n dst pos after g hl he
  simp [execOp, he.eval hx, Instr.extract, hv]

end

/-! ### Facts on types, as classes that a seat's text fills -/

def fldOff (P : Program) (s f : Nat) : Option (Nat × Nat) :=
  match P.underlying s with
  | some (.struct fs) => match fs[f]? with
    | some g => some (g.offset, P.cellsOf g.type)
    | none => none
  | _ => none
def fldTy (P : Program) (s f : Nat) : Option Nat :=
  match P.underlying s with
  | some (.struct fs) => (fs[f]?).map (·.type)
  | _ => none
def aggOf (P : Program) (t : TypeId) : Option Bool :=
  match P.underlying t with
  | some (.struct _) | some (.array _ _) => some true
  | some _ => some false
  | none => none
/-- The number of a type's cells. -/
class SZ (P : Program) (t : TypeId) (n : outParam Nat) : Prop where pf : (P.info? t).map (·.size) = some n
/-- Is a type a struct or an array? -/
class AG (P : Program) (t : TypeId) (b : outParam Bool) : Prop where pf : aggOf P t = some b
/-- The bytes of a type. -/
class BY (P : Program) (t : TypeId) (n : outParam Nat) : Prop where pf : (P.info? t).map (·.bytes) = some n
/-- A field's place and its number of cells (not 0). -/
class FO (P : Program) (s f : Nat) (o n : outParam Nat) : Prop where
  pf : fldOff P s f = some (o, n)
  ne : Nat.blt 0 n = true
/-- A field's type. -/
class FT (P : Program) (s f : Nat) (t : outParam Nat) : Prop where pf : fldTy P s f = some t
class EL (P : Program) (t : TypeId) (e : outParam Nat) : Prop where pf : P.underlying t = some (.slice e)
class AR (P : Program) (t : TypeId) (n e : outParam Nat) : Prop where pf : P.underlying t = some (.array n e)
class PT (P : Program) (t : TypeId) (e : outParam Nat) : Prop where pf : P.underlying t = some (.pointer e)
class ST (P : Program) (t : TypeId) : Prop where pf : P.underlying t = some .string
class BL (P : Program) (t : TypeId) : Prop where pf : P.underlying t = some .bool
class MP (P : Program) (t : TypeId) (k e : outParam Nat) : Prop where pf : P.underlying t = some (.map k e)
class IK (P : Program) (t : TypeId) (k : outParam IntKind) : Prop where pf : P.underlying t = some (.int k)
/-- The cells of a type's zero value. -/
class ZV (P : Program) (t : TypeId) (zs : outParam (List Value)) : Prop where pf : ((P.info? t).bind (·.zero)).map (·.cells) = some zs.toArray

section
variable {P : Program} {w : World}
theorem SZ.run {t n} (h : SZ P t n) : (sizeOf t).run P w = .ok n w := by
  have := h.pf
  cases hi : P.info? t with
  | none => rw [hi] at this; cases this
  | some i => rw [hi] at this; simp only [Option.map_some, Option.some.injEq] at this; simp [sizeOf, typeInfo, hi, this]
theorem AG.run {t b} (h : AG P t b) : (isAgg t).run P w = .ok b w := by
  have := h.pf
  unfold aggOf at this
  cases hu : P.underlying t with
  | none => rw [hu] at this; cases this
  | some d =>
    rw [hu] at this
    simp only [isAgg, Sem.run_bind, run_underlying hu, Result.andThen_ok]
    cases d <;> simp_all
theorem FO.run {s f o n : Nat} (h : FO P s f o n) (b off : Nat) : (Instr.fieldAt s (.pointer (some ⟨b, off, none⟩)) f).run P w = .ok (.pointer (some ⟨b, off + o, none⟩)) w := by
  have h1 := h.pf
  unfold fldOff at h1
  cases hu : P.underlying s with
  | none => rw [hu] at h1; cases h1
  | some d =>
    rw [hu] at h1
    cases d with
    | struct fs =>
      simp only at h1
      cases hf : fs[f]? with
      | none => rw [hf] at h1; cases h1
      | some g =>
        rw [hf] at h1
        simp only [Option.some.injEq, Prod.mk.injEq] at h1
        obtain ⟨rfl, h2⟩ := h1
        have hn : 0 < n := by have := h.ne; simpa [Nat.blt_eq] using this
        have hs : (sizeOf g.type).run P w = .ok n w := by
          unfold Program.cellsOf at h2
          cases hi : P.info? g.type with
          | none => rw [hi] at h2; simp at h2; omega
          | some i => rw [hi] at h2; simp at h2; simp [sizeOf, typeInfo, hi, h2]
        have hadd : (⟨b, off, none⟩ : Addr).add g.offset = ⟨b, off + g.offset, none⟩ := by unfold Addr.add; split <;> simp_all
        simp [Instr.fieldAt, run_underlying hu, hf, Instr.sureAddr, fieldPlace, hs, Nat.pos_iff_ne_zero.1 hn, hadd]
    | _ => cases h1
end

theorem addr_add (b o n : Nat) : (⟨b, o, none⟩ : Addr).add n = ⟨b, o + n, none⟩ := by unfold Addr.add; split <;> simp_all

/-! ### Loads -/

def Lds (P : Program) (l : List HP) (a : Addr) (t : TypeId) (v : Value) : Prop :=
  ∀ F w, Holds l F w → (Instr.loadAt t (.pointer (some a))).run P w = .ok v w

theorem Lds.next {P : Program} {p : HP} {l : List HP} {a : Addr} {t : TypeId} {v : Value} (h : Lds P l a t v) : Lds P (p :: l) a t v :=
  fun F w hl => h F w hl.drop

/-- A block's cells, whoever has it. -/
def hasCells (w : World) (b : Nat) (cs : List Value) : Prop := ∃ t fr, w.heap[b]? = some (.cells cs.toArray t fr)

theorem hasCells.cell {w : World} {b : Nat} {cs : List Value} (h : hasCells w b cs) (j : Nat) : w.cell? ⟨b, j, none⟩ = cs[j]? := by
  obtain ⟨t, fr, h⟩ := h
  simp [World.cell?, h]

theorem run_load1 {P : Program} {w : World} {b off : Nat} {cs : List Value} {t : TypeId} {v : Value} (ha : AG P t false) (h : hasCells w b cs) (hv : cs[off]? = some v) :
    (Instr.loadAt t (.pointer (some ⟨b, off, none⟩))).run P w = .ok v w := by
  simp [Instr.loadAt, Instr.sureAddr, loadVar, ha.run, h.cell, hv]

theorem run_loadN {P : Program} {w : World} {b off n : Nat} {cs vs : List Value} {t : TypeId} (ha : AG P t true) (hz : SZ P t n) (h : hasCells w b cs)
    (hn : vs.length = n) (hv : ∀ j v, vs[j]? = some v → cs[off + j]? = some v) :
    (Instr.loadAt t (.pointer (some ⟨b, off, none⟩))).run P w = .ok (.agg vs.toArray) w := by
  have := run_loadCells_list (P := P) w ⟨b, off, none⟩ vs (fun j v hj => by rw [addr_add, h.cell]; exact hv j v hj)
  rw [hn] at this
  simp [Instr.loadAt, Instr.sureAddr, loadVar, ha.run, hz.run, this]

theorem cel_sees {l : List HP} {F : Res} {w : World} {b : Nat} {t : TypeId} {cs : List Value} (h : Holds (cel b t cs :: l) F w) : w.heap[b]? = some (.cells cs.toArray t (0, 0)) := by
  obtain ⟨r, hr, hs⟩ := h.sees
  exact hs b _ hr
theorem ice_sees {l : List HP} {F : Res} {w : World} {b : Nat} {o : Obj} (h : Holds (ice b o :: l) F w) : w.heap[b]? = some o := by
  obtain ⟨r, hr, hs⟩ := h.sees
  exact hs b _ hr
theorem blk_sees {l : List HP} {F : Res} {w : World} {b : Nat} {o : Obj} (h : Holds (blk b o :: l) F w) : w.heap[b]? = some o := by
  obtain ⟨r, hr, hs⟩ := h.sees
  exact hs b _ hr

theorem Lds.one {P : Program} {l : List HP} {b off : Nat} {t' t : TypeId} {cs : List Value} {v : Value} [ha : AG P t false] (hv : cs[off]? = some v) : Lds P (cel b t' cs :: l) ⟨b, off, none⟩ t v :=
  fun F w hl => run_load1 ha ⟨_, _, cel_sees hl⟩ hv

theorem Lds.all {P : Program} {l : List HP} {b n : Nat} {t' t : TypeId} {cs : List Value} [ha : AG P t true] [hz : SZ P t n] (hn : cs.length = n) : Lds P (cel b t' cs :: l) ⟨b, 0, none⟩ t (.agg cs.toArray) :=
  fun F w hl => run_loadN ha hz ⟨_, _, cel_sees hl⟩ hn (fun j v hj => by simpa using hj)

theorem Lds.part {P : Program} {l : List HP} {b off n : Nat} {t' t : TypeId} {cs vs pre post : List Value} [ha : AG P t true] [hz : SZ P t n] (he : cs = pre ++ (vs ++ post)) (hp : pre.length = off) (hn : vs.length = n) :
    Lds P (cel b t' cs :: l) ⟨b, off, none⟩ t (.agg vs.toArray) :=
  fun F w hl => run_loadN ha hz ⟨_, _, cel_sees hl⟩ hn (fun j v hj => by
    subst he; subst hp
    rw [List.getElem?_append_right (by omega), Nat.add_sub_cancel_left]
    rw [List.getElem?_append_left (List.getElem?_eq_some_iff.1 hj).1]
    exact hj)

section
variable {P : Program} {e : Env} {C : List HP} {ty : TypeId}

theorem Rdo.load {x : Operand} {a : Addr} {t : TypeId} {v : Value} (hx : evl e x = some (.pointer (some a))) (hl : Lds P C a t v) : Rdo P e C (.load t x) ty v := by
  intro G w a' n dst pos after g hl' he
  simp [execOp, he.eval hx, hl G w hl']

theorem Rdo.fieldAddr {x : Operand} {b off s f o n : Nat} [h : FO P s f o n] (hx : evl e x = some (.pointer (some ⟨b, off, none⟩))) : Rdo P e C (.fieldAddr s x f) ty (.pointer (some ⟨b, off + o, none⟩)) := by
  intro G w a' n dst pos after g hl' he
  simp [execOp, he.eval hx, h.run]

theorem Rdo.lenSlice {x : Operand} {a : Option Addr} {k c : Nat} {t e' : TypeId} [h : EL P t e'] (hx : evl e x = some (.slice a k c)) :
    Rdo P e C (.call { callee := .builtin .len, args := [x].toArray, argTypes := [t].toArray }) ty (.int .i64 k) := by
  intro G w a' n dst pos after g hl' he
  simp [execOp, resolve, invoke, builtin, he.eval hx, Builtin.len_, run_underlying h.pf, goInt]

theorem Rdo.indexSlice {x y : Operand} {b off len cap z : Nat} {i : Nat} {t e' : TypeId} {k : IntKind} [h : EL P t e'] [hz : SZ P e' z] (hx : evl e x = some (.slice (some ⟨b, off, none⟩) len cap)) (hy : evl e y = some (.int k i)) (hi : i < len) :
    Rdo P e C (.indexAddr t x y) ty (.pointer (some ⟨b, off + i * z, none⟩)) := by
  intro G w a' n dst pos after g hl' he
  have h1 : (0 : Int) ≤ i ∧ (i : Int) < len := by omega
  simp [execOp, he.eval hx, he.eval hy, Instr.indexAt, asIntOf, run_underlying h.pf, h1, hz.run, addr_add, hi]

theorem Rdo.indexArr {x y : Operand} {b off len z : Nat} {i : Nat} {t e' : TypeId} {k : IntKind} [h : AR P t len e'] [hz : SZ P e' z] (hx : evl e x = some (.pointer (some ⟨b, off, none⟩))) (hy : evl e y = some (.int k i)) (hi : i < len) :
    Rdo P e C (.indexAddr t x y) ty (.pointer (some ⟨b, off + i * z, none⟩)) := by
  intro G w a' n dst pos after g hl' he
  have h1 : (0 : Int) ≤ i ∧ (i : Int) < len := by omega
  simp [execOp, he.eval hx, he.eval hy, Instr.indexAt, asIntOf, run_underlying h.pf, h1, hz.run, addr_add, hi, Instr.sureAddr]

theorem Rdo.eqnil {x y : Operand} {p : Option Addr} {t u e' : TypeId} [h : PT P t e'] (hx : evl e x = some (.pointer p)) (hy : evl e y = some (.pointer none)) : Rdo P e C (.binOp .eql t x y u) ty (.bool p.isNone) := by
  intro G w a' n dst pos after g hl' he
  have hp : P.underlying t = some (.pointer (P.pointee t)) := by have := h.pf; simp [Program.pointee, this]
  simp [execOp, he.eval hx, he.eval hy, eqGuard_at_pointer, run_eql_pointer_nil w t p hp]
theorem Rdo.nenil {x y : Operand} {p : Option Addr} {t u e' : TypeId} [h : PT P t e'] (hx : evl e x = some (.pointer p)) (hy : evl e y = some (.pointer none)) : Rdo P e C (.binOp .neq t x y u) ty (.bool p.isSome) := by
  intro G w a' n dst pos after g hl' he
  have hp : P.underlying t = some (.pointer (P.pointee t)) := by have := h.pf; simp [Program.pointee, this]
  simp [execOp, he.eval hx, he.eval hy, eqGuard_at_pointer, run_neq_pointer_nil w t p hp]
end

/-! ### Stores -/

/-- A list with the cells from o on overwritten. -/
def lput : List Value → Nat → List Value → List Value
  | cs, _, [] => cs
  | [], _, _ :: _ => []
  | _ :: cs, 0, v :: vs => v :: lput cs 0 vs
  | c :: cs, o + 1, v :: vs => c :: lput cs o (v :: vs)

theorem lput_nil (cs : List Value) (o : Nat) : lput cs o [] = cs := by cases cs <;> cases o <;> rfl

theorem lput_step : ∀ (cs : List Value) (i : Nat) (v : Value) (vs : List Value), i < cs.length → lput cs i (v :: vs) = lput (cs.set i v) (i + 1) vs
  | [], i, v, vs, h => by simp at h
  | c :: cs, 0, v, [], _ => by simp [lput, lput_nil]
  | c :: cs, 0, v, u :: us, _ => by simp [lput]
  | c :: cs, i + 1, v, [], h => by
    have := lput_step cs i v [] (by simpa using h)
    simp [lput, lput_nil] at this ⊢
    exact this
  | c :: cs, i + 1, v, u :: us, h => by
    have := lput_step cs i v (u :: us) (by simpa using h)
    simp only [lput, List.set_cons_succ]
    rw [this]

theorem lput_eq : ∀ (cs : List Value) (o : Nat) (vs : List Value), o + vs.length ≤ cs.length → lput cs o vs = cs.take o ++ vs ++ cs.drop (o + vs.length)
  | cs, o, [], _ => by simp [lput_nil]
  | [], o, v :: vs, h => by simp at h
  | c :: cs, 0, v :: vs, h => by
    have := lput_eq cs 0 vs (by simp at h ⊢; omega)
    simp [lput, this]
  | c :: cs, o + 1, v :: vs, h => by
    have := lput_eq cs o (v :: vs) (by simp at h ⊢; omega)
    rw [lput, this]
    rw [show o + 1 + (v :: vs).length = (o + (v :: vs).length) + 1 by omega, List.drop_succ_cons]
    simp

@[simp] theorem length_lput : ∀ (cs : List Value) (o : Nat) (vs : List Value), (lput cs o vs).length = cs.length
  | cs, o, [] => by rw [lput_nil]
  | [], o, v :: vs => by cases o <;> rfl
  | c :: cs, 0, v :: vs => by simp [lput, length_lput cs 0 vs]
  | c :: cs, o + 1, v :: vs => by simp [lput, length_lput cs o (v :: vs)]

/-- The whole of a block is overwritten. -/
theorem lput_all {cs vs : List Value} (h : vs.length = cs.length) : lput cs 0 vs = vs := by
  rw [lput_eq cs 0 vs (by omega)]
  simp [h]

theorem lput_append {a b vs : List Value} (h : vs.length = a.length) : lput (a ++ b) 0 vs = vs ++ b := by
  rw [lput_eq _ 0 vs (by simp; omega)]
  simp [h]

def oneCells (vs : List Value) : Prop := ∀ v ∈ vs, v.oneCell' = true

def Sts (P : Program) (l : List HP) (a : Addr) (vs : List Value) (l' : List HP) : Prop :=
  ∀ F w, Holds l F w → ∃ w', (storeCells a vs).run P w = .ok () w' ∧ Holds l' F w' ∧ Ext w w'

theorem Sts.next {P : Program} {p : HP} {l l' : List HP} {a : Addr} {vs : List Value} (h : Sts P l a vs l') : Sts P (p :: l) a vs (p :: l') := by
  intro F w hl
  obtain ⟨G, h1, h2⟩ := Holds.frameR (l1 := [p]) (l2 := l) hl
  obtain ⟨w', hr, hh, hx⟩ := h G w h1
  exact ⟨w', hr, h2 l' w' hh, hx⟩

theorem setRow_old {w : World} {b : Nat} (cs : Array Value) {k : Nat} (hk : k ≠ b) : (w.setRow b cs).heap[k]? = w.heap[k]? := setRow_other w b k cs hk

theorem Sts.here {P : Program} {l : List HP} {b off : Nat} {t : TypeId} {cs vs : List Value} (hone : oneCells vs) (hfit : off + vs.length ≤ cs.length) :
    Sts P (cel b t cs :: l) ⟨b, off, none⟩ vs (cel b t (lput cs off vs) :: l) := by
  intro F w hl
  have hb := cel_sees hl
  have hr := run_storeCells_at (P := P) b off t vs 0 cs.toArray w hb (by simpa using hfit) hone
  simp only [Nat.add_zero] at hr
  rw [← lput_eq cs off vs hfit] at hr
  exact ⟨_, hr, Holds.put (b := b) (o' := .cells (lput cs off vs).toArray t (0, 0)) hl (setRow_heap w b _ _ t _ hb) (fun k hk _ => setRow_old _ hk), rfl, rfl, rfl, by simp [World.setRow]⟩

/-- The whole of a block is overwritten. -/
theorem Sts.all {P : Program} {l : List HP} {b : Nat} {t : TypeId} {cs vs : List Value} (hlen : vs.length = cs.length) (hone : oneCells vs) :
    Sts P (cel b t cs :: l) ⟨b, 0, none⟩ vs (cel b t vs :: l) := by
  have := Sts.here (P := P) (l := l) (b := b) (off := 0) (t := t) hone (cs := cs) (by omega)
  rwa [lput_all hlen] at this

theorem Stp.store {P : Program} {n : Nat} {x y : Operand} {t ty : TypeId} {pos : String} {after : Array Edge} {g : Option (Nat × Bool)} {e : Env} {l l' : List HP} {Φ : Env → List HP → Prop} {a : Addr} {v : Value} {vs : List Value} {z : Nat}
    [hz : SZ P t z] (hx : evl e x = some (.pointer (some a))) (hy : evl e y = some v) (hv : v.cells = vs.toArray) (hn : vs.length = z) (hs : Sts P l a vs l') (hk : Φ e l') :
    Stp P n ⟨none, .store t x y, ty, pos, after, g⟩ e l Φ := by
  intro F w a' hl he K Q0 hK
  obtain ⟨w', hr, hh, hxt⟩ := hs F w hl
  unfold Oper.wp
  have : (Instr.storeAt t (.pointer (some a)) v).run P w = .ok () w' := by
    have hvs : v.cells.size = z := by rw [hv]; simpa using hn
    simp only [Instr.storeAt, Instr.sureAddr, storeVar, Sem.run_bind, Sem.run_pure, Result.andThen_ok, hz.run, hvs, ne_eq, not_true, if_false]
    rw [hv]
    exact hr
  simp only [execOp, he.eval hx, he.eval hy, Sem.run_bind, this, Result.andThen_ok, Sem.run_pure, Oper.upon, Act.put]
  exact hK _ _ _ _ he hh hxt hk

/-! ### New memory -/

theorem Ext.alloc (w : World) (o : Obj) : Ext w (w.alloc o) := ⟨rfl, rfl, rfl, by simp⟩
theorem Ext.drew (w : World) : Ext w w.drew := ⟨rfl, rfl, rfl, Nat.le_refl _⟩

theorem Stp.alloc {P : Program} {n d : Nat} {t ty : TypeId} {pos : String} {after : Array Edge} {g : Option (Nat × Bool)} {e : Env} {l : List HP} {Φ : Env → List HP → Prop} {zs : List Value}
    [hz : ZV P t zs] (hd : Nat.blt d n = true) (hk : ∀ b, Φ (eset e d (.pointer (some ⟨b, 0, none⟩))) (cel b t zs :: l)) :
    Stp P n ⟨some d, .alloc t, ty, pos, after, g⟩ e l Φ := by
  intro F w a hl he K Q0 hK
  have h := hz.pf
  cases hi : P.info? t with
  | none => rw [hi] at h; cases h
  | some i =>
    rw [hi] at h
    simp only [Option.bind_some] at h
    cases hzz : i.zero with
    | none => rw [hzz] at h; cases h
    | some z =>
      rw [hzz] at h
      simp only [Option.map_some, Option.some.injEq] at h
      unfold Oper.wp
      simp only [execOp, Instr.alloc, zeroValue, typeInfo, hi, hzz, newVar, newRow, h, Sem.run_bind, run_program, Result.andThen_ok, Sem.run_pure, run_newObj, World.alloc_eq, Oper.upon]
      exact hK _ _ _ _ (he.put _ hd) (hl.alloc _) (Ext.alloc w _) (hk _)

theorem Stp.box {P : Program} {n d : Nat} {x : Operand} {t ty : TypeId} {pos : String} {after : Array Edge} {g : Option (Nat × Bool)} {e : Env} {l : List HP} {Φ : Env → List HP → Prop} {v : Value} {vs : List Value}
    (hx : evl e x = some v) (hv : v.cells = vs.toArray) (hd : Nat.blt d n = true) (hk : ∀ b, Φ (eset e d (.pointer (some ⟨b, 0, none⟩))) (cel b t vs :: l)) :
    Stp P n ⟨some d, .box t x, ty, pos, after, g⟩ e l Φ := by
  intro F w a hl he K Q0 hK
  unfold Oper.wp
  simp only [execOp, Instr.box, he.eval hx, newVar, newRow, hv, Sem.run_bind, run_program, Result.andThen_ok, Sem.run_pure, run_newObj, World.alloc_eq, Oper.upon]
  exact hK _ _ _ _ (he.put _ hd) (hl.alloc _) (Ext.alloc w _) (hk _)

/-! ### Values that are built -/

theorem foldl_lput : ∀ (vs : List Value) (cs : Array Value) (o k : Nat), o + k + vs.length ≤ cs.size →
    (vs.zipIdx k).foldl (fun c (p : Value × Nat) => c.setIfInBounds (o + p.2) p.1) cs = (lput cs.toList (o + k) vs).toArray
  | [], cs, o, k, _ => by simp [lput_nil]
  | v :: vs, cs, o, k, h => by
    simp only [List.zipIdx_cons, List.foldl_cons]
    rw [foldl_lput vs _ o (k + 1) (by simp at h ⊢; omega), lput_step _ _ _ _ (by simp at h ⊢; omega), Array.toList_setIfInBounds, Nat.add_assoc]

inductive Bld (P : Program) (t : TypeId) (e : Env) : List (Nat × Operand) → List Value → List Value → Prop where
  | nil (cs) : Bld P t e [] cs cs
  | cons {f : Nat} {x : Operand} {r : List (Nat × Operand)} {cs cs' vs : List Value} {v : Value} {o n : Nat} (h : FO P t f o n) (hx : evl e x = some v) (hv : v.cells = vs.toArray) (hn : vs.length = n)
      (hfit : Nat.ble (o + n) cs.length = true) (hr : Bld P t e r (lput cs o vs) cs') : Bld P t e ((f, x) :: r) cs cs'

theorem Bld.run {P : Program} {t : TypeId} {e : Env} {n : Nat} {a : Act} (he : EnvOk n e a) {fs : Array Field} (hu : P.underlying t = some (.struct fs)) {places : Array (Nat × Nat)}
    (hp : ∀ f o z, fldOff P t f = some (o, z) → places[f]? = some (o, z)) : ∀ {ps : List (Nat × Operand)} {cs cs' : List Value}, Bld P t e ps cs cs' →
    Instr.fill (places[·]?) cs.toArray (ps.map fun p => (p.1, a.eval p.2)) = some cs'.toArray
  | _, _, _, .nil cs => by simp [Instr.fill]
  | _, _, _, .cons (f := f) (x := x) (vs := vs) (v := v) (o := o) (cs := cs) h hx hv hn hfit hr => by
    have ih := Bld.run he hu hp hr
    have hfit' : o + vs.length ≤ cs.length := by rw [hn]; exact Nat.le_of_ble_eq_true hfit
    have h1 : v.cells.size = vs.length := by rw [hv]; simp
    have h2 := foldl_lput vs cs.toArray o 0 (by simpa using hfit')
    simp only [Nat.add_zero] at h2
    have hz : (v.cells.zipIdx.foldl (fun c (p : Value × Nat) => c.setIfInBounds (o + p.2) p.1) cs.toArray) = (lput cs o vs).toArray := by
      rw [hv, ← Array.foldl_toList, Array.toList_zipIdx]
      exact h2
    simp only [List.map_cons, Instr.fill, he.eval hx, hp f o _ h.pf]
    rw [if_neg (by rw [h1]; simp; omega)]
    have hz' : (v.cells.zipIdx.foldl (fun cs x => match x with | (c, j) => cs.setIfInBounds (o + j) c) cs.toArray) = (lput cs o vs).toArray := hz
    rw [hz']
    exact ih

theorem mapM_sizes {P : Program} {w : World} : ∀ (fs : List Field), (∀ g ∈ fs, (P.info? g.type).isSome = true) →
    (fs.mapM fun f => (do pure (f.offset, ← sizeOf f.type) : Sem (Nat × Nat))).run P w = .ok (fs.map fun f => (f.offset, P.cellsOf f.type)) w
  | [], _ => by simp
  | g :: fs, h => by
    obtain ⟨i, hi⟩ := Option.isSome_iff_exists.1 (h g (by simp))
    have := mapM_sizes (P := P) (w := w) fs fun x hx => h x (by simp [hx])
    have hs : (sizeOf g.type).run P w = .ok (P.cellsOf g.type) w := by simp [sizeOf, typeInfo, hi, Program.cellsOf]
    simp only [List.mapM_cons, Sem.run_bind, hs, this, Result.andThen_ok, Sem.run_pure, List.map_cons]

/-- All of a struct's fields' types are there. -/
def fldsThere (P : Program) (t : TypeId) : Bool :=
  match P.underlying t with
  | some (.struct fs) => fs.all fun g => (P.info? g.type).isSome
  | _ => false
class FS (P : Program) (t : TypeId) : Prop where pf : fldsThere P t = true

theorem ZV.run {P : Program} {t : TypeId} {zs : List Value} (hz : ZV P t zs) {w : World} : ∃ z, (zeroValue t).run P w = .ok z w ∧ z.cells = zs.toArray := by
  have h := hz.pf
  cases hi : P.info? t with
  | none => rw [hi] at h; cases h
  | some i =>
    rw [hi] at h
    simp only [Option.bind_some] at h
    cases hzz : i.zero with
    | none => rw [hzz] at h; cases h
    | some z =>
      rw [hzz] at h
      simp only [Option.map_some, Option.some.injEq] at h
      exact ⟨z, by simp [zeroValue, typeInfo, hi, hzz], h⟩

theorem Rdo.build {P : Program} {e : Env} {C : List HP} {t ty : TypeId} {ps : List (Nat × Operand)} {zs cs : List Value} [hz : ZV P t zs] [hf : FS P t] (hb : Bld P t e ps zs cs) :
    Rdo P e C (.build t ps.toArray) ty (.agg cs.toArray) := by
  intro G w a n dst pos after g hl he
  obtain ⟨z, hzr, hzc⟩ := hz.run (w := w)
  have h := hf.pf
  unfold fldsThere at h
  cases hu : P.underlying t with
  | none => rw [hu] at h; cases h
  | some d =>
    rw [hu] at h
    cases d with
    | struct fs =>
      simp only [Array.all_eq_true_iff_forall_mem] at h
      have hm := mapM_sizes (P := P) (w := w) fs.toList fun x hx => h x (by simpa using hx)
      have hfill := Bld.run he hu (places := (fs.toList.map fun f => (f.offset, P.cellsOf f.type)).toArray) (fun f o z hfo => by
        unfold fldOff at hfo
        rw [hu] at hfo
        simp only at hfo
        cases hff : fs[f]? with
        | none => rw [hff] at hfo; cases hfo
        | some x =>
          rw [hff] at hfo
          simp only [Option.some.injEq] at hfo
          simp [hff, hfo]) hb
      have hma : (fs.mapM fun f => (do pure (f.offset, ← sizeOf f.type) : Sem (Nat × Nat))).run P w = .ok (fs.toList.map fun f => (f.offset, P.cellsOf f.type)).toArray w := by
        rw [Array.mapM_eq_mapM_toList]
        simp only [Sem.run_map, hm, Result.andThen_ok]
      simp only [execOp, Instr.build, Sem.run_bind, hzr, Result.andThen_ok, run_underlying hu, hma, hzc, List.map_toArray, hfill, Sem.run_pure]
    | _ => cases h

/-! ### Lists of heap atoms: taking out what a callee wants -/

def Tk (l pre rest : List HP) : Prop := ∀ F w, Holds l F w → Holds (pre ++ rest) F w
def Pk (l : List HP) (p : HP) (l' : List HP) : Prop := l.Perm (p :: l')

theorem Pk.here {p : HP} {l : List HP} : Pk (p :: l) p l := List.Perm.refl _
theorem Pk.next {p q : HP} {l l' : List HP} (h : Pk l p l') : Pk (q :: l) p (q :: l') := (List.Perm.cons q h).trans (List.Perm.swap p q l')

theorem Tk.nil {l : List HP} : Tk l [] l := fun _ _ h => h
theorem Tk.cons {p : HP} {l l' pre rest : List HP} (hp : Pk l p l') (h : Tk l' pre rest) : Tk l (p :: pre) rest := by
  intro F w hl
  have h1 := hl.perm hp
  obtain ⟨G, h2, h3⟩ := Holds.frameR (l1 := [p]) (l2 := l') h1
  exact h3 _ _ (h G w h2)
/-- An atom that can be had twice stays. -/
theorem Tk.dup {p : HP} {l l' pre rest : List HP} (hd : Dup p) (hp : Pk l p l') (h : Tk l pre rest) : Tk l (p :: pre) rest := by
  intro F w hl
  have h1 := (hl.perm hp).dup hd
  obtain ⟨G, h2, h3⟩ := Holds.frameR (l1 := [p]) (l2 := p :: l') h1
  exact h3 _ _ (h G w (h2.perm hp.symm))
/-- A plain fact that holds. -/
theorem Tk.pure {φ : Prop} {l pre rest : List HP} (hφ : φ) (h : Tk l pre rest) : Tk l (pureH φ :: pre) rest :=
  fun F w hl => Holds.shut_pure hφ (h F w hl)

/-! ### Calls -/

def callable (P : Program) (f : FuncId) : Bool :=
  match P.funcs[f]? with
  | some fn => !(fn.name == "runtime.NumGoroutine") && fn.body.isSome
  | none => false

def evls (e : Env) : List Operand → Option (List Value)
  | [] => some []
  | x :: xs => match evl e x with
    | some v => match evls e xs with
      | some vs => some (v :: vs)
      | none => none
    | none => none

theorem EnvOk.evals {n : Nat} {e : Env} {a : Act} (h : EnvOk n e a) : ∀ {xs : List Operand} {vs : List Value}, evls e xs = some vs → xs.map a.eval = vs
  | [], vs, hx => by simp [evls] at hx; simp [hx]
  | x :: xs, vs, hx => by
    simp only [evls] at hx
    cases h1 : evl e x with
    | none => rw [h1] at hx; cases hx
    | some v =>
      rw [h1] at hx
      simp only at hx
      cases h2 : evls e xs with
      | none => rw [h2] at hx; cases hx
      | some us =>
        rw [h2] at hx
        simp only [Option.some.injEq] at hx
        subst hx
        simp [h.eval h1, EnvOk.evals h h2]

theorem run_callFunc {P : Program} {f : FuncId} (hf : callable P f = true) (args : Array Value) (w : World) : (callFunc f args).run P w = .ok (.enter f args) w := by
  unfold callable at hf
  cases h : P.funcs[f]? with
  | none => rw [h] at hf; cases hf
  | some fn =>
    rw [h] at hf
    simp only [Bool.and_eq_true, Bool.not_eq_true'] at hf
    obtain ⟨h1, h2⟩ := hf
    have h3 : fn.body.isNone = false := by cases hb : fn.body <;> simp_all
    simp only [callFunc, Sem.run_bind, run_program, Result.andThen_ok, h, h1, h3, Bool.false_eq_true, if_false, Sem.run_pure]

/-- The call of a function value: named functions and closures alike. -/
theorem Stp.callv {P : Program} {n : Nat} {d : Option Nat} {c : Operand} {f : FuncId} {cap : List Value} {xs : List Operand} {vs : List Value} {ats : Array TypeId} {ty : TypeId} {pos : String} {after : Array Edge} {g : Option (Nat × Bool)} {e : Env} {l pre rest : List HP}
    {Φ : Env → List HP → Prop} {post : Value → List HP → Prop} (hc : evl e c = some (.func (.func f) #[] cap.toArray)) (hf : callable P f = true) (hx : evls e xs = some vs) (ht : Trip P f (vs ++ cap) pre post) (hp : Tk l pre rest)
    (hd : (match d with | some d => Nat.blt d n | none => true) = true)
    (hk : ∀ v l', post v l' → Φ (match d with | some d => eset e d v | none => e) (l' ++ rest)) :
    Stp P n ⟨d, .call { callee := .value c, args := xs.toArray, argTypes := ats }, ty, pos, after, g⟩ e l Φ := by
  intro F w a hl he K Q0 hK
  obtain ⟨G, h1, h2⟩ := (hp F w hl).frame
  unfold Oper.wp
  have hr : (execOp a.eval ⟨d, .call { callee := .value c, args := xs.toArray, argTypes := ats }, ty, pos, after, g⟩).run P w = .ok (.enter f (vs ++ cap).toArray) w := by
    simp [execOp, resolve, Deferred.ofValue, he.eval hc, invoke, he.evals hx, run_callFunc hf]
  rw [hr]
  simp only [Oper.upon]
  refine (ht G w h1).mono ?_
  rintro en w' ⟨v, l', rfl, hpost, hl', hx'⟩
  refine hK _ _ _ _ ?_ (h2 l' w' hl') hx' (hk v l' hpost)
  cases d with
  | none => exact he
  | some d => exact he.put v hd

theorem Stp.call {P : Program} {n d : Nat} {f : FuncId} {xs : List Operand} {vs : List Value} {ats : Array TypeId} {ty : TypeId} {pos : String} {after : Array Edge} {g : Option (Nat × Bool)} {e : Env} {l pre rest : List HP}
    {Φ : Env → List HP → Prop} {post : Value → List HP → Prop} (ht : Trip P f vs pre post) (hf : callable P f = true) (hx : evls e xs = some vs) (hp : Tk l pre rest) (hd : Nat.blt d n = true)
    (hk : ∀ v l', post v l' → Φ (eset e d v) (l' ++ rest)) : Stp P n ⟨some d, .call { callee := .value (.func f), args := xs.toArray, argTypes := ats }, ty, pos, after, g⟩ e l Φ :=
  Stp.callv (c := .func f) (cap := []) rfl hf hx (by simpa using ht) hp hd hk

theorem Stp.call0 {P : Program} {n : Nat} {f : FuncId} {xs : List Operand} {vs : List Value} {ats : Array TypeId} {ty : TypeId} {pos : String} {after : Array Edge} {g : Option (Nat × Bool)} {e : Env} {l pre rest : List HP}
    {Φ : Env → List HP → Prop} {post : Value → List HP → Prop} (ht : Trip P f vs pre post) (hf : callable P f = true) (hx : evls e xs = some vs) (hp : Tk l pre rest)
    (hk : ∀ v l', post v l' → Φ e (l' ++ rest)) : Stp P n ⟨none, .call { callee := .value (.func f), args := xs.toArray, argTypes := ats }, ty, pos, after, g⟩ e l Φ :=
  Stp.callv (d := none) (c := .func f) (cap := []) rfl hf hx (by simpa using ht) hp rfl hk

/-! ### Regions in the order of the text -/

def WpL (P : Program) (n : Nat) (ops : Array Oper) (Q : Exit → Env → List HP → Prop) (rest : List Oper) (e : Env) (l : List HP) : Prop :=
  ∀ F w a, Holds l F w → EnvOk n e a → wpList P ops (SPost n F w Q) rest a w

section
variable {P : Program} {n : Nat} {ops : Array Oper} {Q : Exit → Env → List HP → Prop} {e : Env} {l : List HP}

theorem wpList_mono {Q' Q'' : Exit → Act → World → Prop} (hq : ∀ x a w, Q' x a w → Q'' x a w) : ∀ {rest : List Oper} {a : Act} {w : World}, wpList P ops Q' rest a w → wpList P ops Q'' rest a w
  | [], a, w, h => hq _ _ _ h
  | o :: rest, a, w, h => by
    unfold wpList at h ⊢
    split
    · rename_i hw
      rw [if_pos hw] at h
      rcases h with h | ⟨h1, a1, w1, h2⟩
      · refine .inl ?_
        unfold Oper.wp at h ⊢
        generalize (execOp a.eval o).run P w = r at h ⊢
        cases r with
        | ok nx w' =>
          cases nx <;> simp only [Oper.upon] at h ⊢
          case value => exact wpList_mono hq h
          case skip => exact wpList_mono hq h
          case defer => exact wpList_mono hq h
          case enter f args =>
            refine Calls.mono h fun en w'' he => ?_
            cases en with
            | returned v => exact wpList_mono hq he
            | panicked c => exact hq _ _ _ he
            | outgrown => obtain ⟨a1, w1, h2⟩ := he; exact ⟨a1, w1, hq _ _ _ h2⟩
          case row => exact Rows.mono h fun _ _ he => wpList_mono hq he
        | halt x w' =>
          cases x <;> simp only [Oper.upon] at h ⊢
          exact hq _ _ _ h
      · exact .inr ⟨h1, a1, w1, hq _ _ _ h2⟩
    · rename_i hw
      rw [if_neg hw] at h
      exact wpList_mono hq h

theorem Wp.region {id : Nat} {os : List Oper} (h : WpL P n os.toArray Q os e l) : Wp P n (.region id os.toArray false) Q e l :=
  fun F w a hl he => wp_region_lit (h F w a hl he)

theorem WpL.nil (h : Q .normal e l) : WpL P n ops Q [] e l :=
  fun F w a hl he => ⟨rfl, e, l, he, hl, Ext.refl w, h⟩

theorem WpL.step {d : Option Nat} {op : Op} {ty : TypeId} {pos : String} {after : Array Edge} {rest : List Oper}
    (h : Stp P n ⟨d, op, ty, pos, after, none⟩ e l (WpL P n ops Q rest)) : WpL P n ops Q (⟨d, op, ty, pos, after, none⟩ :: rest) e l := by
  intro F w a hl he
  unfold wpList
  rw [if_pos (by simp [Region.wanted])]
  refine .inl (h F w a hl he _ _ ?_)
  intro e' l' a' w' he' hl' hx hq
  exact wpList_mono (fun x a w hh => SPost.mono hx (fun _ _ _ h => h) hh) (hq F w' a' hl' he')

/-- A guarded operation that is wanted. -/
theorem WpL.want {d : Option Nat} {op : Op} {ty : TypeId} {pos : String} {after : Array Edge} {rest : List Oper} {j t : Nat} {b c : Bool}
    (ht : (ops[j]?).bind (·.dst) = some t) (hv : elook e t = some (.bool c)) (hb : c = b)
    (h : Stp P n ⟨d, op, ty, pos, after, some (j, b)⟩ e l (WpL P n ops Q rest)) : WpL P n ops Q (⟨d, op, ty, pos, after, some (j, b)⟩ :: rest) e l := by
  intro F w a hl he
  subst hb
  have hy : yielded ops a.tmps j = some c := by simp [yielded, ht, he.at_ t _ hv]
  unfold wpList
  rw [if_pos (by simp [Region.wanted, hy])]
  refine .inl (h F w a hl he _ _ ?_)
  intro e' l' a' w' he' hl' hx hq
  exact wpList_mono (fun x a w hh => SPost.mono hx (fun _ _ _ h => h) hh) (hq F w' a' hl' he')

/-- A guarded operation that is not wanted. -/
theorem WpL.pass {d : Nat} {op : Op} {ty : TypeId} {pos : String} {after : Array Edge} {rest : List Oper} {j t : Nat} {b c : Bool}
    (ht : (ops[j]?).bind (·.dst) = some t) (hv : elook e t = some (.bool c)) (hb : c = !b) (hd : Nat.blt d n = true)
    (h : WpL P n ops Q rest (eset e d undef) l) : WpL P n ops Q (⟨some d, op, ty, pos, after, some (j, b)⟩ :: rest) e l := by
  intro F w a hl he
  subst hb
  have hy : yielded ops a.tmps j = some (!b) := by simp [yielded, ht, he.at_ t _ hv]
  unfold wpList
  rw [if_neg (by simp [Region.wanted, hy])]
  exact h F w _ hl (he.put undef hd)

theorem WpL.pass0 {op : Op} {ty : TypeId} {pos : String} {after : Array Edge} {rest : List Oper} {j t : Nat} {b c : Bool}
    (ht : (ops[j]?).bind (·.dst) = some t) (hv : elook e t = some (.bool c)) (hb : c = !b)
    (h : WpL P n ops Q rest e l) : WpL P n ops Q (⟨none, op, ty, pos, after, some (j, b)⟩ :: rest) e l := by
  intro F w a hl he
  subst hb
  have hy : yielded ops a.tmps j = some (!b) := by simp [yielded, ht, he.at_ t _ hv]
  unfold wpList
  rw [if_neg (by simp [Region.wanted, hy])]
  exact h F w _ hl he

theorem WpL.env {e' : Env} {rest : List Oper} (hs : ∀ i v, elook e' i = some v → elook e i = some v) (h : WpL P n ops Q rest e' l) : WpL P n ops Q rest e l :=
  fun F w a hl he => h F w a hl (he.weaken hs)
theorem WpL.nrm {e' : Env} {rest : List Oper} (hs : e = e') (h : WpL P n ops Q rest e' l) : WpL P n ops Q rest e l := hs ▸ h
theorem Wp.nrm {e' : Env} {c : Code} (hs : e = e') (h : Wp P n c Q e' l) : Wp P n c Q e l := hs ▸ h

end

/-! ### A function's body -/

inductive ResV (P : Program) (e : Env) (l : List HP) : List ResultVar → List Value → Prop where
  | nil : ResV P e l [] []
  | tmp {t : Tmp} {v : Value} {rs : List ResultVar} {vs : List Value} (hv : elook e t = some v) (hr : ResV P e l rs vs) : ResV P e l (.tmp t :: rs) (v :: vs)
  | cell {t : Tmp} {ty : TypeId} {a : Addr} {v : Value} {rs : List ResultVar} {vs : List Value} (ha : elook e t = some (.pointer (some a))) (hv : Lds P l a ty v) (hr : ResV P e l rs vs) : ResV P e l (.cell t ty :: rs) (v :: vs)

def packed : List Value → Value
  | [v] => v
  | vs => .tuple vs.toArray

def RetQ (P : Program) (rs : List ResultVar) (post : Value → List HP → Prop) : Exit → Env → List HP → Prop
  | .ret, e, l | .normal, e, l => ∃ vs l', ResV P e l rs vs ∧ post (packed vs) l' ∧ ∀ F w, Holds l F w → Holds l' F w
  | _, _, _ => False

def argsEnv : List Value → Nat → Env
  | [], _ => []
  | v :: vs, k => (k, v) :: argsEnv vs (k + 1)

theorem elook_args : ∀ (vs : List Value) (k i : Nat) (v : Value), elook (argsEnv vs k) i = some v → k ≤ i ∧ vs[i - k]? = some v
  | [], k, i, v, h => by simp [argsEnv, elook] at h
  | u :: vs, k, i, v, h => by
    simp only [argsEnv, elook] at h
    cases hb : Nat.beq k i with
    | true =>
      have := Nat.eq_of_beq_eq_true hb
      subst this
      rw [hb] at h
      simp at h
      simp [h]
    | false =>
      rw [hb] at h
      simp only [cond_false] at h
      obtain ⟨h1, h2⟩ := elook_args vs (k + 1) i v h
      refine ⟨by omega, ?_⟩
      rw [show i - k = (i - (k + 1)) + 1 by omega]
      simpa using h2

theorem Lds.run {P : Program} {l : List HP} {a : Addr} {t : TypeId} {v : Value} (h : Lds P l a t v) {F : Res} {w : World} (hl : Holds l F w) : (loadVar t a).run P w = .ok v w := by
  have := h F w hl
  simpa [Instr.loadAt, Instr.sureAddr] using this

def resOf (tmps : Array Value) (r : ResultVar) : Sem Value :=
  match r with
  | .tmp t => Pure.pure (tmps.getD t undef)
  | .cell x t => do loadVar t (← asAddr (tmps.getD x undef))

theorem ResV.run {P : Program} {n : Nat} {e : Env} {l : List HP} {F : Res} {w : World} {a : Act} (he : EnvOk n e a) (hl : Holds l F w) : ∀ {rs : List ResultVar} {vs : List Value}, ResV P e l rs vs →
    (rs.mapM (resOf a.tmps)).run P w = .ok vs w
  | _, _, .nil => by simp
  | _, _, .tmp hv hr => by
    have ih := ResV.run he hl hr
    have := he.at_ _ _ hv
    simp only [List.mapM_cons, Sem.run_bind, ih, Sem.run_pure, Result.andThen_ok, resOf]
    simp [this]
  | _, _, .cell ha hv hr => by
    have ih := ResV.run he hl hr
    have := he.at_ _ _ ha
    have h2 := hv.run hl
    simp only [List.mapM_cons, Sem.run_bind, ih, Sem.run_pure, Result.andThen_ok, resOf]
    simp [this, asAddr, h2, ih]

/-- A function's triple out of its body. -/
theorem Trip.of_body {P : Program} {f : FuncId} {fn : Func} {c : Code} {n : Nat} {rs : List ResultVar} {args : List Value} {pre : List HP} {post : Value → List HP → Prop}
    (hf : P.funcs[f]? = some fn) (hb : fn.body = some c) (hn : fn.ntmps = n) (hr : fn.results = rs.toArray) (hlen : Nat.ble args.length n = true)
    (h : Wp P n c (RetQ P rs post) (argsEnv args 0) pre) : Trip P f args pre post := by
  intro F w hl
  have hlen' : args.length ≤ n := Nat.le_of_ble_eq_true hlen
  refine calls_of_wp hf hb (wp_mono (h F w _ hl ⟨by simp [hn]; omega, rfl, ?_⟩) ?_)
  · intro i v hv
    obtain ⟨_, h2⟩ := elook_args args 0 i v hv
    simp only [Nat.sub_zero] at h2
    have hlt := (List.getElem?_eq_some_iff.1 h2).1
    rw [Array.getElem?_append_left (by simpa using hlt)]
    simpa using h2
  · rintro x a' w' ⟨hc, e', l', he', hl', hx, hq⟩
    have key : (∃ vs l'', ResV P e' l' rs vs ∧ post (packed vs) l'' ∧ ∀ F w, Holds l' F w → Holds l'' F w) → ∃ v, (results fn a'.tmps).run P w' = .ok v w' ∧ ∃ v' l, Ending.returned v = .returned v' ∧ post v' l ∧ Holds l F w' ∧ Ext w w' := by
      rintro ⟨vs, l'', hres, hpost, htk⟩
      have hrun := ResV.run he' hl' hres
      have hma : (rs.toArray.mapM (resOf a'.tmps)).run P w' = .ok vs.toArray w' := by
        rw [Array.mapM_eq_mapM_toList]
        simp only [Sem.run_map, hrun, Result.andThen_ok]
      refine ⟨packed vs, ?_, packed vs, l'', rfl, hpost, htk F w' hl', hx⟩
      simp only [results, hr, Sem.run_bind]
      refine (congrArg (fun r => Result.andThen r _) hma).trans ?_
      simp only [Result.andThen_ok, Sem.run_pure]
      congr 1
      match vs with
      | [] => rfl
      | [v] => rfl
      | v :: u :: us => simp [packed]
    cases x
    case normal => exact ⟨he'.defers, key hq⟩
    case ret => exact ⟨he'.defers, key hq⟩
    all_goals exact hq.elim

/-! ### Turns of the state that the program does not see -/

section
variable {P : Program} {n : Nat} {ops : Array Oper} {Q : Exit → Env → List HP → Prop} {e : Env} {l : List HP}

theorem Wp.ex {α : Type} {c : Code} {f : α → HP} (h : ∀ x, Wp P n c Q e (f x :: l)) : Wp P n c Q e (exH f :: l) :=
  fun F w a hl he => let ⟨x, hx⟩ := hl.open_ex; h x F w a hx he
theorem Wp.star {c : Code} {k : List HP} (h : Wp P n c Q e (k ++ l)) : Wp P n c Q e (starH k :: l) :=
  Wp.heap (fun _ _ => Holds.open_star) h
theorem Wp.fact {c : Code} {φ : Prop} (h : φ → Wp P n c Q e l) : Wp P n c Q e (pureH φ :: l) :=
  fun F w a hl he => let ⟨hp, hl'⟩ := hl.open_pure; h hp F w a hl' he
theorem Wp.tk {c : Code} {pre rest : List HP} (ht : Tk l pre rest) (h : Wp P n c Q e (pre ++ rest)) : Wp P n c Q e l := Wp.heap ht h
theorem WpL.heap {rest : List Oper} {l' : List HP} (hp : ∀ F w, Holds l F w → Holds l' F w) (h : WpL P n ops Q rest e l') : WpL P n ops Q rest e l :=
  fun F w a hl he => h F w a (hp F w hl) he
theorem WpL.ex {α : Type} {rest : List Oper} {f : α → HP} (h : ∀ x, WpL P n ops Q rest e (f x :: l)) : WpL P n ops Q rest e (exH f :: l) :=
  fun F w a hl he => let ⟨x, hx⟩ := hl.open_ex; h x F w a hx he
theorem WpL.star {rest : List Oper} {k : List HP} (h : WpL P n ops Q rest e (k ++ l)) : WpL P n ops Q rest e (starH k :: l) :=
  WpL.heap (fun _ _ => Holds.open_star) h
theorem WpL.fact {rest : List Oper} {φ : Prop} (h : φ → WpL P n ops Q rest e l) : WpL P n ops Q rest e (pureH φ :: l) :=
  fun F w a hl he => let ⟨hp, hl'⟩ := hl.open_pure; h hp F w a hl' he
theorem WpL.tk {rest' : List Oper} {pre rest : List HP} (ht : Tk l pre rest) (h : WpL P n ops Q rest' e (pre ++ rest)) : WpL P n ops Q rest' e l := WpL.heap ht h

end

theorem Trip.ex {P : Program} {f : FuncId} {args : List Value} {α : Type} {g : α → HP} {l : List HP} {post : Value → List HP → Prop} (h : ∀ x, Trip P f args (g x :: l) post) : Trip P f args (exH g :: l) post :=
  fun F w hl => let ⟨x, hx⟩ := hl.open_ex; h x F w hx
theorem Trip.star {P : Program} {f : FuncId} {args : List Value} {k l : List HP} {post : Value → List HP → Prop} (h : Trip P f args (k ++ l) post) : Trip P f args (starH k :: l) post :=
  fun F w hl => h F w hl.open_star
theorem Trip.fact {P : Program} {f : FuncId} {args : List Value} {φ : Prop} {l : List HP} {post : Value → List HP → Prop} (h : φ → Trip P f args l post) : Trip P f args (pureH φ :: l) post :=
  fun F w hl => let ⟨hp, hl'⟩ := hl.open_pure; h hp F w hl'

/-! ### Regions in any order -/

/-- The operations of a phase that may come next. -/
def readyIn (ops : Array Oper) (fin : Array Bool) (listed : Array Bool) : List Nat := (Region.ready .any ops listed).filter fun i => fin.getD i false

def wpAnyJ (P : Program) (ops : Array Oper) (fin : Array Bool) (J : World → Prop) (Q : Exit → Act → World → Prop) (K : Array Bool → Act → World → Prop) : Nat → Array Bool → Act → World → Prop
  | 0, listed, a, w => J w ∧ readyIn ops fin listed = [] ∧ K listed a w
  | k + 1, listed, a, w => J w ∧ (readyIn ops fin listed = [] → K listed a w) ∧ ∀ i ∈ readyIn ops fin listed, wpOp P ops Q i (wpAnyJ P ops fin J Q K k (listed.setIfInBounds i true)) a w

/-- What stands in a phase: every operation outside hangs on each inside. -/
def phaseOk (ops : Array Oper) (fin : Array Bool) : Bool :=
  (List.range ops.size).all fun j => fin.getD j false || match ops[j]? with
    | some oj => (List.range ops.size).all fun i => !fin.getD i false || oj.after.any fun e => Region.binds .any e && e.on == i
    | none => true

/-- An operation's values do not hang on where another one's go. -/
theorem wpOp_shape {P : Program} {ops : Array Oper} {Q : Exit → Act → World → Prop} {j : Nat} {oj : Oper} (hj : ops[j]? = some oj) {K : Act → World → Prop} {a : Act} {w : World}
    (h : wpOp P ops Q j K a w) : wpOp P ops Q j (fun a' w' => (∃ u ds, a' = ({ a with defers := ds } : Act).put oj.dst u) ∧ K a' w') a w := by
  unfold wpOp at h ⊢
  simp only [hj] at h ⊢
  split
  · rename_i hw
    rw [if_pos hw] at h
    rcases h with h | h
    · refine .inl ?_
      unfold Oper.wp at h ⊢
      generalize (execOp a.eval oj).run P w = r at h ⊢
      cases r with
      | ok nx w' =>
        cases nx <;> simp only [Oper.upon] at h ⊢
        case value v => exact ⟨⟨v, a.defers, rfl⟩, h⟩
        case skip => exact ⟨⟨undef, a.defers, rfl⟩, h⟩
        case defer d => exact ⟨⟨undef, d :: a.defers, rfl⟩, h⟩
        case enter f args =>
          refine Calls.mono h fun en w'' he => ?_
          cases en with
          | returned v => exact ⟨⟨v, a.defers, rfl⟩, he⟩
          | panicked c => exact he
          | outgrown => exact he
        case row => exact Rows.mono h fun v _ he => ⟨⟨v, a.defers, rfl⟩, he⟩
      | halt x w' => cases x <;> simp only [Oper.upon] at h ⊢; exact h
    · exact .inr h
  · rename_i hw
    rw [if_neg hw] at h
    exact ⟨⟨undef, a.defers, rfl⟩, h⟩

/-- The operation gives v in every world of J, or is not wanted. -/
def YieldsJ (P : Program) (ops : Array Oper) (J : World → Prop) (o : Oper) (v : Value) (a : Act) : Prop :=
  (Region.wanted o (yielded ops a.tmps) = true ∧ ∀ w, J w → (execOp a.eval o).run P w = .ok (.value v) w) ∨ (Region.wanted o (yielded ops a.tmps) = false ∧ v = undef)

theorem YieldsJ.keep {P : Program} {ops : Array Oper} {J : World → Prop} {oi oj : Oper} {v : Value} {a : Act} (hy : YieldsJ P ops J oi v a) (hap : oi.apart ops oj = true) (hs : ∀ cs b, oi.op ≠ .select cs b) (u : Value) (ds : List Deferred) :
    YieldsJ P ops J oi v (({ a with defers := ds } : Act).put oj.dst u) := by
  obtain ⟨_, _, h3⟩ := Oper.apart_spec hap
  have e1 : execOp (({ a with defers := ds } : Act).put oj.dst u).eval oi = execOp a.eval oi := (execOp_put (ops := ops) oi hs { a with defers := ds } oj.dst u h3).trans rfl
  have e2 : Region.wanted oi (yielded ops (({ a with defers := ds } : Act).put oj.dst u).tmps) = Region.wanted oi (yielded ops a.tmps) := (wanted_put (ops := ops) oi { a with defers := ds } oj.dst u h3).trans rfl
  unfold YieldsJ at *
  rw [e1, e2]
  exact hy

theorem wpAnyJ_first {P : Program} {ops : Array Oper} {J : World → Prop} {Q : Exit → Act → World → Prop} {K : Array Bool → Act → World → Prop} {fin : Array Bool} {i : Nat} {oi : Oper} {v : Value} (hi : ops[i]? = some oi) (hfi : fin.getD i false = true)
    (hsel : Region.noSelect ops = true) (hQ : ∀ c a w, Q (.panic c) (a.put oi.dst v) w → Q (.panic c) a w) :
    ∀ (k : Nat) (listed : Array Bool) (a : Act) (w : World),
      (∀ j oj, ops[j]? = some oj → j ≠ i → listed.getD j true = false → (∀ e ∈ oj.after, Region.binds .any e = true → e.on ≠ i) → oi.apart ops oj = true) →
      i ∈ Region.ready .any ops listed → YieldsJ P ops J oi v a →
      wpAnyJ P ops fin J Q K k (listed.setIfInBounds i true) (a.put oi.dst v) w → wpAnyJ P ops fin J Q K (k + 1) listed a w := by
  have self : ∀ (k : Nat) (listed : Array Bool) (a : Act) (w : World), J w → YieldsJ P ops J oi v a → wpAnyJ P ops fin J Q K k (listed.setIfInBounds i true) (a.put oi.dst v) w →
      wpOp P ops Q i (wpAnyJ P ops fin J Q K k (listed.setIfInBounds i true)) a w := by
    intro k listed a w hJ hy h
    unfold wpOp
    simp only [hi]
    rcases hy with ⟨hw, hr⟩ | ⟨hw, rfl⟩
    · rw [if_pos hw]
      refine .inl ?_
      unfold Oper.wp
      rw [hr w hJ]
      exact h
    · rw [if_neg (by simp [hw])]
      exact h
  have inR : ∀ {listed : Array Bool}, i ∈ Region.ready .any ops listed → i ∈ readyIn ops fin listed := fun h => List.mem_filter.2 ⟨h, hfi⟩
  have monoR : ∀ {listed : Array Bool} {j : Nat}, j ∈ readyIn ops fin listed → j ≠ i → j ∈ readyIn ops fin (listed.setIfInBounds i true) := fun h hne =>
    List.mem_filter.2 ⟨ready_mono (List.mem_filter.1 h).1 hne, (List.mem_filter.1 h).2⟩
  intro k
  induction k with
  | zero =>
    intro listed a w hfree hr hy H
    refine ⟨H.1, fun h0 => absurd (inR hr) (by rw [h0]; simp), fun j hj => ?_⟩
    by_cases hji : j = i
    · subst hji; exact self 0 listed a w H.1 hy H
    · exact absurd (monoR hj hji) (by rw [H.2.1]; simp)
  | succ k ih =>
    intro listed a w hfree hr hy H
    refine ⟨H.1, fun h0 => absurd (inR hr) (by rw [h0]; simp), fun j hj => ?_⟩
    by_cases hji : j = i
    · subst hji; exact self (k + 1) listed a w H.1 hy H
    · have h1 := H.2.2 j (monoR hj hji)
      obtain ⟨hjun, oj, hoj, hall⟩ := mem_ready.1 (List.mem_filter.1 hj).1
      have hnot : ∀ e ∈ oj.after, Region.binds .any e = true → e.on ≠ i := fun e he hb heq => by
        have h1 := hall e he hb
        have h0 := (mem_ready.1 hr).1
        rw [heq] at h1
        rcases Nat.lt_or_ge i listed.size with h' | h'
        · simp [h'] at h0 h1; rw [h0] at h1; cases h1
        · simp [Array.getElem?_eq_none h'] at h1
      have hap := hfree j oj hoj hji hjun hnot
      have hs := Region.noSelect_spec hsel
      -- the same operation with a value that hangs on nothing: the known law on two that are apart serves
      let oi' : Oper := { oi with op := .move (.const v) }
      have hlook : ∀ t, t ∈ oi'.looksAt ops → t ∈ oi.looksAt ops := by
        intro t ht
        simp only [Oper.looksAt, oi', Op.operands, List.mem_append] at ht ⊢
        rcases ht with ht | ht
        · simp at ht
        · exact .inr ht
      have hap' : oi'.apart ops oj = true := by
        obtain ⟨a1, a2, a3⟩ := Oper.apart_spec hap
        unfold Oper.apart
        simp only [Bool.and_eq_true]
        constructor
        · cases hd : oi.dst with
          | none => simp [oi', hd]
          | some d => have x1 := a1 d hd; have x2 := a2 d hd; simp [oi', hd, x1, x2]
        · cases hd : oj.dst with
          | none => rfl
          | some d =>
            have x3 := a3 d hd
            simp only [Bool.not_eq_true']
            exact Bool.eq_false_iff.2 fun hc => x3 (hlook d (by simpa using hc))
      have hy' : Yields P ops oi' v a := by
        rcases hy with ⟨hw, _⟩ | ⟨hw, hv⟩
        · exact .inl ⟨hw, fun w => by simp [oi', execOp, Act.eval]⟩
        · exact .inr ⟨hw, hv⟩
      have h2 := wpOp_put (oi := oi') hoj hap' (fun cs b => by simp [oi']) (fun cs b => hs j oj cs b hoj) hQ hy' h1
      have h3 := wpOp_shape hoj h2
      have hfree' : ∀ k ok, ops[k]? = some ok → k ≠ i → (listed.setIfInBounds j true).getD k true = false →
          (∀ e ∈ ok.after, Region.binds .any e = true → e.on ≠ i) → oi.apart ops ok = true := fun k ok hk hki hun hno => by
        refine hfree k ok hk hki ?_ hno
        by_cases hjk : j = k
        · subst hjk; exact hjun
        · rw [getD_set_ne true hjk] at hun; exact hun
      refine wpOp_mono (fun a' w' h4 => ?_) h3
      obtain ⟨⟨u, ds, rfl⟩, _, h5⟩ := h4
      refine ih (listed.setIfInBounds j true) _ w' hfree' (ready_mono hr (Ne.symm hji)) (hy.keep hap (fun cs b => hs i oi cs b hi) u ds) ?_
      rw [Array.setIfInBounds_comm _ _ hji]
      exact h5

theorem wpAny_fuel {P : Program} {ops : Array Oper} {Q : Exit → Act → World → Prop} : ∀ (k : Nat) (listed : Array Bool) (a : Act) (w : World), wpAny P .any ops Q k listed a w → wpAny P .any ops Q (k + 1) listed a w
  | 0, listed, a, w, h => wpAny_done h.1 h.2 1
  | k + 1, listed, a, w, h => ⟨h.1, fun i hi => wpOp_mono (fun a' w' h' => wpAny_fuel k _ a' w' h') (h.2 i hi)⟩

theorem wpAny_fuel_le {P : Program} {ops : Array Oper} {Q : Exit → Act → World → Prop} {k : Nat} {listed : Array Bool} {a : Act} {w : World} (h : wpAny P .any ops Q k listed a w) : ∀ m, wpAny P .any ops Q (m + k) listed a w
  | 0 => by rwa [Nat.zero_add]
  | m + 1 => by rw [Nat.add_right_comm]; exact wpAny_fuel _ _ _ _ (wpAny_fuel_le h m)

/-- A phase, and what comes behind it. -/
theorem wpAny_phase {P : Program} {ops : Array Oper} {J : World → Prop} {Q : Exit → Act → World → Prop} {fin : Array Bool} {m : Nat} (hph : phaseOk ops fin = true) :
    ∀ (k : Nat) (listed : Array Bool) (a : Act) (w : World), listed.size = ops.size → wpAnyJ P ops fin J Q (wpAny P .any ops Q m) k listed a w → wpAny P .any ops Q (k + m) listed a w := by
  have split : ∀ listed : Array Bool, listed.size = ops.size → readyIn ops fin listed = [] ∨ Region.ready .any ops listed = readyIn ops fin listed := by
    intro listed hsz
    by_cases hall : ∀ j ∈ Region.ready .any ops listed, fin.getD j false = true
    · exact .inr (List.filter_eq_self.2 hall).symm
    · left
      obtain ⟨j, hj⟩ := Classical.not_forall.1 hall
      obtain ⟨hj, hjf⟩ := Classical.not_imp.1 hj
      have hjf' : fin.getD j false = false := by simpa using hjf
      obtain ⟨hjun, oj, hoj, hdep⟩ := mem_ready.1 hj
      refine List.filter_eq_nil_iff.2 fun i hi hfi => ?_
      obtain ⟨hiun, oi, hoi, _⟩ := mem_ready.1 hi
      have hjlt : j < ops.size := (Array.getElem?_eq_some_iff.1 hoj).1
      have hilt : i < ops.size := (Array.getElem?_eq_some_iff.1 hoi).1
      unfold phaseOk at hph
      have h1 := List.all_eq_true.1 hph j (List.mem_range.2 hjlt)
      rw [hjf', Bool.false_or, hoj] at h1
      have h2 := List.all_eq_true.1 h1 i (List.mem_range.2 hilt)
      rw [hfi, Bool.not_true, Bool.false_or] at h2
      obtain ⟨e, he, hb⟩ := Array.any_eq_true'.1 h2
      simp only [Bool.and_eq_true, beq_iff_eq] at hb
      have h3 := hdep e he hb.1
      rw [hb.2] at h3
      have hl : i < listed.size := by omega
      simp [hl] at hiun h3
      rw [hiun] at h3
      cases h3
  intro k
  induction k with
  | zero =>
    intro listed a w hsz h
    rw [Nat.zero_add]
    exact h.2.2
  | succ k ih =>
    intro listed a w hsz h
    rcases split listed hsz with h0 | h0
    · exact wpAny_fuel_le (h.2.1 h0) (k + 1)
    · by_cases hn : readyIn ops fin listed = []
      · exact wpAny_fuel_le (h.2.1 hn) (k + 1)
      · rw [Nat.add_right_comm]
        refine ⟨fun hr => absurd (h0 ▸ hr) hn, fun i hi => ?_⟩
        rw [h0] at hi
        exact wpOp_mono (fun a' w' h' => ih _ a' w' (by simpa using hsz) h') (h.2.2 i hi)

theorem wpOp_Q {P : Program} {ops : Array Oper} {Q Q' : Exit → Act → World → Prop} (hq : ∀ x a w, Q x a w → Q' x a w) {i : Nat} {K : Act → World → Prop} {a : Act} {w : World} (h : wpOp P ops Q i K a w) : wpOp P ops Q' i K a w := by
  unfold wpOp at h ⊢
  split
  · rename_i ho; rw [ho] at h; exact h
  · rename_i o ho
    rw [ho] at h
    simp only at h
    split
    · rename_i hw
      rw [if_pos hw] at h
      rcases h with h | ⟨h1, a1, w1, h2⟩
      · refine .inl ?_
        unfold Oper.wp at h ⊢
        generalize (execOp a.eval o).run P w = r at h ⊢
        cases r with
        | ok nx w' =>
          cases nx <;> simp only [Oper.upon] at h ⊢
          case value => exact h
          case skip => exact h
          case defer => exact h
          case enter f args =>
            refine Calls.mono h fun en w'' he => ?_
            cases en with
            | returned v => exact he
            | panicked c => exact hq _ _ _ he
            | outgrown => obtain ⟨a1, w1, h2⟩ := he; exact ⟨a1, w1, hq _ _ _ h2⟩
          case row => exact h
        | halt x w' =>
          cases x <;> simp only [Oper.upon] at h ⊢
          exact hq _ _ _ h
      · exact .inr ⟨h1, a1, w1, hq _ _ _ h2⟩
    · rename_i hw
      rw [if_neg hw] at h
      exact h

theorem wpAny_Q {P : Program} {ops : Array Oper} {Q Q' : Exit → Act → World → Prop} (hq : ∀ x a w, Q x a w → Q' x a w) : ∀ (k : Nat) (listed : Array Bool) (a : Act) (w : World), wpAny P .any ops Q k listed a w → wpAny P .any ops Q' k listed a w
  | 0, _, _, _, h => ⟨h.1, hq _ _ _ h.2⟩
  | k + 1, _, _, _, h => ⟨fun h0 => hq _ _ _ (h.1 h0), fun i hi => wpOp_mono (fun a' w' h' => wpAny_Q hq k _ a' w' h') (wpOp_Q hq (h.2 i hi))⟩

/-- What is still to come of a region, in any order. -/
def WpR (P : Program) (n : Nat) (ops : Array Oper) (Q : Exit → Env → List HP → Prop) (m : Nat) (listed : Array Bool) (e : Env) (l : List HP) : Prop :=
  ∀ F w a, Holds l F w → EnvOk n e a → wpAny P .any ops (SPost n F w Q) m listed a w

/-- A phase: C is looked at only, l may be turned. -/
def WpA (P : Program) (n : Nat) (ops : Array Oper) (Q : Exit → Env → List HP → Prop) (fin : Array Bool) (K : Array Bool → Env → List HP → Prop) (k : Nat) (listed : Array Bool) (C : List HP) (e : Env) (l : List HP) : Prop :=
  ∀ rC F G w0 w a, stars C rC → Join rC F G → Holds l G w → Ext w0 w → EnvOk n e a →
    wpAnyJ P ops fin (fun w => Sat w G) (SPost n F w0 Q) (fun listed a' w' => ∃ e' l', EnvOk n e' a' ∧ Holds l' G w' ∧ Ext w0 w' ∧ K listed e' l') k listed a w

section
variable {P : Program} {n : Nat} {ops : Array Oper} {Q : Exit → Env → List HP → Prop} {e : Env} {l C : List HP}

theorem Wp.draw {id : Nat} (hm : P.follows .mixedOrders = true) (h : WpR P n ops Q ops.size (Array.replicate ops.size false) e l) : Wp P n (.region id ops true) Q e l := by
  intro F w a hl he
  refine wp_region_any hm ?_
  have := h F w.drew a hl.drew he
  exact wpAny_Q (fun x a w' hq => SPost.mono (Ext.drew w) (fun _ _ _ h => h) hq) _ _ _ _ this

theorem WpR.done {m : Nat} {listed : Array Bool} (hr : Region.ready .any ops listed = []) (h : Q .normal e l) : WpR P n ops Q m listed e l :=
  fun F w a hl he => wpAny_done hr ⟨rfl, e, l, he, hl, Ext.refl w, h⟩ m

theorem WpR.nrm {m : Nat} {listed : Array Bool} {e' : Env} (hs : e = e') (h : WpR P n ops Q m listed e' l) : WpR P n ops Q m listed e l := hs ▸ h
theorem WpR.heap {m : Nat} {listed : Array Bool} {l' : List HP} (hp : ∀ F w, Holds l F w → Holds l' F w) (h : WpR P n ops Q m listed e l') : WpR P n ops Q m listed e l :=
  fun F w a hl he => h F w a (hp F w hl) he

theorem wpAnyJ_K {fin : Array Bool} {J : World → Prop} {Q' Q'' : Exit → Act → World → Prop} {K K' : Array Bool → Act → World → Prop} (hq : ∀ x a w, Q' x a w → Q'' x a w) (hk : ∀ li a w, K li a w → K' li a w) :
    ∀ (k : Nat) (listed : Array Bool) (a : Act) (w : World), wpAnyJ P ops fin J Q' K k listed a w → wpAnyJ P ops fin J Q'' K' k listed a w
  | 0, _, _, _, h => ⟨h.1, h.2.1, hk _ _ _ h.2.2⟩
  | k + 1, _, _, _, h => ⟨h.1, fun h0 => hk _ _ _ (h.2.1 h0), fun i hi => wpOp_mono (fun a' w' h' => wpAnyJ_K hq hk k _ a' w' h') (wpOp_Q hq (h.2.2 i hi))⟩

theorem Holds.of_parts {C l : List HP} {rC F G : Res} {w : World} (hC : stars C rC) (hj : Join rC F G) (hl : Holds l G w) : Holds (C ++ l) F w := by
  obtain ⟨r, t, hr, h1, hs⟩ := hl
  obtain ⟨x, h2, h3⟩ := hj.assoc' h1
  exact ⟨x, t, stars_append.2 ⟨rC, r, h2.comm, hC, hr⟩, h3, hs⟩

theorem Holds.to_parts {C l : List HP} {F : Res} {w : World} (h : Holds (C ++ l) F w) : ∃ rC G, stars C rC ∧ Join rC F G ∧ Holds l G w := by
  obtain ⟨r, t, hr, h1, hs⟩ := h
  obtain ⟨r1, r2, h2, k1, k2⟩ := stars_append.1 hr
  obtain ⟨G, h3, h4⟩ := h2.comm.assoc h1
  exact ⟨r1, G, k1, h3, r2, t, k2, h4, hs⟩

/-- A phase begins. -/
theorem WpR.phase {m : Nat} {listed : Array Bool} (fin : Array Bool) (k : Nat) (C : List HP) {l' : List HP} (hsz : listed.size = ops.size) (hph : phaseOk ops fin = true) (ht : Tk l C l')
    (h : WpA P n ops Q fin (fun listed e l => WpR P n ops Q m listed e (C ++ l)) k listed C e l') : WpR P n ops Q (k + m) listed e l := by
  intro F w a hl he
  obtain ⟨rC, G, hC, hj, hl'⟩ := (ht F w hl).to_parts
  refine wpAny_phase (J := fun w => Sat w G) hph k listed a w hsz (wpAnyJ_K (fun _ _ _ h => h) ?_ _ _ _ _ (h rC F G w w a hC hj hl' (Ext.refl w) he))
  rintro li a' w' ⟨e', l'', he', hl'', hx, hK⟩
  exact wpAny_Q (fun x a w hq => SPost.mono hx (fun _ _ _ h => h) hq) _ _ _ _ (hK F w' a' (Holds.of_parts hC hj hl'') he')

variable {fin : Array Bool} {K : Array Bool → Env → List HP → Prop} {k : Nat} {listed : Array Bool}

theorem WpA.nrm {e' : Env} (hs : e = e') (h : WpA P n ops Q fin K k listed C e' l) : WpA P n ops Q fin K k listed C e l := hs ▸ h
theorem WpA.lis {li : Array Bool} (hs : listed = li) (h : WpA P n ops Q fin K k li C e l) : WpA P n ops Q fin K k listed C e l := hs ▸ h
theorem WpA.heap {l' : List HP} (hp : ∀ F w, Holds l F w → Holds l' F w) (h : WpA P n ops Q fin K k listed C e l') : WpA P n ops Q fin K k listed C e l :=
  fun rC F G w0 w a hC hj hl hx he => h rC F G w0 w a hC hj (hp G w hl) hx he

theorem WpA.stop (hr : readyIn ops fin listed = []) (h : K listed e l) : WpA P n ops Q fin K k listed C e l := by
  intro rC F G w0 w a hC hj hl hx he
  cases k with
  | zero => exact ⟨hl.satF, hr, e, l, he, hl, hx, h⟩
  | succ k => exact ⟨hl.satF, fun _ => ⟨e, l, he, hl, hx, h⟩, by rw [hr]; simp⟩

theorem WpA.take_ {i d : Nat} {op : Op} {ty : TypeId} {pos : String} {after : Array Edge} {g : Option (Nat × Bool)} {v : Value} (hi : ops[i]? = some ⟨some d, op, ty, pos, after, g⟩) (hfi : fin.getD i false = true)
    (hsel : Region.noSelect ops = true) (hfree : Region.free .any ops listed i = true) (hr : (Region.ready .any ops listed).contains i = true)
    (hw : ∀ a, EnvOk n e a → Region.wanted ⟨some d, op, ty, pos, after, g⟩ (yielded ops a.tmps) = true) (hv : Rdo P e C op ty v) (hd : Nat.blt d n = true)
    (h : WpA P n ops Q fin K k (listed.setIfInBounds i true) C (eset e d v) l) : WpA P n ops Q fin K (k + 1) listed C e l := by
  intro rC F G w0 w a hC hj hl hx he
  refine wpAnyJ_first hi hfi hsel (fun c a w hq => ?_) k listed a w (Region.free_spec hi hfree) (by simpa using hr) (.inl ⟨hw a he, fun w' hs => ?_⟩) (h rC F G w0 w _ hC hj hl hx (he.put v hd))
  · exact absurd hq.1 (by simp [calmX])
  · exact hv F w' a n _ _ _ _ ⟨rC, G, hC, hj, hs⟩ he

theorem WpA.take {i d : Nat} {op : Op} {ty : TypeId} {pos : String} {after : Array Edge} {v : Value} (hi : ops[i]? = some ⟨some d, op, ty, pos, after, none⟩) (hfi : fin.getD i false = true)
    (hsel : Region.noSelect ops = true) (hfree : Region.free .any ops listed i = true) (hr : (Region.ready .any ops listed).contains i = true)
    (hv : Rdo P e C op ty v) (hd : Nat.blt d n = true)
    (h : WpA P n ops Q fin K k (listed.setIfInBounds i true) C (eset e d v) l) : WpA P n ops Q fin K (k + 1) listed C e l :=
  WpA.take_ hi hfi hsel hfree hr (fun _ _ => by simp [Region.wanted]) hv hd h

theorem WpA.want {i d j t : Nat} {b c : Bool} {op : Op} {ty : TypeId} {pos : String} {after : Array Edge} {v : Value} (hi : ops[i]? = some ⟨some d, op, ty, pos, after, some (j, b)⟩) (ht : (ops[j]?).bind (·.dst) = some t) (hc : elook e t = some (.bool c)) (hb : c = b)
    (hfi : fin.getD i false = true) (hsel : Region.noSelect ops = true) (hfree : Region.free .any ops listed i = true) (hr : (Region.ready .any ops listed).contains i = true)
    (hv : Rdo P e C op ty v) (hd : Nat.blt d n = true)
    (h : WpA P n ops Q fin K k (listed.setIfInBounds i true) C (eset e d v) l) : WpA P n ops Q fin K (k + 1) listed C e l :=
  WpA.take_ hi hfi hsel hfree hr (fun a he => by simp [Region.wanted, yielded, ht, he.at_ t _ hc, hb]) hv hd h

theorem WpA.pass {i d j t : Nat} {b c : Bool} {op : Op} {ty : TypeId} {pos : String} {after : Array Edge} (hi : ops[i]? = some ⟨some d, op, ty, pos, after, some (j, b)⟩) (ht : (ops[j]?).bind (·.dst) = some t) (hc : elook e t = some (.bool c)) (hb : c = !b)
    (hfi : fin.getD i false = true) (hsel : Region.noSelect ops = true) (hfree : Region.free .any ops listed i = true) (hr : (Region.ready .any ops listed).contains i = true) (hd : Nat.blt d n = true)
    (h : WpA P n ops Q fin K k (listed.setIfInBounds i true) C (eset e d undef) l) : WpA P n ops Q fin K (k + 1) listed C e l := by
  intro rC F G w0 w a hC hj hl hx he
  subst hb
  refine wpAnyJ_first hi hfi hsel (fun c a w hq => ?_) k listed a w (Region.free_spec hi hfree) (by simpa using hr) (.inr ⟨?_, rfl⟩) (h rC F G w0 w _ hC hj hl hx (he.put undef hd))
  · exact absurd hq.1 (by simp [calmX])
  · simp [Region.wanted, yielded, ht, he.at_ t _ hc]

/-- The one operation that may come next. -/
theorem WpA.one {i : Nat} {d : Option Nat} {op : Op} {ty : TypeId} {pos : String} {after : Array Edge} (hi : ops[i]? = some ⟨d, op, ty, pos, after, none⟩) (hr : readyIn ops fin listed = [i])
    (h : Stp P n ⟨d, op, ty, pos, after, none⟩ e l (fun e' l' => WpA P n ops Q fin K k (listed.setIfInBounds i true) C e' l')) : WpA P n ops Q fin K (k + 1) listed C e l := by
  intro rC F G w0 w a hC hj hl hx he
  refine ⟨hl.satF, by rw [hr]; simp, fun j hj' => ?_⟩
  rw [hr, List.mem_singleton] at hj'
  subst hj'
  unfold wpOp
  simp only [hi]
  rw [if_pos (by simp [Region.wanted])]
  refine .inl (h G w a hl he _ _ ?_)
  intro e' l' a' w' he' hl' hx' hq
  exact hq rC F G w0 w' a' hC hj hl' (hx.trans hx') he'

theorem WpA.oneG {i j t : Nat} {b c : Bool} {d : Option Nat} {op : Op} {ty : TypeId} {pos : String} {after : Array Edge} (hi : ops[i]? = some ⟨d, op, ty, pos, after, some (j, b)⟩) (ht : (ops[j]?).bind (·.dst) = some t) (hc : elook e t = some (.bool c)) (hb : c = b)
    (hr : readyIn ops fin listed = [i])
    (h : Stp P n ⟨d, op, ty, pos, after, some (j, b)⟩ e l (fun e' l' => WpA P n ops Q fin K k (listed.setIfInBounds i true) C e' l')) : WpA P n ops Q fin K (k + 1) listed C e l := by
  intro rC F G w0 w a hC hj hl hx he
  refine ⟨hl.satF, by rw [hr]; simp, fun j hj' => ?_⟩
  rw [hr, List.mem_singleton] at hj'
  subst hj'
  unfold wpOp
  simp only [hi]
  rw [if_pos (by simp [Region.wanted, yielded, ht, he.at_ t _ hc, hb])]
  refine .inl (h G w a hl he _ _ ?_)
  intro e' l' a' w' he' hl' hx' hq
  exact hq rC F G w0 w' a' hC hj hl' (hx.trans hx') he'
end

/-! ### Rows that grow -/

/-- A type that is no integer (the second operand of append). -/
def niOf (P : Program) (t : TypeId) : Bool := match P.underlying t with | some (.slice _) => true | some .string => true | _ => false
class NI (P : Program) (t : TypeId) : Prop where pf : niOf P t = true

/-- What append is handed: so many elements, these cells, in whatever world C holds. -/
def Src (P : Program) (C : List HP) (sz : Nat) (x : Value) (m : Nat) (news : List Value) : Prop :=
  ∀ F w, Holds C F w → (Builtin.lenOf x).run P w = .ok m w ∧ (Builtin.firstCells sz m x).run P w = .ok news.toArray w

theorem Src.next {P : Program} {p : HP} {C : List HP} {sz : Nat} {x : Value} {m : Nat} {news : List Value} (h : Src P C sz x m news) : Src P (p :: C) sz x m news :=
  fun F w hl => h F w hl.drop

theorem Src.nil {P : Program} {C : List HP} {sz : Nat} : Src P C sz (.slice none 0 0) 0 [] :=
  fun F w _ => ⟨by simp [Builtin.lenOf], by simp [Builtin.firstCells]⟩

theorem Src.of_cells {P : Program} {C : List HP} {sz b off m c : Nat} {news : List Value} (hl : news.length = m * sz)
    (h : ∀ F w, Holds C F w → ∀ j v, news[j]? = some v → w.cell? ⟨b, off + j, none⟩ = some v) : Src P C sz (.slice (some ⟨b, off, none⟩) m c) m news :=
  fun F w hC => ⟨by simp [Builtin.lenOf], run_firstCells_some w sz m ⟨b, off, none⟩ m c news hl (fun j v hj => by rw [addr_add]; exact h F w hC j v hj)⟩

theorem Src.cel {P : Program} {l : List HP} {t : TypeId} {sz b m c : Nat} {cs : List Value} (hl : cs.length = m * sz) : Src P (cel b t cs :: l) sz (.slice (some ⟨b, 0, none⟩) m c) m cs :=
  Src.of_cells hl fun F w hC j v hj => by
    have : hasCells w b cs := ⟨_, _, cel_sees hC⟩
    rw [Nat.zero_add, this.cell]
    exact hj

/-- An owned row: a slice's elements stand in a block that is owned, spare room behind them. -/
def rowA (t : TypeId) (sz : Nat) (v : Value) (n : Nat) (xs : List Value) : HP := fun r =>
  xs.length = n * sz ∧ ((v = .slice none 0 0 ∧ n = 0) ∨
  ∃ b o cap cur, v = .slice (some ⟨b, o, none⟩) n cap ∧ r b = some (true, .cells cur t (0, 0)) ∧ n ≤ cap ∧ o + cap * sz ≤ cur.size ∧ (cur.toList.drop o).take (n * sz) = xs)

theorem rowA_shape {t : TypeId} {sz : Nat} {v : Value} {n : Nat} {xs : List Value} {r : Res} (h : rowA t sz v n xs r) : ∃ a c, v = .slice a n c := by
  rcases h.2 with ⟨rfl, rfl⟩ | ⟨b, o, cap, cur, rfl, _⟩
  · exact ⟨none, 0, rfl⟩
  · exact ⟨_, cap, rfl⟩
theorem rowA_nil (t : TypeId) (sz : Nat) (r : Res) : rowA t sz (.slice none 0 0) 0 [] r := ⟨by simp, .inl ⟨rfl, rfl⟩⟩

/-- A new block is an owned row. -/
theorem rowA_cel {t : TypeId} {sz b n : Nat} {cs : List Value} (hl : cs.length = n * sz) (r : Res) (h : cel b t cs r) : rowA t sz (.slice (some ⟨b, 0, none⟩) n n) n cs r :=
  ⟨hl, .inr ⟨b, 0, n, cs.toArray, rfl, h, Nat.le_refl _, by simp [hl], by simp [← hl]⟩⟩

theorem Holds.rowA_nil {l : List HP} {F : Res} {w : World} (t : TypeId) (sz : Nat) (h : Holds l F w) : Holds (rowA t sz (.slice none 0 0) 0 [] :: l) F w := by
  obtain ⟨r, x, hr, hj, hs⟩ := h
  exact ⟨r, x, ⟨_, r, Join.unit r, Go.Proofs.Ytmeaekcengmfbaa.rowA_nil t sz _, hr⟩, hj, hs⟩

theorem run_append_stay {P : Program} {t xt ty e sz : Nat} (ht : EL P t e) (hz : SZ P e sz) (hx : NI P xt) {w : World} {base : Option Addr} {n cap m : Nat} {x : Value} {news : List Value}
    (h1 : (Builtin.lenOf x).run P w = .ok m w) (h2 : (Builtin.firstCells sz m x).run P w = .ok news.toArray w) (hroom : n + m ≤ cap) {w' : World}
    (hst : (match base with | some a => storeCells (a.add (n * sz)) news | none => Pure.pure ()).run P w = .ok () w') :
    (Builtin.append_ #[t, xt] ty #[.slice base n cap, x]).run P w = .ok (.slice base (n + m) cap) w' := by
  have hni := hx.pf
  unfold niOf at hni
  cases hu : P.underlying xt with
  | none => rw [hu] at hni; cases hni
  | some d =>
    rw [hu] at hni
    cases d <;> first
      | (cases hni; done)
      | (cases base with
         | none =>
           simp at hst
           subst hst
           simp [Builtin.append_, run_underlying ht.pf, hz.run, run_underlying hu, h1, h2, hroom]
         | some a =>
           simp only at hst
           simp [Builtin.append_, run_underlying ht.pf, hz.run, run_underlying hu, h1, h2, hroom, hst])

theorem run_append_new {P : Program} {t xt ty e sz by_ : Nat} {zs : List Value} (ht : EL P t e) (hz : SZ P e sz) (hby : BY P e by_) (hzv : ZV P e zs) (hx : NI P xt) {w : World} {base : Option Addr} {n cap m : Nat} {x : Value} {olds news : List Value}
    (h1 : (Builtin.lenOf x).run P w = .ok m w) (h2 : (Builtin.firstCells sz m x).run P w.drew = .ok news.toArray w.drew) (h3 : (Builtin.firstCells sz n (.slice base n cap)).run P w.drew = .ok olds.toArray w.drew)
    (hroom : cap < n + m) (hbytes : (n + m) * by_ ≤ 140737488355328) (h63 : n + m ≤ 9223372036854775807) :
    (Builtin.append_ #[t, xt] ty #[.slice base n cap, x]).run P w = .ok (.slice (some ⟨w.heap.size, 0, none⟩) (n + m) (grownCap w (n + m) cap e))
      (w.drew.alloc (.cells (olds.toArray ++ news.toArray ++ Builtin.zeroCells zs.toArray (grownCap w (n + m) cap e - (n + m))) e)) := by
  have hni := hx.pf
  unfold niOf at hni
  obtain ⟨z, hzr, hzc⟩ := hzv.run (w := w.drew)
  have hb := hby.pf
  cases hi : P.info? e with
  | none => rw [hi] at hb; cases hb
  | some i =>
    rw [hi] at hb
    simp only [Option.map_some, Option.some.injEq] at hb
    have hti : ∀ w, (typeInfo e).run P w = .ok i w := fun w => by simp [typeInfo, hi]
    have hfit := growslice_fits (need := n + m) (old := cap) (bytes := i.bytes) hroom (by rw [hb]; exact hbytes)
    have hfit' : ¬ (281474976710656 < Builtin.nextslicecap (n + m) cap * i.bytes) := by omega
    have hn : ¬ (n + m ≤ cap) := by omega
    have h63' : ¬ (9223372036854775807 < ((n : Int) + (m : Int))) := by omega
    cases hu : P.underlying xt with
    | none => rw [hu] at hni; cases hni
    | some d =>
      rw [hu] at hni
      cases d <;> first
        | (cases hni; done)
        | (simp [Builtin.append_, run_underlying ht.pf, hz.run, run_underlying hu, h1, hn, hti, h63', hfit', Question.forced, h2, h3, hzr, hzc, newRow, grownCap]; congr 2; apply Array.ext'; simp [List.append_assoc])

theorem oneCells_nil : oneCells [] := by intro v h; cases h

/-- append onto an owned row. -/
theorem Stp.append {P : Program} {n d : Nat} {x y : Operand} {t xt ty e' sz by_ : Nat} {zs : List Value} {pos : String} {after : Array Edge} {g : Option (Nat × Bool)} {e : Env} {C : List HP} {Φ : Env → List HP → Prop}
    {v u : Value} {k m : Nat} {xs news : List Value} [ht : EL P t e'] [hz : SZ P e' sz] [hby : BY P e' by_] [hzv : ZV P e' zs] [hni : NI P xt]
    (hx : evl e x = some v) (hy : evl e y = some u) (hs : Src P C sz u m news) (hnl : news.length = m * sz) (hone : oneCells news) (hbytes : (k + m) * by_ ≤ 140737488355328) (h63 : k + m ≤ 9223372036854775807) (hd : Nat.blt d n = true) (hzl : zs.length = sz)
    (hk : ∀ a' c', Φ (eset e d (.slice a' (k + m) c')) (rowA e' sz (.slice a' (k + m) c') (k + m) (xs ++ news) :: C)) :
    Stp P n ⟨some d, .call { callee := .builtin .append, args := [x, y].toArray, argTypes := [t, xt].toArray }, ty, pos, after, g⟩ e (rowA e' sz v k xs :: C) Φ := by
  intro F w a hl he K Q0 hK
  have hlC := hl.drop
  obtain ⟨h1, h2⟩ := hs F w hlC
  obtain ⟨_, h2'⟩ := hs F w.drew hlC.drew
  have fin : ∀ v' w', (Builtin.append_ #[t, xt] ty #[v, u]).run P w = .ok v' w' → Holds (rowA e' sz v' (k + m) (xs ++ news) :: C) F w' → Ext w w' →
      Oper.wp P ⟨some d, .call { callee := .builtin .append, args := [x, y].toArray, argTypes := [t, xt].toArray }, ty, pos, after, g⟩ a w K Q0 := by
    intro v' w' hr hh hx'
    unfold Oper.wp
    have : (execOp a.eval ⟨some d, .call { callee := .builtin .append, args := [x, y].toArray, argTypes := [t, xt].toArray }, ty, pos, after, g⟩).run P w = .ok (.value v') w' := by
      simp [execOp, resolve, invoke, builtin, he.eval hx, he.eval hy, hr]
    rw [this]
    obtain ⟨a', c', rfl⟩ := hh.fact fun r => rowA_shape
    exact hK _ _ _ _ (he.put _ hd) hh hx' (hk a' c')
  obtain ⟨r, tt, ⟨ra, rc, hj1, ⟨hxl, hrow⟩, hC⟩, hj2, hsat⟩ := hl
  have hlen : (xs ++ news).length = (k + m) * sz := by rw [List.length_append, hxl, hnl, Nat.add_mul]
  have grow : ∀ (base : Option Addr) (cap : Nat), v = .slice base k cap → (Builtin.firstCells sz k (.slice base k cap)).run P w.drew = .ok xs.toArray w.drew → cap < k + m →
      Oper.wp P ⟨some d, .call { callee := .builtin .append, args := [x, y].toArray, argTypes := [t, xt].toArray }, ty, pos, after, g⟩ a w K Q0 := by
    intro base cap hv hold hroom
    subst hv
    have hr := run_append_new (ty := ty) ht hz hby hzv hni h1 h2' hold hroom hbytes h63
    refine fin _ _ hr ?_ ((Ext.drew w).trans (Ext.alloc _ _))
    have ha := Holds.alloc (.cells (xs.toArray ++ news.toArray ++ Builtin.zeroCells zs.toArray (grownCap w (k + m) cap e' - (k + m))) e') hlC.drew
    refine ha.imp fun r hr => ⟨hlen, .inr ⟨w.heap.size, 0, _, _, rfl, hr, grownCap_ge w (k + m) cap e', ?_, ?_⟩⟩
    · simp only [Array.size_append, List.size_toArray, size_zeroCells, hzl, hxl, hnl, Nat.zero_add, ← Nat.add_mul]
      have := grownCap_ge w (k + m) cap e'
      have h4 : k + m + (grownCap w (k + m) cap e' - (k + m)) = grownCap w (k + m) cap e' := by omega
      rw [h4]
      exact Nat.le_refl _
    · simp only [Array.toList_append, List.drop_zero, ← hlen]
      exact List.take_left' rfl
  rcases hrow with ⟨rfl, rfl⟩ | ⟨b, o, cap, cur, rfl, hb, hkc, hsz, htake⟩
  · have hx0 : xs = [] := List.eq_nil_of_length_eq_zero (by simpa using hxl)
    subst hx0
    by_cases hm : m = 0
    · subst hm
      have hn0 : news = [] := List.eq_nil_of_length_eq_zero (by simpa using hnl)
      subst hn0
      have hr := run_append_stay (ty := ty) (P := P) (w := w) (w' := w) (base := none) (n := 0) (cap := 0) ht hz hni h1 h2 (Nat.le_refl _) (by simp)
      exact fin _ _ hr ((hlC.rowA_nil e' sz)) (Ext.refl w)
    · exact grow none 0 rfl (by simp [Builtin.firstCells]) (by omega)
  · have hsees : w.heap[b]? = some (.cells cur e' (0, 0)) := hsat b _ (hj2.left (hj1.left hb))
    by_cases hroom : k + m ≤ cap
    · have hfit : o + k * sz + news.length ≤ cur.size := by
        have h5 := Nat.mul_le_mul_right sz hroom
        rw [hnl, Nat.add_assoc, ← Nat.add_mul]
        omega
      have hst := run_storeCells_at P b (o + k * sz) e' news 0 cur w hsees (by simpa using hfit) hone
      simp only [Nat.add_zero] at hst
      have hr := run_append_stay (ty := ty) (P := P) (w := w) (base := some ⟨b, o, none⟩) ht hz hni h1 h2 hroom (by simp only [addr_add]; exact hst)
      refine fin _ _ hr ?_ ⟨rfl, rfl, rfl, by simp [World.setRow]⟩
      have hblk : Holds (blk b (.cells cur e' (0, 0)) :: C) F w := ⟨r, tt, ⟨ra, rc, hj1, hb, hC⟩, hj2, hsat⟩
      refine (Holds.put (b := b) hblk (setRow_heap w b cur _ e' _ hsees) (fun k hk _ => setRow_old _ hk)).imp fun r' hr' => ⟨hlen, .inr ⟨b, o, cap, _, rfl, hr', hroom, ?_, ?_⟩⟩
      · simp only [List.size_toArray, List.length_append, List.length_take, List.length_drop, Array.length_toList]
        omega
      · have e1 : cur.toList.take (o + k * sz) = cur.toList.take o ++ xs := by
          rw [← htake, List.take_add]
        have e2 : (cur.toList.take o).length = o := by rw [List.length_take, Array.length_toList]; omega
        rw [e1, List.append_assoc, List.append_assoc, List.drop_left' e2, ← List.append_assoc, ← hlen]
        exact List.take_left' rfl
    · refine grow (some ⟨b, o, none⟩) cap rfl ?_ (by omega)
      refine run_firstCells_some (P := P) w.drew sz k ⟨b, o, none⟩ k cap xs hxl fun j u hj => ?_
      rw [addr_add]
      have hj' : j < k * sz := by have := (List.getElem?_eq_some_iff.1 hj).1; omega
      rw [← htake, List.getElem?_take, if_pos hj', List.getElem?_drop] at hj
      simp [World.cell?, heap_drew, hsees, ← Array.getElem?_toList, hj]

/-! ### Slices that are written out -/

/-- A row of elements, each of sz cells, each a value. -/
def flatC (vs : List (List Value)) : List Value := vs.flatten

theorem fill_row {sz : Nat} : ∀ (vs : List Value) (k : Nat) (done todo : List Value), (∀ v ∈ vs, v.cells.size = sz) → done.length = k * sz → todo.length = vs.length * sz →
    Instr.fill (fun i => some (i * sz, sz)) (done ++ todo).toArray (vs.zipIdx k |>.map fun p => (p.2, p.1)) = some (done ++ (vs.map fun v => v.cells.toList).flatten).toArray
  | [], k, done, todo, _, _, h => by
    have : todo = [] := List.eq_nil_of_length_eq_zero (by simpa using h)
    simp [Instr.fill, this]
  | v :: vs, k, done, todo, hv, hd, ht => by
    have h1 := hv v (by simp)
    simp only [List.length_cons, Nat.add_mul, Nat.one_mul] at ht
    have ih := fill_row vs (k + 1) (done ++ v.cells.toList) (todo.drop sz) (fun u hu => hv u (by simp [hu])) (by simp [hd, h1, Nat.add_mul]) (by simp; omega)
    simp only [List.zipIdx_cons, List.map_cons, Instr.fill]
    rw [if_neg (by simp [h1, hd]; omega)]
    have h2 := foldl_lput v.cells.toList (done ++ todo).toArray (k * sz) 0 (by simp [h1, hd]; omega)
    simp only [Nat.add_zero] at h2
    have h3 : (v.cells.zipIdx.foldl (fun cs x => match x with | (c, j) => cs.setIfInBounds (k * sz + j) c) (done ++ todo).toArray) = (lput (done ++ todo) (k * sz) v.cells.toList).toArray := by
      rw [← Array.foldl_toList, Array.toList_zipIdx]
      exact h2
    rw [h3, lput_eq _ _ _ (by simp [h1, hd]; omega)]
    have e1 : (done ++ todo).take (k * sz) = done := by rw [← hd]; exact List.take_left' rfl
    have e2 : (done ++ todo).drop (k * sz + v.cells.toList.length) = todo.drop sz := by
      rw [← hd, List.drop_append]; simp [h1]
    rw [e1, e2]
    simpa [List.append_assoc] using ih

theorem length_zeros (z : List Value) (n : Nat) : ((Array.range n).map (z.toArray[· % z.toArray.size]!)).size = n := by simp

theorem Stp.slice {P : Program} {n d : Nat} {t ty e' sz : Nat} {pos : String} {after : Array Edge} {g : Option (Nat × Bool)} {e : Env} {l : List HP} {Φ : Env → List HP → Prop} {k : Nat} {ps : List (Nat × Operand)} {vs : List Value} {zs cs : List Value}
    [ht : EL P t e'] [hz : SZ P e' sz] [hzv : ZV P e' zs] (hx : evls e (ps.map (·.2)) = some vs) (hi : ps.map (·.1) = List.range k) (hsz : ∀ v ∈ vs, v.cells.size = sz) (hcs : (vs.map fun v => v.cells.toList).flatten = cs)
    (hsmall : k * sz ≤ 16777216) (hd : Nat.blt d n = true) (hk : ∀ b, Φ (eset e d (.slice (some ⟨b, 0, none⟩) k k)) (cel b e' cs :: l)) :
    Stp P n ⟨some d, .buildSlice t k ps.toArray, ty, pos, after, g⟩ e l Φ := by
  intro F w a hl he K Q0 hK
  have hev := he.evals hx
  have hkl : vs.length = k := by
    have h1 := congrArg List.length hi
    have h2 := congrArg List.length hev
    simp at h1 h2
    omega
  have hparts : (ps.toArray.map fun p => (p.1, a.eval p.2)).toList = (vs.zipIdx 0).map fun p => (p.2, p.1) := by
    simp only [List.map_toArray]
    apply List.ext_getElem?
    intro j
    simp only [List.getElem?_map, List.getElem?_zipIdx]
    have h3 : ps[j]?.map (·.1) = (List.range k)[j]? := by rw [← hi]; simp
    have h4 : ps[j]?.map (fun p => a.eval p.2) = vs[j]? := by rw [← hev]; simp [List.getElem?_map, Function.comp_def]
    cases hp : ps[j]? with
    | none => rw [hp] at h4; simp at h4; rw [List.getElem?_eq_none h4]; rfl
    | some p =>
      rw [hp] at h3 h4
      simp only [Option.map_some] at h3 h4 ⊢
      rw [← h4]
      have := (List.getElem?_eq_some_iff.1 h3.symm)
      obtain ⟨hj, h5⟩ := this
      simp at h5
      simp [h5]
  obtain ⟨z, hzr, hzc⟩ := hzv.run (w := w)
  have hsm : ¬ (k * sz > 2 ^ 24) := by have : (2 : Nat) ^ 24 = 16777216 := by decide
                                       omega
  have main : ∀ zc : Array Value, zc.size = k * sz → Instr.fill (fun i => some (i * sz, sz)) zc (ps.toArray.map fun p => (p.1, a.eval p.2)).toList = some cs.toArray := by
    intro zc hzcs
    rw [hparts]
    have := fill_row vs 0 [] zc.toList hsz (by simp) (by simp [hzcs, hkl])
    simp only [List.nil_append, hcs] at this
    simpa using this
  have hr : (execOp a.eval ⟨some d, .buildSlice t k ps.toArray, ty, pos, after, g⟩).run P w = .ok (.value (.slice (some ⟨w.heap.size, 0, none⟩) k k)) (w.alloc (.cells cs.toArray e')) := by
    have hm : (ps.toArray.map fun p => (p.1, a.eval p.2)) = (ps.toArray.map fun (i, x) => (i, a.eval x)) := rfl
    simp only [execOp, Instr.buildSlice, Sem.run_bind, run_underlying ht.pf, Result.andThen_ok, hz.run, hsm, if_false, Sem.run_pure]
    by_cases h0 : k * sz = 0
    · rw [if_pos h0]
      simp only [Sem.run_bind, Sem.run_pure, Result.andThen_ok]
      have := main ((Array.range (k * sz)).map ((#[] : Array Value)[· % (#[] : Array Value).size]!)) (by simp)
      rw [← hm, this]
      simp [newRow]
    · rw [if_neg h0]
      simp only [Sem.run_bind, hzr, Result.andThen_ok, Sem.run_pure]
      have := main ((Array.range (k * sz)).map (z.cells[· % z.cells.size]!)) (by simp)
      rw [← hm, this]
      simp [newRow]
  unfold Oper.wp
  rw [hr]
  exact hK _ _ _ _ (he.put _ hd) (hl.alloc _) (Ext.alloc w _) (hk _)

theorem Stp.tk {P : Program} {n : Nat} {o : Oper} {e : Env} {l pre rest : List HP} {Φ : Env → List HP → Prop} (hp : Tk l pre rest) (h : Stp P n o e (pre ++ rest) Φ) : Stp P n o e l Φ :=
  fun F w a hl he => h F w a (hp F w hl) he

theorem rowA_len {t : TypeId} {sz : Nat} {v : Value} {n : Nat} {xs : List Value} {r : Res} (h : rowA t sz v n xs r) : xs.length = n * sz := h.1

/-- A plain fact that an atom of the premise bears. -/
theorem Trip.get {P : Program} {f : FuncId} {args : List Value} {p : HP} {l rest : List HP} {post : Value → List HP → Prop} {φ : Prop} (hp : Pk l p rest) (hφ : ∀ r, p r → φ) (h : φ → Trip P f args l post) : Trip P f args l post :=
  fun F w hl => h ((hl.perm hp).fact hφ) F w hl
theorem Wp.get {P : Program} {n : Nat} {Q : Exit → Env → List HP → Prop} {e : Env} {p : HP} {l rest : List HP} {c : Code} {φ : Prop} (hp : Pk l p rest) (hφ : ∀ r, p r → φ) (h : φ → Wp P n c Q e l) : Wp P n c Q e l :=
  fun F w a hl he => h ((hl.perm hp).fact hφ) F w a hl he
theorem WpL.get {P : Program} {n : Nat} {ops : Array Oper} {Q : Exit → Env → List HP → Prop} {e : Env} {p : HP} {l rest : List HP} {os : List Oper} {φ : Prop} (hp : Pk l p rest) (hφ : ∀ r, p r → φ) (h : φ → WpL P n ops Q os e l) : WpL P n ops Q os e l :=
  fun F w a hl he => h ((hl.perm hp).fact hφ) F w a hl he

/-! ### Elements of an owned row -/

theorem rowA_at {t : TypeId} {sz : Nat} {v : Value} {n : Nat} {xs : List Value} {r : Res} (i : Nat) (hi : i < n) (h : rowA t sz v n xs r) : ∃ b o cap, v = .slice (some ⟨b, o, none⟩) n cap := by
  rcases h.2 with ⟨rfl, rfl⟩ | ⟨b, o, cap, cur, rfl, _⟩
  · omega
  · exact ⟨b, o, cap, rfl⟩

theorem row_cell {l : List HP} {F : Res} {w : World} {t : TypeId} {sz n cap b o : Nat} {xs : List Value} (h : Holds (rowA t sz (.slice (some ⟨b, o, none⟩) n cap) n xs :: l) F w) (j : Nat) (u : Value) (hj : xs[j]? = some u) :
    w.cell? ⟨b, o + j, none⟩ = some u := by
  obtain ⟨r, ⟨hl, hr⟩, hs⟩ := h.sees
  rcases hr with ⟨h1, _⟩ | ⟨b', o', cap', cur, h1, hb, hnc, hsz, htake⟩
  · cases h1
  · simp only [Value.slice.injEq, Option.some.injEq, Addr.mk.injEq, and_true, true_and] at h1
    obtain ⟨⟨rfl, rfl⟩, rfl⟩ := h1
    have hw := hs b _ hb
    have hj' : j < n * sz := by have := (List.getElem?_eq_some_iff.1 hj).1; omega
    rw [← htake, List.getElem?_take, if_pos hj', List.getElem?_drop] at hj
    simp [World.cell?, hw, ← Array.getElem?_toList, hj]

theorem Lds.row {P : Program} {l : List HP} {t ty : TypeId} {sz n cap b o i : Nat} {xs pre cs post : List Value} [ha : AG P ty true] [hz : SZ P ty sz] (hx : xs = pre ++ (cs ++ post)) (hp : pre.length = i * sz) (hc : cs.length = sz) :
    Lds P (rowA t sz (.slice (some ⟨b, o, none⟩) n cap) n xs :: l) ⟨b, o + i * sz, none⟩ ty (.agg cs.toArray) := by
  intro F w hl
  subst hx
  have := run_loadCells_list (P := P) w ⟨b, o + i * sz, none⟩ cs (fun j v hj => by
    rw [addr_add, Nat.add_assoc]
    refine row_cell hl _ v ?_
    rw [← hp, List.getElem?_append_right (by omega), Nat.add_sub_cancel_left, List.getElem?_append_left (List.getElem?_eq_some_iff.1 hj).1]
    exact hj)
  rw [hc] at this
  simp [Instr.loadAt, Instr.sureAddr, loadVar, ha.run, hz.run, this]

theorem Lds.row1 {P : Program} {l : List HP} {t ty : TypeId} {n cap b o i : Nat} {xs : List Value} {v : Value} [ha : AG P ty false] (hx : xs[i]? = some v) :
    Lds P (rowA t 1 (.slice (some ⟨b, o, none⟩) n cap) n xs :: l) ⟨b, o + i * 1, none⟩ ty v := by
  intro F w hl
  have := row_cell hl i v hx
  simp [Instr.loadAt, Instr.sureAddr, loadVar, ha.run, this]

/-! ### Turns of the state, one atom at a time -/

def Gh (l l' : List HP) : Prop := ∀ F w, Holds l F w → Holds l' F w
theorem Gh.mk {l l' : List HP} (h : ∀ F w, Holds l F w → Holds l' F w) : Gh l l' := h
theorem Gh.trans {a b c : List HP} (h : Gh a b) (k : Gh b c) : Gh a c := fun F w hl => k F w (h F w hl)
theorem Gh.conv {l rest : List HP} {p q : HP} (hp : Pk l p rest) (h : ∀ r, p r → q r) : Gh l (q :: rest) := fun F w hl => (hl.perm hp).imp h
theorem Gh.front {l rest : List HP} {p : HP} (hp : Pk l p rest) : Gh l (p :: rest) := fun F w hl => hl.perm hp
theorem Gh.drop {l rest : List HP} {p : HP} (hp : Pk l p rest) : Gh l rest := fun F w hl => (hl.perm hp).drop
theorem Gh.row {l rest : List HP} {b n : Nat} {t : TypeId} {sz : Nat} {cs : List Value} (hp : Pk l (cel b t cs) rest) (hl : cs.length = n * sz) : Gh l (rowA t sz (.slice (some ⟨b, 0, none⟩) n n) n cs :: rest) := Gh.conv hp (rowA_cel hl)
theorem Gh.cel {l rest : List HP} {b : Nat} {t : TypeId} {cs cs' : List Value} (hp : Pk l (Go.Proofs.Ytmeaekcengmfbaa.cel b t cs) rest) (h : cs = cs') : Gh l (Go.Proofs.Ytmeaekcengmfbaa.cel b t cs' :: rest) := Gh.conv hp (fun r hr => h ▸ hr)
theorem Gh.nil {l : List HP} (t : TypeId) (sz : Nat) : Gh l (rowA t sz (.slice none 0 0) 0 [] :: l) := fun F w hl => hl.rowA_nil t sz
theorem Gh.tk {l l' rest : List HP} (h : Tk l l' rest) : Gh l l' := fun F w hl => (h F w hl).left_
theorem Ret.now {P : Program} {rs : List ResultVar} {post : Value → List HP → Prop} {e : Env} {l l' : List HP} {vs : List Value} (hr : ResV P e l rs vs) (hg : Gh l l') (hp : post (packed vs) l') : RetQ P rs post .ret e l := ⟨vs, l', hr, hp, hg⟩
theorem Ret.end_ {P : Program} {rs : List ResultVar} {post : Value → List HP → Prop} {e : Env} {l l' : List HP} {vs : List Value} (hr : ResV P e l rs vs) (hg : Gh l l') (hp : post (packed vs) l') : RetQ P rs post .normal e l := ⟨vs, l', hr, hp, hg⟩
theorem Gh.use {l l' : List HP} (h : Gh l l') {F : Res} {w : World} (hl : Holds l F w) : Holds l' F w := h F w hl

section
variable {P : Program} {n : Nat} {ops : Array Oper} {Q : Exit → Env → List HP → Prop} {e : Env} {l l' : List HP}
theorem Wp.gh {c : Code} (h : Gh l l') (k : Wp P n c Q e l') : Wp P n c Q e l := Wp.heap h k
theorem WpL.gh {rest : List Oper} (h : Gh l l') (k : WpL P n ops Q rest e l') : WpL P n ops Q rest e l := WpL.heap h k
theorem WpR.gh {m : Nat} {listed : Array Bool} (h : Gh l l') (k : WpR P n ops Q m listed e l') : WpR P n ops Q m listed e l := WpR.heap h k
theorem WpA.gh {fin : Array Bool} {K : Array Bool → Env → List HP → Prop} {k : Nat} {listed : Array Bool} {C : List HP} (h : Gh l l') (hk : WpA P n ops Q fin K k listed C e l') : WpA P n ops Q fin K k listed C e l := WpA.heap h hk
end
/-- A turn that brings a witness and a fact. -/
def GhE {α : Type} (l : List HP) (φ : α → Prop) (f : α → List HP) : Prop := ∀ F w, Holds l F w → ∃ x, φ x ∧ Holds (f x) F w
theorem GhE.mk {α : Type} {l : List HP} {φ : α → Prop} {f : α → List HP} (h : ∀ F w, Holds l F w → ∃ x, φ x ∧ Holds (f x) F w) : GhE l φ f := h
theorem GhE.use {α : Type} {l : List HP} {φ : α → Prop} {f : α → List HP} (h : GhE l φ f) {F : Res} {w : World} (hl : Holds l F w) : ∃ x, φ x ∧ Holds (f x) F w := h F w hl
section
variable {P : Program} {n : Nat} {ops : Array Oper} {Q : Exit → Env → List HP → Prop} {e : Env} {l : List HP} {α : Type} {φ : α → Prop} {f : α → List HP}
theorem Wp.ghE {c : Code} (h : GhE l φ f) (k : ∀ x, φ x → Wp P n c Q e (f x)) : Wp P n c Q e l := fun F w a hl he => let ⟨x, hx, hl'⟩ := h F w hl; k x hx F w a hl' he
theorem WpL.ghE {rest : List Oper} (h : GhE l φ f) (k : ∀ x, φ x → WpL P n ops Q rest e (f x)) : WpL P n ops Q rest e l := fun F w a hl he => let ⟨x, hx, hl'⟩ := h F w hl; k x hx F w a hl' he
theorem WpR.ghE {m : Nat} {listed : Array Bool} (h : GhE l φ f) (k : ∀ x, φ x → WpR P n ops Q m listed e (f x)) : WpR P n ops Q m listed e l := fun F w a hl he => let ⟨x, hx, hl'⟩ := h F w hl; k x hx F w a hl' he
theorem Trip.ghE {fn : FuncId} {args : List Value} {post : Value → List HP → Prop} (h : GhE l φ f) (k : ∀ x, φ x → Trip P fn args (f x) post) : Trip P fn args l post := fun F w hl => let ⟨x, hx, hl'⟩ := h F w hl; k x hx F w hl'
end
/-- A star over what exists is opened. -/
theorem GhE.open_ {α : Type} {l rest : List HP} {f : α → List HP} (hp : Pk l (exH fun x => starH (f x)) rest) : GhE l (fun _ : α => True) (fun x => f x ++ rest) :=
  fun F w hl => let ⟨x, hx⟩ := (hl.perm hp).open_ex; ⟨x, trivial, hx.open_star⟩
theorem Gh.shut {α : Type} {l rest : List HP} {f : α → List HP} (x : α) (hp : Tk l (f x) rest) : Gh l ((exH fun x => starH (f x)) :: rest) :=
  fun F w hl => Holds.shut_ex x (Holds.shut_star (hp F w hl))

/-! ### Loops over a named part of the environment -/

def EnvSub : Env → Env → Prop
  | [], _ => True
  | (i, v) :: r, e => elook e i = some v ∧ EnvSub r e
theorem EnvSub.look : ∀ {e1 e : Env}, EnvSub e1 e → ∀ i v, elook e1 i = some v → elook e i = some v
  | [], _, _, i, v, h => by simp [elook] at h
  | (j, u) :: r, e, ⟨h1, h2⟩, i, v, h => by
    simp only [elook] at h
    cases hb : Nat.beq j i with
    | true =>
      rw [hb] at h
      simp only [cond_true, Option.some.injEq] at h
      subst h
      rw [← Nat.eq_of_beq_eq_true hb]
      exact h1
    | false =>
      rw [hb] at h
      exact EnvSub.look h2 i v h

theorem Wp.sub {P : Program} {n : Nat} {Q : Exit → Env → List HP → Prop} {e e1 : Env} {l : List HP} {c : Code} (hs : EnvSub e1 e) (h : Wp P n c Q e1 l) : Wp P n c Q e l := Wp.env hs.look h

theorem Wp.loopE {P : Program} {n : Nat} {Q : Exit → Env → List HP → Prop} {e e0 : Env} {l l0 : List HP} {c : Code} (I : Nat → Env → List HP → Prop) (k : Nat) (hs0 : EnvSub e0 e) (hself : EnvSub e0 e0) (hg0 : Gh l l0) (h0 : I k e0 l0)
    (hs : ∀ k e l, I k e l → Wp P n c (Thn (fun e' l' => ∃ j e1 l1, j < k ∧ I j e1 l1 ∧ EnvSub e1 e' ∧ Gh l' l1) Q) e l) : Wp P n (.loop c) Q e l := by
  refine Wp.gh hg0 (Wp.sub hs0 (Wp.loop (fun k e l => ∃ e1 l1, I k e1 l1 ∧ EnvSub e1 e ∧ Gh l l1) k ⟨e0, l0, h0, ?_, fun _ _ h => h⟩ ?_))
  · exact hself
  · rintro k e l ⟨e1, l1, hi, hsub, hgh⟩
    refine Wp.gh hgh (Wp.sub hsub (Wp.mono (hs k e1 l1 hi) ?_))
    intro x e' l' hq
    cases x
    case normal =>
      obtain ⟨j, e2, l2, hj, hi2, hs2, hg2⟩ := hq
      exact ⟨j, hj, e2, l2, hi2, hs2, hg2⟩
    all_goals exact hq

theorem Trip.gh {P : Program} {f : FuncId} {args : List Value} {l l' : List HP} {post : Value → List HP → Prop} (h : Gh l l') (k : Trip P f args l' post) : Trip P f args l post := fun F w hl => k F w (h F w hl)
theorem Stp.gh {P : Program} {n : Nat} {o : Oper} {e : Env} {l l' : List HP} {Φ : Env → List HP → Prop} (h : Gh l l') (k : Stp P n o e l' Φ) : Stp P n o e l Φ := fun F w a hl he => k F w a (h F w hl) he

/-- append onto an empty row. -/
theorem Stp.append0 {P : Program} {n d : Nat} {x y : Operand} {t xt ty e' sz by_ : Nat} {zs : List Value} {pos : String} {after : Array Edge} {g : Option (Nat × Bool)} {e : Env} {C : List HP} {Φ : Env → List HP → Prop}
    {v u : Value} {m : Nat} {news : List Value} [ht : EL P t e'] [hz : SZ P e' sz] [hby : BY P e' by_] [hzv : ZV P e' zs] [hni : NI P xt]
    (hx : evl e x = some v) (hy : evl e y = some u) (hs : Src P C sz u m news) (hnl : news.length = m * sz) (hone : oneCells news) (hbytes : m * by_ ≤ 140737488355328) (h63 : m ≤ 9223372036854775807) (hd : Nat.blt d n = true) (hzl : zs.length = sz)
    (hk : ∀ a' c', Φ (eset e d (.slice a' m c')) (rowA e' sz (.slice a' m c') m news :: C)) :
    Stp P n ⟨some d, .call { callee := .builtin .append, args := [x, y].toArray, argTypes := [t, xt].toArray }, ty, pos, after, g⟩ e (rowA e' sz v 0 [] :: C) Φ :=
  Stp.append hx hy hs hnl hone (by simpa using hbytes) (by simpa using h63) hd hzl (fun a' c' => by simpa using hk a' c')

/-- A triple out of another one: the premise is found in the list, the rest goes with it. -/
theorem Trip.via {P : Program} {f : FuncId} {args : List Value} {l pre rest : List HP} {post post' : Value → List HP → Prop} (h : Trip P f args pre post) (hp : Tk l pre rest)
    (hk : ∀ v l', post v l' → ∃ l'', post' v l'' ∧ Gh (l' ++ rest) l'') : Trip P f args l post' := by
  intro F w hl
  obtain ⟨G, h1, h2⟩ := (hp F w hl).frame
  refine (h G w h1).mono ?_
  rintro e w' ⟨v, l', he, hpo, hl', hx⟩
  obtain ⟨l'', h3, h4⟩ := hk v l' hpo
  exact ⟨v, l'', he, h3, h4 F w' (h2 l' w' hl'), hx⟩

theorem Tk.use {l pre rest : List HP} (h : Tk l pre rest) {F : Res} {w : World} (hl : Holds l F w) : Holds (pre ++ rest) F w := h F w hl
theorem Tk.mk {l pre rest : List HP} (h : ∀ F w, Holds l F w → Holds (pre ++ rest) F w) : Tk l pre rest := h
theorem Tk.rfl_ {l : List HP} : Tk l l [] := fun _ _ h => by simpa using h
theorem Trip.use {P : Program} {f : FuncId} {args : List Value} {pre : List HP} {post : Value → List HP → Prop} (h : Trip P f args pre post) (F : Res) (w : World) (hl : Holds pre F w) :
    Calls P f args.toArray w fun e w' => ∃ v l, e = .returned v ∧ post v l ∧ Holds l F w' ∧ Ext w w' := h F w hl
/-! ### Slices of slices, append within one row, clear -/

/-- Where a slice of a slice begins. -/
def slA (b o l m s : Nat) : Addr := if m = l then ⟨b, o, none⟩ else ⟨b, o + l * s, none⟩
theorem slA_ne {b o l m s : Nat} (h : m ≠ l) : slA b o l m s = ⟨b, o + l * s, none⟩ := by simp [slA, h]
theorem slA_zero {b o m s : Nat} : slA b o 0 m s = ⟨b, o, none⟩ := by simp [slA]

theorem EL.eq {P : Program} {t e : Nat} (h : EL P t e) : P.underlying t = some (.slice (P.elem t)) ∧ P.elem t = e := by
  have := h.pf
  have h2 : P.elem t = e := by simp [Program.elem, this]
  exact ⟨by rw [h2]; exact this, h2⟩

section
variable {P : Program} {e : Env} {C : List HP} {t ty e' s : Nat} {x lo hi mx : Operand} {b o n cap : Nat} {k k' k'' : IntKind} {li h_ mi : Int} (l h m : Nat)

theorem sliced_slA : sliced (some ⟨b, o, none⟩) l h m s = .slice (some (slA b o l m s)) (h - l) (m - l) := by
  unfold sliced slA
  split <;> simp [addr_add]

theorem Rdo.sl_lh [ht : EL P t e'] [hs : SZ P e' s] (hx : evl e x = some (.slice (some ⟨b, o, none⟩) n cap)) (hl : evl e lo = some (.int k li)) (hh : evl e hi = some (.int k' h_)) (h1 : li = l) (h2 : h_ = h) (h3 : l ≤ h) (h4 : h ≤ cap) :
    Rdo P e C (.slice t x (some lo) (some hi) none) ty (.slice (some (slA b o l cap s)) (h - l) (cap - l)) := by
  intro G w a n' dst pos after g hG he
  subst h1 h2
  have hsz := hs.run (w := w)
  rw [← (EL.eq ht).2] at hsz
  simp only [execOp, he.eval hx, he.eval hl, he.eval hh, Option.map_some, Option.map_none, run_sliceAt_slice w t _ _ _ _ (EL.eq ht).1, Sem.run_bind]
  rw [run_slice_lh w t _ n cap (EL.eq ht).1 k k' _ _ (by omega) (by omega) (by omega)]
  simp only [hsz, Result.andThen_ok, Sem.run_pure, Int.toNat_natCast, sliced_slA]

theorem Rdo.sl_h [ht : EL P t e'] [hs : SZ P e' s] (hx : evl e x = some (.slice (some ⟨b, o, none⟩) n cap)) (hh : evl e hi = some (.int k' h_)) (h2 : h_ = h) (h4 : h ≤ cap) :
    Rdo P e C (.slice t x none (some hi) none) ty (.slice (some ⟨b, o, none⟩) h cap) := by
  intro G w a n' dst pos after g hG he
  subst h2
  have hsz := hs.run (w := w)
  rw [← (EL.eq ht).2] at hsz
  simp only [execOp, he.eval hx, he.eval hh, Option.map_some, Option.map_none, run_sliceAt_slice w t _ _ _ _ (EL.eq ht).1, Sem.run_bind]
  rw [run_slice_h w t _ n cap (EL.eq ht).1 k' _ (by omega) (by omega)]
  simp only [hsz, Result.andThen_ok, Sem.run_pure, Int.toNat_natCast, sliced_slA, slA_zero, Nat.sub_zero]

theorem Rdo.sl_l [ht : EL P t e'] [hs : SZ P e' s] (hx : evl e x = some (.slice (some ⟨b, o, none⟩) n cap)) (hl : evl e lo = some (.int k li)) (h1 : li = l) (h3 : l ≤ n) :
    Rdo P e C (.slice t x (some lo) none none) ty (.slice (some (slA b o l cap s)) (n - l) (cap - l)) := by
  intro G w a n' dst pos after g hG he
  subst h1
  have hsz := hs.run (w := w)
  rw [← (EL.eq ht).2] at hsz
  simp only [execOp, he.eval hx, he.eval hl, Option.map_some, Option.map_none, run_sliceAt_slice w t _ _ _ _ (EL.eq ht).1, Sem.run_bind]
  rw [run_slice_l w t _ n cap (EL.eq ht).1 k _ (by omega) (by omega)]
  simp only [hsz, Result.andThen_ok, Sem.run_pure, Int.toNat_natCast, sliced_slA]

theorem Rdo.sl_lhm [ht : EL P t e'] [hs : SZ P e' s] (hx : evl e x = some (.slice (some ⟨b, o, none⟩) n cap)) (hl : evl e lo = some (.int k li)) (hh : evl e hi = some (.int k' h_)) (hm : evl e mx = some (.int k'' mi)) (h1 : li = l) (h2 : h_ = h) (h2' : mi = m)
    (h3 : l ≤ h) (h4 : h ≤ m) (h5 : m ≤ cap) :
    Rdo P e C (.slice t x (some lo) (some hi) (some mx)) ty (.slice (some (slA b o l m s)) (h - l) (m - l)) := by
  intro G w a n' dst pos after g hG he
  subst h1 h2 h2'
  have hsz := hs.run (w := w)
  rw [← (EL.eq ht).2] at hsz
  simp only [execOp, he.eval hx, he.eval hl, he.eval hh, he.eval hm, Option.map_some, run_sliceAt_slice w t _ _ _ _ (EL.eq ht).1, Sem.run_bind]
  rw [run_slice_lhm w t _ n cap (EL.eq ht).1 k k' k'' _ _ _ (by omega) (by omega) (by omega) (by omega)]
  simp only [hsz, Result.andThen_ok, Sem.run_pure, Int.toNat_natCast, sliced_slA]

/-- The nil slice, sliced to nothing. -/
theorem Rdo.sl_nil_h [ht : EL P t e'] [hs : SZ P e' s] (hx : evl e x = some (.slice none 0 0)) (hh : evl e hi = some (.int k' 0)) :
    Rdo P e C (.slice t x none (some hi) none) ty (.slice none 0 0) := by
  intro G w a n' dst pos after g hG he
  have hsz := hs.run (w := w)
  rw [← (EL.eq ht).2] at hsz
  simp only [execOp, he.eval hx, he.eval hh, Option.map_some, Option.map_none, run_sliceAt_slice w t _ _ _ _ (EL.eq ht).1, Sem.run_bind]
  rw [run_slice_h w t _ 0 0 (EL.eq ht).1 k' _ (by omega) (by omega)]
  simp [hsz, sliced]
end

section
/-- A row is opened to its block. -/
theorem GhE.rowOpen {l rest : List HP} {t : TypeId} {sz b o n cap : Nat} {xs : List Value} (hp : Pk l (rowA t sz (.slice (some ⟨b, o, none⟩) n cap) n xs) rest) :
    GhE l (fun x : List Value × List Value => xs.length = n * sz ∧ x.1.length = o ∧ n ≤ cap ∧ cap * sz ≤ xs.length + x.2.length) (fun x => cel b t (x.1 ++ (xs ++ x.2)) :: rest) := by
  intro F w hl
  have h1 := hl.perm hp
  obtain ⟨r, tt, ⟨ra, rc, hj1, ⟨hxl, hrow⟩, hC⟩, hj2, hsat⟩ := h1
  rcases hrow with ⟨h, _⟩ | ⟨b', o', cap', cur, h, hb, hnc, hsz, htake⟩
  · cases h
  · simp only [Value.slice.injEq, Option.some.injEq, Addr.mk.injEq, and_true, true_and] at h
    obtain ⟨⟨rfl, rfl⟩, rfl⟩ := h
    have hcur : cur.toList = cur.toList.take o ++ (xs ++ (cur.toList.drop o).drop (n * sz)) := by
      rw [← htake, List.take_append_drop, List.take_append_drop]
    refine ⟨(cur.toList.take o, (cur.toList.drop o).drop (n * sz)), ⟨hxl, ?_, hnc, ?_⟩, r, tt, ⟨ra, rc, hj1, ?_, hC⟩, hj2, hsat⟩
    · simp; omega
    · have : n * sz ≤ cap * sz := Nat.mul_le_mul_right _ hnc
      simp [hxl]; omega
    · show ra b = _
      rw [hb, ← hcur]

theorem Gh.rowShut {l rest : List HP} {t : TypeId} {sz b o n cap : Nat} {A xs B : List Value} (hp : Pk l (Go.Proofs.Ytmeaekcengmfbaa.cel b t (A ++ (xs ++ B))) rest) (h1 : xs.length = n * sz) (h2 : A.length = o) (h3 : n ≤ cap) (h4 : cap * sz ≤ xs.length + B.length) :
    Gh l (rowA t sz (.slice (some ⟨b, o, none⟩) n cap) n xs :: rest) :=
  Gh.conv hp fun r hr => ⟨h1, .inr ⟨b, o, cap, _, rfl, hr, h3, by simp; omega, by simp [← h2, ← h1]⟩⟩
end

section
/-- A piece of an owned block is appended. -/
theorem Src.piece {P : Program} {l : List HP} {t : TypeId} {sz b off m c : Nat} {A news B : List Value} (hl : news.length = m * sz) (ho : A.length = off) : Src P (Go.Proofs.Ytmeaekcengmfbaa.cel b t (A ++ (news ++ B)) :: l) sz (.slice (some ⟨b, off, none⟩) m c) m news :=
  Src.of_cells hl fun F w hC j v hj => by
    have : hasCells w b (A ++ (news ++ B)) := ⟨_, _, cel_sees hC⟩
    rw [this.cell, List.getElem?_append_right (by omega), ← ho, Nat.add_sub_cancel_left, List.getElem?_append_left (List.getElem?_eq_some_iff.1 hj).1]
    exact hj
theorem Src.none_ {P : Program} {l : List HP} {sz c : Nat} {a : Addr} : Src P l sz (.slice (some a) 0 c) 0 [] :=
  fun F w _ => ⟨by simp [Builtin.lenOf], by
    have := run_firstCells_some (P := P) w sz 0 a 0 c [] (by simp) (fun j v hj => by simp at hj)
    simpa using this⟩
end

section
/-- append where there is room. -/
theorem Stp.appendIn {P : Program} {n d : Nat} {x y : Operand} {t xt ty e' sz : Nat} {pos : String} {after : Array Edge} {g : Option (Nat × Bool)} {e : Env} {l l' : List HP} {Φ : Env → List HP → Prop}
    {u : Value} {k m b o cap : Nat} {news : List Value} [ht : EL P t e'] [hz : SZ P e' sz] [hni : NI P xt]
    (hx : evl e x = some (.slice (some ⟨b, o, none⟩) k cap)) (hy : evl e y = some u) (hs : Src P l sz u m news) (hroom : k + m ≤ cap) (hst : Sts P l ⟨b, o + k * sz, none⟩ news l') (hd : Nat.blt d n = true)
    (hk : Φ (eset e d (.slice (some ⟨b, o, none⟩) (k + m) cap)) l') :
    Stp P n ⟨some d, .call { callee := .builtin .append, args := [x, y].toArray, argTypes := [t, xt].toArray }, ty, pos, after, g⟩ e l Φ := by
  intro F w a hl he K Q0 hK
  obtain ⟨h1, h2⟩ := hs F w hl
  obtain ⟨w', hr, hh, hxt⟩ := hst F w hl
  have hr := run_append_stay (ty := ty) (P := P) (w := w) (w' := w') (base := some ⟨b, o, none⟩) ht hz hni h1 h2 hroom (by simp only [addr_add]; exact hr)
  unfold Oper.wp
  have : (execOp a.eval ⟨some d, .call { callee := .builtin .append, args := [x, y].toArray, argTypes := [t, xt].toArray }, ty, pos, after, g⟩).run P w = .ok (.value (.slice (some ⟨b, o, none⟩) (k + m) cap)) w' := by
    simp [execOp, resolve, invoke, builtin, he.eval hx, he.eval hy, hr]
  rw [this]
  exact hK _ _ _ _ (he.put _ hd) hh hxt hk

/-- clear of a slice of one element. -/
theorem Stp.clear1 {P : Program} {n : Nat} {x : Operand} {t ty e' : Nat} {zs : List Value} {pos : String} {after : Array Edge} {g : Option (Nat × Bool)} {e : Env} {l l' : List HP} {Φ : Env → List HP → Prop}
    {a0 : Addr} {cap : Nat} [ht : EL P t e'] [hzv : ZV P e' zs]
    (hx : evl e x = some (.slice (some a0) 1 cap)) (hst : Sts P l a0 zs l') (hk : Φ e l') :
    Stp P n ⟨none, .call { callee := .builtin .clear, args := [x].toArray, argTypes := [t].toArray }, ty, pos, after, g⟩ e l Φ := by
  intro F w a hl he K Q0 hK
  obtain ⟨w', hr, hh, hxt⟩ := hst F w hl
  obtain ⟨z, hzr, hzc⟩ := hzv.run (w := w)
  have hzz : (Builtin.zeroCells zs.toArray 1).toList = zs := by
    simp [Builtin.zeroCells]
    apply List.ext_getElem?
    intro j
    by_cases hj : j < zs.length
    · simp [List.getElem?_map, List.getElem?_range, hj, Nat.mod_eq_of_lt hj]
    · simp [List.getElem?_eq_none (Nat.le_of_not_lt hj), hj]
  unfold Oper.wp
  have : (execOp a.eval ⟨none, .call { callee := .builtin .clear, args := [x].toArray, argTypes := [t].toArray }, ty, pos, after, g⟩).run P w = .ok (.value (.tuple #[])) w' := by
    simp [execOp, resolve, invoke, builtin, he.eval hx, Builtin.clear_, run_underlying ht.pf, hzr, hzc, hzz, hr]
  rw [this]
  exact hK _ _ _ _ he hh hxt hk
end

theorem Sts.piece {P : Program} {l : List HP} {b off : Nat} {t : TypeId} {A old B vs : List Value} (hone : oneCells vs) (ho : A.length = off) (hl : vs.length = old.length) :
    Sts P (cel b t (A ++ (old ++ B)) :: l) ⟨b, off, none⟩ vs (cel b t (A ++ (vs ++ B)) :: l) := by
  have := Sts.here (P := P) (l := l) (b := b) (off := off) (t := t) hone (cs := A ++ (old ++ B)) (by simp; omega)
  rw [lput_eq _ _ _ (by simp; omega)] at this
  rw [List.take_left' ho, List.append_assoc, show (A ++ (old ++ B)).drop (off + vs.length) = B by rw [← List.append_assoc]; exact List.drop_left' (by simp; omega)] at this
  exact this

theorem Ret.shut {P : Program} {rs : List ResultVar} {post : Value → List HP → Prop} {e : Env} {l l' : List HP} {vs : List Value} {α : Type} {f : α → List HP} (x : α) {rest : List HP} (hr : ResV P e l rs vs) (hp : Tk l (f x) rest)
    (hg : Gh ((exH fun x => starH (f x)) :: rest) l') (hpost : post (packed vs) l') : RetQ P rs post .ret e l := Ret.now hr (Gh.trans (Gh.shut x hp) hg) hpost
theorem Wp.shut {P : Program} {n : Nat} {Q : Exit → Env → List HP → Prop} {e : Env} {l rest : List HP} {c : Code} {α : Type} {f : α → List HP} (x : α) (hp : Tk l (f x) rest) (h : Wp P n c Q e ((exH fun x => starH (f x)) :: rest)) : Wp P n c Q e l := Wp.gh (Gh.shut x hp) h
theorem WpL.shut {P : Program} {n : Nat} {ops : Array Oper} {Q : Exit → Env → List HP → Prop} {e : Env} {l rest : List HP} {os : List Oper} {α : Type} {f : α → List HP} (x : α) (hp : Tk l (f x) rest) (h : WpL P n ops Q os e ((exH fun x => starH (f x)) :: rest)) : WpL P n ops Q os e l := WpL.gh (Gh.shut x hp) h
theorem Gh.shutT {l l' rest : List HP} {α : Type} {f : α → List HP} (x : α) (hp : Tk l (f x) rest) (hg : Gh ((exH fun x => starH (f x)) :: rest) l') : Gh l l' := Gh.trans (Gh.shut x hp) hg
attribute [irreducible] Gh GhE Rdo Stp WpL Wp WpR WpA Lds Sts Tk Pk Src Trip cel ice blk rowA pureH exH starH Holds
end Go.Proofs.Ytmeaekcengmfbaa
