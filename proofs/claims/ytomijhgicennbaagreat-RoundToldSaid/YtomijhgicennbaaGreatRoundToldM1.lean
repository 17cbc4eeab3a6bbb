/- Walks, rules and plain laws on which the claim stands, joined: the program's functions as they compute, one after the other. -/
import Derived.Orders
import Derived.Below
import Derived.Tactics
import Derived.Laws.AppendOwn
import Derived.Laws.CopyRow
import Derived.Laws.ResultCell
import Derived.Laws.Slices
import Derived.Laws.Small
import Derived.Laws.StructEq
import Derived.Laws.Pointers
import Derived.Laws.Unary
import Derived.Laws.Cells
import Derived.OrdersIn
import Derived.RangeFuncRecord
import Derived.RangeFuncIn
import Derived.RangeFuncCalls
import Derived.RangeFuncNested
import Derived.Laws.Cover3
import Derived.Laws.BytesString
import Derived.Laws.Strings
import Derived.Test.YtomijhgicennbaaGreatProg
import Derived.KernelRfl
import Derived.Laws.IdiomStrings
import Derived.OpenShut
import Derived.ChangeSlices
import Derived.DataElems
import Derived.Handed
import Derived.DeepKeys
import Derived.Laws.Shifts
import Derived.Laws.MakeOwn
import Derived.Laws.BitsAllLaws
import Derived.Test.YtomijhgicennbaaGreatRows
import Derived.WalkKit
import Derived.ProofKit
import Derived.ShutString
import Derived.ChangeOld
import Derived.Lay
import Derived.MakeChecks
namespace Go.Proofs.YtomijhgicennbaaGreat
open Go Go.RowKit
set_option linter.unusedSimpArgs false
set_option linter.unusedVariables false
abbrev Res := Nat → Option (Bool × Obj)
inductive J1 : Option (Bool × Obj) → Option (Bool × Obj) → Option (Bool × Obj) → Prop where
  | l (x) : J1 x none x
  | r (x) : J1 none x x
  | f (o) : J1 (some (false, o)) (some (false, o)) (some (false, o))
def Join (r s t : Res) : Prop := ∀ b, J1 (r b) (s b) (t b)
theorem J1.comm {x y z} (h : J1 x y z) : J1 y x z := by cases h <;> constructor
theorem Join.comm {r s t : Res} (h : Join r s t) : Join s r t := fun b => (h b).comm
theorem J1.assoc {x y xy z t} (h : J1 x y xy) (k : J1 xy z t) : ∃ yz, J1 y z yz ∧ J1 x yz t := by
  cases h
  case l => exact ⟨z, .r _, k⟩
  case r => exact ⟨t, k, .r _⟩
  case f o =>
    generalize hx : (some (false, o) : Option (Bool × Obj)) = u at k
    cases k
    case l => subst hx; exact ⟨some (false, o), .l _, .f o⟩
    case r => cases hx
    case f => cases hx; exact ⟨some (false, o), .f o, .f o⟩
theorem Join.assoc {r s rs t u : Res} (h : Join r s rs) (k : Join rs t u) : ∃ st, Join s t st ∧ Join r st u :=
  ⟨fun b => Classical.choose ((h b).assoc (k b)), fun b => (Classical.choose_spec ((h b).assoc (k b))).1, fun b => (Classical.choose_spec ((h b).assoc (k b))).2⟩
theorem Join.assoc' {r s st t u : Res} (h : Join s t st) (k : Join r st u) : ∃ rs, Join r s rs ∧ Join rs t u := by
  obtain ⟨x, h1, h2⟩ := h.comm.assoc k.comm
  exact ⟨x, h1.comm, h2.comm⟩
theorem Join.unit (r : Res) : Join (fun _ => none) r r := fun b => .r _
theorem J1.left {x y z} (h : J1 x y z) {u} (hx : x = some u) : z = some u := by
  cases h
  · exact hx
  · cases hx
  · exact hx
theorem J1.owned {x y z} (h : J1 x y z) {o} (hx : x = some (true, o)) : y = none := by
  cases h
  · rfl
  · cases hx
  · cases hx
theorem Join.left {r s t : Res} (h : Join r s t) {b x} (hb : r b = some x) : t b = some x := (h b).left hb
theorem Join.right {r s t : Res} (h : Join r s t) {b x} (hb : s b = some x) : t b = some x := h.comm.left hb
abbrev HP := Res → Prop
def stars : List HP → Res → Prop
  | [] => fun _ => True
  | p :: l => fun t => ∃ r s, Join r s t ∧ p r ∧ stars l s
theorem stars_up : ∀ {l : List HP} {r x t : Res}, stars l r → Join r x t → stars l t
  | [], _, _, _, _, _ => trivial
  | p :: l, r, x, t, ⟨a, b, hj, hp, hl⟩, h => by
    obtain ⟨c, h1, h2⟩ := hj.assoc h
    exact ⟨a, c, h2, hp, stars_up hl h1⟩
theorem stars_swap {p q : HP} {l : List HP} {r : Res} (h : stars (p :: q :: l) r) : stars (q :: p :: l) r := by
  obtain ⟨a, b, h1, hp, c, d, h2, hq, hl⟩ := h
  obtain ⟨x, h3, h4⟩ := h2.assoc' h1
  obtain ⟨y, h5, h6⟩ := h3.comm.assoc h4
  exact ⟨c, y, h6, hq, a, d, h5, hp, hl⟩
theorem stars_perm {l l' : List HP} (h : l.Perm l') : ∀ {r : Res}, stars l r → stars l' r := by
  induction h with
  | nil => exact id
  | cons p _ ih => rintro r ⟨a, b, h1, hp, hl⟩; exact ⟨a, b, h1, hp, ih hl⟩
  | swap p q l => exact stars_swap
  | trans _ _ ih1 ih2 => exact fun h => ih2 (ih1 h)
theorem stars_append : ∀ {l1 l2 : List HP} {r : Res}, stars (l1 ++ l2) r ↔ ∃ r1 r2, Join r1 r2 r ∧ stars l1 r1 ∧ stars l2 r2
  | [], l2, r => ⟨fun h => ⟨_, r, Join.unit r, trivial, h⟩, fun ⟨_, _, hj, _, h⟩ => stars_up h hj.comm⟩
  | p :: l1, l2, r => by
    constructor
    · rintro ⟨a, b, h1, hp, hl⟩
      obtain ⟨r1, r2, hj, k1, k2⟩ := stars_append.1 hl
      obtain ⟨x, h3, h4⟩ := hj.assoc' h1
      exact ⟨x, r2, h4, ⟨a, r1, h3, hp, k1⟩, k2⟩
    · rintro ⟨r1, r2, hj, ⟨a, b, h1, hp, hl⟩, k2⟩
      obtain ⟨x, h3, h4⟩ := h1.assoc hj
      exact ⟨a, x, h4, hp, stars_append.2 ⟨b, r2, h3, hl, k2⟩⟩
def Sat (w : World) (r : Res) : Prop := ∀ b x, r b = some x → w.heap[b]? = some x.2
theorem Sat.left {w : World} {r s t : Res} (h : Sat w t) (hj : Join r s t) : Sat w r := fun b x hb => h b x (hj.left hb)
theorem Sat.right {w : World} {r s t : Res} (h : Sat w t) (hj : Join r s t) : Sat w s := fun b x hb => h b x (hj.right hb)
def Holds (l : List HP) (F : Res) (w : World) : Prop := ∃ r t, stars l r ∧ Join r F t ∧ Sat w t
theorem Holds.perm {l l' : List HP} {F : Res} {w : World} (hp : l.Perm l') : Holds l F w → Holds l' F w :=
  fun ⟨r, t, h, hj, hs⟩ => ⟨r, t, stars_perm hp h, hj, hs⟩
theorem Holds.satF {l : List HP} {F : Res} {w : World} : Holds l F w → Sat w F := fun ⟨_, _, _, hj, hs⟩ => hs.right hj
theorem Holds.frame {l1 l2 : List HP} {F : Res} {w : World} (h : Holds (l1 ++ l2) F w) :
    ∃ G, Holds l1 G w ∧ ∀ l1' w', Holds l1' G w' → Holds (l1' ++ l2) F w' := by
  obtain ⟨r, t, hr, hj, hs⟩ := h
  obtain ⟨r1, r2, h1, k1, k2⟩ := stars_append.1 hr
  obtain ⟨G, h3, h4⟩ := h1.assoc hj
  refine ⟨G, ⟨r1, t, k1, h4, hs⟩, ?_⟩
  rintro l1' w' ⟨r1', t', k1', h5, hs'⟩
  obtain ⟨x, h6, h7⟩ := h3.assoc' h5
  exact ⟨x, t', stars_append.2 ⟨r1', r2, h6, k1', k2⟩, h7, hs'⟩
theorem Holds.frameR {l1 l2 : List HP} {F : Res} {w : World} (h : Holds (l1 ++ l2) F w) :
    ∃ G, Holds l2 G w ∧ ∀ l2' w', Holds l2' G w' → Holds (l1 ++ l2') F w' := by
  obtain ⟨G, h1, h2⟩ := Holds.frame (h.perm List.perm_append_comm)
  exact ⟨G, h1, fun l w' k => (h2 l w' k).perm List.perm_append_comm⟩
theorem Holds.drop {p : HP} {l : List HP} {F : Res} {w : World} (h : Holds (p :: l) F w) : Holds l F w := by
  obtain ⟨r, t, ⟨a, b, h1, hp, hl⟩, hj, hs⟩ := h
  exact ⟨r, t, stars_up hl h1.comm, hj, hs⟩
theorem Holds.imp {p q : HP} {l : List HP} {F : Res} {w : World} (hpq : ∀ r, p r → q r) (h : Holds (p :: l) F w) : Holds (q :: l) F w := by
  obtain ⟨r, t, ⟨a, b, h1, hp, hl⟩, hj, hs⟩ := h
  exact ⟨r, t, ⟨a, b, h1, hpq _ hp, hl⟩, hj, hs⟩
theorem Holds.fact {p : HP} {l : List HP} {F : Res} {w : World} {φ : Prop} (hp : ∀ r, p r → φ) (h : Holds (p :: l) F w) : φ := by
  obtain ⟨r, t, ⟨a, b, h1, hp', hl⟩, hj, hs⟩ := h
  exact hp _ hp'
theorem Holds.sees {p : HP} {l : List HP} {F : Res} {w : World} (h : Holds (p :: l) F w) : ∃ r, p r ∧ Sat w r := by
  obtain ⟨r, t, ⟨a, b, h1, hp', hl⟩, hj, hs⟩ := h
  exact ⟨a, hp', (hs.left hj).left h1⟩
theorem Holds.left_ {l k : List HP} {F : Res} {w : World} (h : Holds (l ++ k) F w) : Holds l F w := by
  obtain ⟨r, t, hr, hj, hs⟩ := h
  obtain ⟨a, b, h1, k1, k2⟩ := stars_append.1 hr
  exact ⟨r, t, stars_up k1 h1, hj, hs⟩
def Ext (w w' : World) : Prop := w'.os = w.os ∧ w'.tape = w.tape ∧ w'.output = w.output ∧ w.heap.size ≤ w'.heap.size
theorem Ext.refl (w : World) : Ext w w := ⟨rfl, rfl, rfl, Nat.le_refl _⟩
theorem Ext.trans {a b c : World} (h : Ext a b) (k : Ext b c) : Ext a c :=
  ⟨k.1.trans h.1, k.2.1.trans h.2.1, k.2.2.1.trans h.2.2.1, Nat.le_trans h.2.2.2 k.2.2.2⟩
def blk (b : Nat) (o : Obj) : HP := fun r => r b = some (true, o)
def ice (b : Nat) (o : Obj) : HP := fun r => r b = some (false, o)
def cel (b : Nat) (t : TypeId) (cs : List Value) : HP := blk b (.cells cs.toArray t (0, 0))
def pureH (φ : Prop) : HP := fun _ => φ
def starH (l : List HP) : HP := stars l
def exH {α : Type} (f : α → HP) : HP := fun r => ∃ x, f x r
theorem Holds.open_star {l k : List HP} {F : Res} {w : World} (h : Holds (starH l :: k) F w) : Holds (l ++ k) F w := by
  obtain ⟨r, t, ⟨a, b, h1, hp, hl⟩, hj, hs⟩ := h
  exact ⟨r, t, stars_append.2 ⟨a, b, h1, hp, hl⟩, hj, hs⟩
theorem Holds.shut_star {l k : List HP} {F : Res} {w : World} (h : Holds (l ++ k) F w) : Holds (starH l :: k) F w := by
  obtain ⟨r, t, hr, hj, hs⟩ := h
  obtain ⟨a, b, h1, hp, hl⟩ := stars_append.1 hr
  exact ⟨r, t, ⟨a, b, h1, hp, hl⟩, hj, hs⟩
theorem Holds.open_ex {α : Type} {f : α → HP} {k : List HP} {F : Res} {w : World} (h : Holds (exH f :: k) F w) : ∃ x, Holds (f x :: k) F w := by
  obtain ⟨r, t, ⟨a, b, h1, ⟨x, hp⟩, hl⟩, hj, hs⟩ := h
  exact ⟨x, r, t, ⟨a, b, h1, hp, hl⟩, hj, hs⟩
theorem Holds.shut_ex {α : Type} {f : α → HP} {k : List HP} {F : Res} {w : World} (x : α) (h : Holds (f x :: k) F w) : Holds (exH f :: k) F w :=
  h.imp fun _ hp => ⟨x, hp⟩
theorem Holds.open_pure {φ : Prop} {k : List HP} {F : Res} {w : World} (h : Holds (pureH φ :: k) F w) : φ ∧ Holds k F w :=
  ⟨h.fact fun _ h => h, h.drop⟩
theorem Holds.shut_pure {φ : Prop} {k : List HP} {F : Res} {w : World} (hφ : φ) (h : Holds k F w) : Holds (pureH φ :: k) F w := by
  obtain ⟨r, t, hr, hj, hs⟩ := h
  exact ⟨r, t, ⟨_, r, Join.unit r, hφ, hr⟩, hj, hs⟩
def Dup (p : HP) : Prop := ∀ r, p r → ∃ s, Join s r r ∧ p s
theorem Holds.dup {p : HP} (hd : Dup p) {k : List HP} {F : Res} {w : World} (h : Holds (p :: k) F w) : Holds (p :: p :: k) F w := by
  obtain ⟨r, t, ⟨a, b, h1, hp, hl⟩, hj, hs⟩ := h
  obtain ⟨s, h2, hps⟩ := hd a hp
  obtain ⟨x, h3, h4⟩ := h2.assoc h1
  exact ⟨r, t, ⟨s, x, h4, hps, a, b, h3, hp, hl⟩, hj, hs⟩
theorem Sat.lt {w : World} {r : Res} (h : Sat w r) {b x} (hb : r b = some x) : b < w.heap.size := by
  have := h b x hb
  exact (Array.getElem?_eq_some_iff.1 this).1
theorem Holds.alloc {l : List HP} {F : Res} {w : World} (o : Obj) (h : Holds l F w) : Holds (blk w.heap.size o :: l) F (w.alloc o) := by
  obtain ⟨r, t, hr, hj, hs⟩ := h
  have hnone : t w.heap.size = none := by
    cases ht : t w.heap.size with
    | none => rfl
    | some x => exact absurd (hs.lt ht) (Nat.lt_irrefl _)
  have hrn : r w.heap.size = none := by
    cases hrr : r w.heap.size with
    | none => rfl
    | some x => rw [hj.left hrr] at hnone; cases hnone
  have hFn : F w.heap.size = none := by
    cases hrr : F w.heap.size with
    | none => rfl
    | some x => rw [hj.right hrr] at hnone; cases hnone
  refine ⟨fun b => if b = w.heap.size then some (true, o) else r b, fun b => if b = w.heap.size then some (true, o) else t b,
    ⟨fun b => if b = w.heap.size then some (true, o) else none, r, ?_, by simp [blk], hr⟩, ?_, ?_⟩
  · intro b
    by_cases hb : b = w.heap.size
    · subst hb; simp only [if_pos, hrn]; exact .l _
    · simp only [if_neg hb]; exact .r _
  · intro b
    by_cases hb : b = w.heap.size
    · subst hb; simp only [if_pos, hFn]; exact .l _
    · simp only [if_neg hb]; exact hj b
  · intro b x hb
    by_cases hbb : b = w.heap.size
    · subst hbb
      simp only [if_pos, Option.some.injEq] at hb
      subst hb
      exact heap_alloc_new w o
    · simp only [if_neg hbb] at hb
      rw [heap_alloc_old w o (hs.lt hb)]
      exact hs b x hb
theorem Holds.put {l : List HP} {F : Res} {w w' : World} {b : Nat} {o o' : Obj} (h : Holds (blk b o :: l) F w)
    (hb : w'.heap[b]? = some o') (hold : ∀ k, k ≠ b → k < w.heap.size → w'.heap[k]? = w.heap[k]?) : Holds (blk b o' :: l) F w' := by
  obtain ⟨r, t, ⟨a, c, h1, hp, hl⟩, hj, hs⟩ := h
  have hcb : c b = none := (h1 b).owned hp
  have hrb : r b = some (true, o) := h1.left hp
  have hFb : F b = none := (hj b).owned hrb
  refine ⟨fun k => if k = b then some (true, o') else r k, fun k => if k = b then some (true, o') else t k,
    ⟨fun k => if k = b then some (true, o') else a k, c, ?_, by simp [blk], hl⟩, ?_, ?_⟩
  · intro k
    by_cases hk : k = b
    · subst hk; simp only [if_pos, hcb]; exact .l _
    · simp only [if_neg hk]; exact h1 k
  · intro k
    by_cases hk : k = b
    · subst hk; simp only [if_pos, hFb]; exact .l _
    · simp only [if_neg hk]; exact hj k
  · intro k x hx
    by_cases hk : k = b
    · subst hk
      simp only [if_pos, Option.some.injEq] at hx
      subst hx
      exact hb
    · simp only [if_neg hk] at hx
      rw [hold k hk (hs.lt hx)]
      exact hs k x hx
theorem Holds.world {l : List HP} {F : Res} {w w' : World} (h : Holds l F w) (hold : ∀ k, k < w.heap.size → w'.heap[k]? = w.heap[k]?) : Holds l F w' := by
  obtain ⟨r, t, hr, hj, hs⟩ := h
  exact ⟨r, t, hr, hj, fun b x hb => by rw [hold b (hs.lt hb)]; exact hs b x hb⟩
theorem Holds.drew {l : List HP} {F : Res} {w : World} (h : Holds l F w) : Holds l F w.drew := h.world fun _ _ => rfl
theorem Holds.freeze {l : List HP} {F : Res} {w : World} {b : Nat} {o : Obj} (h : Holds (blk b o :: l) F w) : Holds (ice b o :: l) F w := by
  obtain ⟨r, t, ⟨a, c, h1, hp, hl⟩, hj, hs⟩ := h
  have hcb : c b = none := (h1 b).owned hp
  have hrb : r b = some (true, o) := h1.left hp
  have hFb : F b = none := (hj b).owned hrb
  have htb : t b = some (true, o) := hj.left hrb
  refine ⟨fun k => if k = b then some (false, o) else r k, fun k => if k = b then some (false, o) else t k,
    ⟨fun k => if k = b then some (false, o) else a k, c, ?_, by simp [ice], hl⟩, ?_, ?_⟩
  · intro k
    by_cases hk : k = b
    · subst hk; simp only [if_pos, hcb]; exact .l _
    · simp only [if_neg hk]; exact h1 k
  · intro k
    by_cases hk : k = b
    · subst hk; simp only [if_pos, hFb]; exact .l _
    · simp only [if_neg hk]; exact hj k
  · intro k x hx
    by_cases hk : k = b
    · subst hk
      simp only [if_pos, Option.some.injEq] at hx
      subst hx
      exact hs _ (true, o) htb
    · simp only [if_neg hk] at hx
      exact hs k x hx
def Trip (P : Program) (f : FuncId) (args : List Value) (pre : List HP) (post : Value → List HP → Prop) : Prop :=
  ∀ F w, Holds pre F w → Calls P f args.toArray w fun e w' => ∃ v l, e = .returned v ∧ post v l ∧ Holds l F w' ∧ Ext w w'
theorem Trip.mono {P : Program} {f : FuncId} {args : List Value} {pre : List HP} {post post' : Value → List HP → Prop} (h : Trip P f args pre post)
    (hp : ∀ v l, post v l → post' v l) : Trip P f args pre post' :=
  fun F w hw => (h F w hw).mono fun _ _ ⟨v, l, he, hl, hr⟩ => ⟨v, l, he, hp v l hl, hr⟩
theorem Trip.frame {P : Program} {f : FuncId} {args : List Value} {pre : List HP} {post : Value → List HP → Prop} (h : Trip P f args pre post) (k : List HP) :
    Trip P f args (pre ++ k) fun v l => ∃ l', l = l' ++ k ∧ post v l' := by
  intro F w hw
  obtain ⟨G, h1, h2⟩ := hw.frame
  exact (h G w h1).mono fun e w' ⟨v, l, he, hp, hl, hx⟩ => ⟨v, l ++ k, he, ⟨l, rfl, hp⟩, h2 l w' hl, hx⟩
abbrev Env := List (Nat × Value)
def elook : Env → Nat → Option Value
  | [], _ => none
  | (i, v) :: e, j => bif Nat.beq i j then some v else elook e j
abbrev eset (e : Env) (d : Nat) (v : Value) : Env := (d, v) :: e
theorem nbeq_ne {i j : Nat} (h : i ≠ j) : Nat.beq i j = false := by
  cases hb : Nat.beq i j
  · rfl
  · exact absurd (Nat.eq_of_beq_eq_true hb) h
theorem elook_eset (e : Env) (d : Nat) (v : Value) (j : Nat) : elook (eset e d v) j = if d = j then some v else elook e j := by
  simp only [eset, elook]
  by_cases h : d = j
  · subst h; simp
  · simp [h, nbeq_ne h]
structure EnvAt (n : Nat) (e : Env) (a : Act) : Prop where
  size : a.tmps.size = n
  at_ : ∀ i v, elook e i = some v → a.tmps[i]? = some v
structure EnvOk (n : Nat) (ds : List Deferred) (e : Env) (a : Act) : Prop extends EnvAt n e a where
  defers : a.defers = ds
theorem EnvAt.put {n : Nat} {e : Env} {a : Act} (h : EnvAt n e a) {d : Nat} (v : Value) (hd : Nat.blt d n = true) : EnvAt n (eset e d v) (a.put (some d) v) := by
  have hd' : d < n := by simpa [Nat.blt_eq] using hd
  refine ⟨by simp [Act.put, h.size], fun i u hu => ?_⟩
  rw [elook_eset] at hu
  by_cases hi : d = i
  · subst hi
    simp only [if_pos, Option.some.injEq] at hu
    subst hu
    simp [Act.put, h.size, hd']
  · rw [if_neg hi] at hu
    simp only [Act.put, Array.getElem?_setIfInBounds_ne hi]
    exact h.at_ i u hu
theorem EnvOk.put {n : Nat} {ds : List Deferred} {e : Env} {a : Act} (h : EnvOk n ds e a) {d : Nat} (v : Value) (hd : Nat.blt d n = true) : EnvOk n ds (eset e d v) (a.put (some d) v) :=
  ⟨h.toEnvAt.put v hd, h.defers⟩
theorem EnvOk.weaken {n : Nat} {ds : List Deferred} {e e' : Env} {a : Act} (h : EnvOk n ds e a) (hs : ∀ i v, elook e' i = some v → elook e i = some v) : EnvOk n ds e' a :=
  ⟨⟨h.size, fun i v hv => h.at_ i v (hs i v hv)⟩, h.defers⟩
def evl (e : Env) : Operand → Option Value
  | .tmp i => elook e i
  | .const v => some v
  | .global g => some (.pointer (some ⟨g, 0, none⟩))
  | .func f => some (.func (.func f) #[] #[])
theorem EnvAt.eval {n : Nat} {e : Env} {a : Act} (h : EnvAt n e a) {x : Operand} {v : Value} (hx : evl e x = some v) : a.eval x = v := by
  cases x with
  | tmp i =>
    have := h.at_ i v hx
    simp [Act.eval, this]
  | const c => simpa [evl, Act.eval] using hx
  | global g => simpa [evl, Act.eval] using hx
  | func f => simpa [evl, Act.eval] using hx
def calmX : Exit → Bool
  | .panic _ => false
  | .outgrown => false
  | _ => true
abbrev Rnd := Option (Nat × Loop)
def wf (R : Rnd) : Fence := { Fence.wide with round := R.map (·.1) }
def marks (Ds : List Nat) : List Deferred := Ds.map fun D => { target := .collected D, args := #[] }
def hidR : Rnd → List HP
  | none => []
  | some (l, r) => [blk l (.loop r)]
def hid (R : Rnd) (Ds : List Nat) : List HP := hidR R ++ Ds.map fun D => blk D (.deferred (some []))
def SPost (n : Nat) (ds : List Deferred) (F : Res) (w0 : World) (Q : Exit → Env → List HP → Prop) : Exit → Act → World → Prop :=
  fun x a w => calmX x = true ∧ ∃ e l, EnvOk n ds e a ∧ Holds l F w ∧ Ext w0 w ∧ Q x e l
def Sta (n : Nat) (R : Rnd) (e : Env) (l : List HP) (F : Res) (a : Act) (w : World) : Prop :=
  ∃ Ds, EnvOk n (marks Ds) e a ∧ Holds (l ++ hid R Ds) F w
def CPost (n : Nat) (R : Rnd) (F : Res) (w0 : World) (Q : Exit → Env → List HP → Prop) : Exit → Act → World → Prop :=
  fun x a w => calmX x = true ∧ ∃ e l, Sta n R e l F a w ∧ Ext w0 w ∧ Q x e l
def Wp (P : Program) (R : Rnd) (n : Nat) (c : Code) (Q : Exit → Env → List HP → Prop) (e : Env) (l : List HP) : Prop :=
  ∀ F w a, Sta n R e l F a w → c.wpIn (wf R) 0 P (CPost n R F w Q) a w
def Thn (K : Env → List HP → Prop) (Q : Exit → Env → List HP → Prop) : Exit → Env → List HP → Prop
  | .normal => K
  | x => Q x
def Blk (id : Nat) (Q : Exit → Env → List HP → Prop) : Exit → Env → List HP → Prop
  | .exit i => if i == id then Q .normal else Q (.exit i)
  | x => Q x
theorem Sta.heap {n : Nat} {R : Rnd} {e : Env} {l l' : List HP} {F : Res} {a : Act} {w : World} (hp : ∀ F w, Holds l F w → Holds l' F w) : Sta n R e l F a w → Sta n R e l' F a w :=
  fun ⟨Ds, he, hl⟩ => ⟨Ds, he, by obtain ⟨G, h1, h2⟩ := hl.frame; exact h2 _ _ (hp _ _ h1)⟩
theorem Sta.env {n : Nat} {R : Rnd} {e e' : Env} {l : List HP} {F : Res} {a : Act} {w : World} (hs : ∀ i v, elook e' i = some v → elook e i = some v) : Sta n R e l F a w → Sta n R e' l F a w :=
  fun ⟨Ds, he, hl⟩ => ⟨Ds, he.weaken hs, hl⟩
theorem Sta.heapE {α : Type} {n : Nat} {R : Rnd} {e : Env} {l : List HP} {φ : α → Prop} {f : α → List HP} {F : Res} {a : Act} {w : World} (hp : ∀ F w, Holds l F w → ∃ x, φ x ∧ Holds (f x) F w) (h : Sta n R e l F a w) : ∃ x, φ x ∧ Sta n R e (f x) F a w := by
  obtain ⟨Ds, he, hl⟩ := h
  obtain ⟨G, h1, h2⟩ := hl.frame
  obtain ⟨x, hx, h3⟩ := hp _ _ h1
  exact ⟨x, hx, Ds, he, h2 _ _ h3⟩
section
variable {P : Program} {R : Rnd} {n : Nat} {Q : Exit → Env → List HP → Prop} {e : Env} {l : List HP}
theorem CPost.mono {F : Res} {w0 w1 : World} {Q' : Exit → Env → List HP → Prop} (hx : Ext w0 w1) (hq : ∀ x e l, Q x e l → Q' x e l) {x : Exit} {a : Act} {w : World}
    (h : CPost n R F w1 Q x a w) : CPost n R F w0 Q' x a w := by
  obtain ⟨hc, e, l, h1, h3, h4⟩ := h
  exact ⟨hc, e, l, h1, hx.trans h3, hq x e l h4⟩
theorem SPost.mono {ds : List Deferred} {F : Res} {w0 w1 : World} {Q' : Exit → Env → List HP → Prop} (hx : Ext w0 w1) (hq : ∀ x e l, Q x e l → Q' x e l) {x : Exit} {a : Act} {w : World}
    (h : SPost n ds F w1 Q x a w) : SPost n ds F w0 Q' x a w := by
  obtain ⟨hc, e, l, h1, h2, h3, h4⟩ := h
  exact ⟨hc, e, l, h1, h2, hx.trans h3, hq x e l h4⟩
theorem Wp.mono {c : Code} {Q' : Exit → Env → List HP → Prop} (h : Wp P R n c Q e l) (hq : ∀ x e l, Q x e l → Q' x e l) : Wp P R n c Q' e l :=
  fun F w a hs => wpIn_mono (h F w a hs) fun _ _ _ h => CPost.mono (Ext.refl w) hq h
theorem Wp.heap {c : Code} {l' : List HP} (hp : ∀ F w, Holds l F w → Holds l' F w) (h : Wp P R n c Q e l') : Wp P R n c Q e l :=
  fun F w a hs => h F w a (hs.heap hp)
theorem Wp.env {c : Code} {e' : Env} (hs : ∀ i v, elook e' i = some v → elook e i = some v) (h : Wp P R n c Q e' l) : Wp P R n c Q e l :=
  fun F w a hl => h F w a (hl.env hs)
theorem Wp.skip (h : Q .normal e l) : Wp P R n .skip Q e l := fun _ w _ hs => wpIn_skip ⟨rfl, e, l, hs, Ext.refl w, h⟩
theorem Wp.ret (h : Q .ret e l) : Wp P R n .ret Q e l := fun _ w _ hs => wpIn_ret ⟨rfl, e, l, hs, Ext.refl w, h⟩
theorem Wp.exit {id : Nat} (h : Q (.exit id) e l) : Wp P R n (.exit id) Q e l := fun _ w _ hs => wpIn_exit ⟨rfl, e, l, hs, Ext.refl w, h⟩
theorem Wp.seq {c d : Code} (h : Wp P R n c (Thn (Wp P R n d Q) Q) e l) : Wp P R n (.seq c d) Q e l := by
  intro F w a hs
  refine wpIn_seq (wpIn_mono (h F w a hs) ?_)
  rintro x a' w' ⟨hc, e', l', hs', hx, hq⟩
  cases x
  case normal => exact wpIn_mono (hq F w' a' hs') fun _ _ _ h => CPost.mono hx (fun _ _ _ h => h) h
  all_goals exact ⟨hc, e', l', hs', hx, hq⟩
theorem Wp.cond {x : Operand} {c d : Code} {b : Bool} (hx : evl e x = some (.bool b)) (ht : b = true → Wp P R n c Q e l) (hf : b = false → Wp P R n d Q e l) :
    Wp P R n (.cond x c d) Q e l := by
  intro F w a hs
  obtain ⟨Ds, he, hl⟩ := hs
  refine wpIn_cond (t := b) (he.eval hx) ?_
  cases b
  · exact hf rfl F w a ⟨Ds, he, hl⟩
  · exact ht rfl F w a ⟨Ds, he, hl⟩
theorem Wp.condT {x : Operand} {c d : Code} (hx : evl e x = some (.bool true)) (h : Wp P R n c Q e l) : Wp P R n (.cond x c d) Q e l := Wp.cond hx (fun _ => h) (fun h => by cases h)
theorem Wp.condF {x : Operand} {c d : Code} (hx : evl e x = some (.bool false)) (h : Wp P R n d Q e l) : Wp P R n (.cond x c d) Q e l := Wp.cond hx (fun h => by cases h) (fun _ => h)
theorem Wp.block {id : Nat} {c : Code} (h : Wp P R n c (Blk id Q) e l) : Wp P R n (.block id c) Q e l := by
  intro F w a hs
  refine wpIn_block (wpIn_mono (h F w a hs) ?_)
  rintro x a' w' ⟨hc, e', l', hs', hx, hq⟩
  cases x
  case exit i =>
    simp only [Exit.inBlock, Blk, beq_iff_eq] at hq ⊢
    split <;> rename_i hi
    · rw [if_pos hi] at hq; exact ⟨rfl, e', l', hs', hx, hq⟩
    · rw [if_neg hi] at hq; exact ⟨rfl, e', l', hs', hx, hq⟩
  all_goals exact ⟨hc, e', l', hs', hx, hq⟩
theorem wpIn_loop_ind {P : Program} {F : Fence} {n : Nat} {Q : Exit → Act → World → Prop} {c : Code} {I : Nat → Act → World → Prop}
    (hs : ∀ k a w, I k a w → c.wpIn F n P (Exit.then (fun a' w' => ∃ j, j < k ∧ I j a' w') Q) a w) {k : Nat} {a : Act} {w : World} (h : I k a w) : (Code.loop c).wpIn F n P Q a w := by
  intro b kk cs hro hb hr
  have key : ∀ m a w, I m a w → ∃ e a' w', Q e a' w' ∧ ArrivesIn (Machine.fenced P F) P (lone (b.atR a (.code c :: .inLoop c :: kk)) cs w) b kk cs e a' w' := by
    intro m
    induction m using Nat.strongRecOn with
    | ind m ih =>
      intro a w h
      obtain ⟨e, a₁, w₁, hq, harr⟩ := hs m a w h b (.inLoop c :: kk) cs hro hb hr
      cases e with
      | normal =>
        obtain ⟨j, hj, hR⟩ := hq
        obtain ⟨e₂, a₂, w₂, hq₂, harr₂⟩ := ih j hj a₁ w₁ hR
        exact ⟨e₂, a₂, w₂, hq₂, .of_steps (StepsIn.trans harr (.one (fenced_calm hb hr rfl) stepR_inLoop)) harr₂⟩
      | exit id => exact ⟨_, a₁, w₁, hq, .pass (x := .inLoop c) rfl (fun _ _ => .inl (by simp)) harr⟩
      | goto l => exact ⟨_, a₁, w₁, hq, .pass (x := .inLoop c) rfl (fun _ _ => .inl (by simp)) harr⟩
      | ret => exact ⟨_, a₁, w₁, hq, .pass (x := .inLoop c) rfl (fun _ _ => .inl (by simp)) harr⟩
      | panic ch => exact ⟨_, a₁, w₁, hq, .pass (x := .inLoop c) rfl (fun _ _ => .inl (by simp)) harr⟩
      | outgrown => exact ⟨_, a₁, w₁, hq, .pass (x := .inLoop c) rfl (fun _ _ => .inl (by simp)) harr⟩
  obtain ⟨e, a', w', hq, harr⟩ := key k a w h
  exact ⟨e, a', w', hq, .of_steps (.one (fenced_calm hb hr rfl) stepR_loop) harr⟩
theorem Wp.loop {c : Code} (I : Nat → Env → List HP → Prop) (k : Nat) (h0 : I k e l)
    (hs : ∀ k e l, I k e l → Wp P R n c (Thn (fun e' l' => ∃ j, j < k ∧ I j e' l') Q) e l) : Wp P R n (.loop c) Q e l := by
  intro F w a hst
  refine wpIn_loop_ind (I := fun k a w1 => ∃ e l, I k e l ∧ Sta n R e l F a w1 ∧ Ext w w1) ?_ ⟨e, l, h0, hst, Ext.refl w⟩ (k := k)
  rintro k a w1 ⟨e, l, hi, hst, hx⟩
  refine wpIn_mono (hs k e l hi F w1 a hst) ?_
  rintro x a' w' ⟨hc, e', l', hst', hx', hq⟩
  cases x
  case normal =>
    obtain ⟨j, hj, hi'⟩ := hq
    exact ⟨j, hj, e', l', hi', hst', hx.trans hx'⟩
  all_goals exact ⟨hc, e', l', hst', hx.trans hx', hq⟩
end
def Rdo (P : Program) (e : Env) (C : List HP) (op : Op) (ty : TypeId) (v : Value) : Prop :=
  ∀ G w a n dst pos after g, Holds C G w → EnvAt n e a → (execOp a.eval ⟨dst, op, ty, pos, after, g⟩).run P w = .ok (.value v) w
def OpW (P : Program) (o : Oper) (a : Act) (w : World) (K : Act → World → Prop) (Q0 : Exit → Act → World → Prop) : Prop := o.uponIn Fence.wide 0 P a K Q0 ((execOp a.eval o).run P w)
def Stp (P : Program) (n : Nat) (o : Oper) (e : Env) (l : List HP) (Φ : Env → List HP → Prop) : Prop :=
  ∀ F w a ds, Holds l F w → EnvOk n ds e a → ∀ (K : Act → World → Prop) (Q0 : Exit → Act → World → Prop),
    (∀ e' l' a' w', EnvOk n ds e' a' → Holds l' F w' → Ext w w' → Φ e' l' → K a' w') → OpW P o a w K Q0
theorem Rdo.more {P : Program} {e : Env} {C D : List HP} {op : Op} {ty : TypeId} {v : Value} (h : Rdo P e C op ty v) (hd : ∀ G w, Holds D G w → ∃ G', Holds C G' w) : Rdo P e D op ty v :=
  fun G w a n dst pos after g hl he => let ⟨G', h'⟩ := hd G w hl; h G' w a n dst pos after g h' he
theorem Stp.rd {P : Program} {n : Nat} {d : Nat} {op : Op} {ty : TypeId} {pos : String} {after : Array Edge} {g : Option (Nat × Bool)} {e : Env} {l : List HP} {Φ : Env → List HP → Prop} {v : Value}
    (h : Rdo P e l op ty v) (hd : Nat.blt d n = true) (hk : Φ (eset e d v) l) : Stp P n ⟨some d, op, ty, pos, after, g⟩ e l Φ := by
  intro F w a ds hl he K Q0 hK
  unfold OpW
  rw [h F w a n (some d) pos after g hl he.toEnvAt]
  exact hK _ _ _ _ (he.put v hd) hl (Ext.refl w) hk
section
variable {P : Program} {e : Env} {C : List HP} {ty : TypeId}
theorem Rdo.move {x : Operand} {v : Value} (hx : evl e x = some v) : Rdo P e C (.move x) ty v := by
  intro G w a n dst pos after g hl he
  simp [execOp, he.eval hx]
theorem Rdo.assign {x : Operand} {v : Value} (hx : evl e x = some v) : Rdo P e C (.assign x) ty v := by
  intro G w a n dst pos after g hl he
  simp [execOp, he.eval hx]
theorem Rdo.nilCheck {x : Operand} {p : Addr} (hx : evl e x = some (.pointer (some p))) : Rdo P e C (.nilCheck x) ty (.pointer (some p)) := by
  intro G w a n dst pos after g hl he
  simp [execOp, he.eval hx]
theorem Rdo.pick_t {c x y : Operand} {u : Value} (hc : evl e c = some (.bool true)) (hx : evl e x = some u) : Rdo P e C (.pick c x y) ty u := by
  intro G w a n dst pos after g hl he
  simp [execOp, he.eval hc, he.eval hx, asBool]
theorem Rdo.pick_f {c x y : Operand} {u : Value} (hc : evl e c = some (.bool false)) (hy : evl e y = some u) : Rdo P e C (.pick c x y) ty u := by
  intro G w a n dst pos after g hl he
  simp [execOp, he.eval hc, he.eval hy, asBool]
section ints
variable {x y : Operand} {xt yt : TypeId} {k : IntKind} {p q : Int}
theorem Rdo.add (hx : evl e x = some (.int k p)) (hy : evl e y = some (.int k q)) : Rdo P e C (.binOp .add xt x y yt) ty (.int k (k.wrap (p + q))) := by
  intro G w a n dst pos after g hl he
  simp [execOp, he.eval hx, he.eval hy, eqGuard, binOp, Op.intArith]
theorem Rdo.sub (hx : evl e x = some (.int k p)) (hy : evl e y = some (.int k q)) : Rdo P e C (.binOp .sub xt x y yt) ty (.int k (k.wrap (p - q))) := by
  intro G w a n dst pos after g hl he
  simp [execOp, he.eval hx, he.eval hy, eqGuard, binOp, Op.intArith]
theorem Rdo.mul (hx : evl e x = some (.int k p)) (hy : evl e y = some (.int k q)) : Rdo P e C (.binOp .mul xt x y yt) ty (.int k (k.wrap (p * q))) := by
  intro G w a n dst pos after g hl he
  simp [execOp, he.eval hx, he.eval hy, eqGuard, binOp, Op.intArith]
theorem wrap_in {k : IntKind} {z : Int} (h1 : k.min ≤ z) (h2 : z ≤ k.max) : k.wrap z = z := by
  cases k <;> simp [IntKind.wrap, IntKind.min, IntKind.max, IntKind.signed, IntKind.bits] at * <;> (try split) <;> omega
theorem Rdo.add64 (hx : evl e x = some (.int .i64 p)) (hy : evl e y = some (.int .i64 q)) (h : -9223372036854775808 ≤ p + q ∧ p + q ≤ 9223372036854775807) : Rdo P e C (.binOp .add xt x y yt) ty (.int .i64 (p + q)) := by
  have := Rdo.add (P := P) (C := C) (xt := xt) (yt := yt) (ty := ty) hx hy
  rwa [wrap_in (by simpa [IntKind.min, IntKind.signed, IntKind.bits] using h.1) (by simpa [IntKind.max, IntKind.signed, IntKind.bits] using h.2)] at this
theorem Rdo.sub64 (hx : evl e x = some (.int .i64 p)) (hy : evl e y = some (.int .i64 q)) (h : -9223372036854775808 ≤ p - q ∧ p - q ≤ 9223372036854775807) : Rdo P e C (.binOp .sub xt x y yt) ty (.int .i64 (p - q)) := by
  have := Rdo.sub (P := P) (C := C) (xt := xt) (yt := yt) (ty := ty) hx hy
  rwa [wrap_in (by simpa [IntKind.min, IntKind.signed, IntKind.bits] using h.1) (by simpa [IntKind.max, IntKind.signed, IntKind.bits] using h.2)] at this
theorem Rdo.mul64 (hx : evl e x = some (.int .i64 p)) (hy : evl e y = some (.int .i64 q)) (h : -9223372036854775808 ≤ p * q ∧ p * q ≤ 9223372036854775807) : Rdo P e C (.binOp .mul xt x y yt) ty (.int .i64 (p * q)) := by
  have := Rdo.mul (P := P) (C := C) (xt := xt) (yt := yt) (ty := ty) hx hy
  rwa [wrap_in (by simpa [IntKind.min, IntKind.signed, IntKind.bits] using h.1) (by simpa [IntKind.max, IntKind.signed, IntKind.bits] using h.2)] at this
theorem Rdo.eqi (hx : evl e x = some (.int k p)) (hy : evl e y = some (.int k q)) : Rdo P e C (.binOp .eql xt x y yt) ty (.bool (decide (p = q))) := by
  intro G w a n dst pos after g hl he
  simp [execOp, he.eval hx, he.eval hy, eqGuard, binOp, Op.intCmp]
  rfl
theorem Rdo.nei (hx : evl e x = some (.int k p)) (hy : evl e y = some (.int k q)) : Rdo P e C (.binOp .neq xt x y yt) ty (.bool (!decide (p = q))) := by
  intro G w a n dst pos after g hl he
  simp [execOp, he.eval hx, he.eval hy, eqGuard, binOp, Op.intCmp]
  rfl
theorem Rdo.lti (hx : evl e x = some (.int k p)) (hy : evl e y = some (.int k q)) : Rdo P e C (.binOp .lss xt x y yt) ty (.bool (decide (p < q))) := by
  intro G w a n dst pos after g hl he
  simp [execOp, he.eval hx, he.eval hy, eqGuard, binOp, Op.intCmp]
theorem Rdo.lei (hx : evl e x = some (.int k p)) (hy : evl e y = some (.int k q)) : Rdo P e C (.binOp .leq xt x y yt) ty (.bool (decide (p ≤ q))) := by
  intro G w a n dst pos after g hl he
  simp [execOp, he.eval hx, he.eval hy, eqGuard, binOp, Op.intCmp]
theorem Rdo.gti (hx : evl e x = some (.int k p)) (hy : evl e y = some (.int k q)) : Rdo P e C (.binOp .gtr xt x y yt) ty (.bool (decide (q < p))) := by
  intro G w a n dst pos after g hl he
  simp [execOp, he.eval hx, he.eval hy, eqGuard, binOp, Op.intCmp]
theorem Rdo.gei (hx : evl e x = some (.int k p)) (hy : evl e y = some (.int k q)) : Rdo P e C (.binOp .geq xt x y yt) ty (.bool (decide (q ≤ p))) := by
  intro G w a n dst pos after g hl he
  simp [execOp, he.eval hx, he.eval hy, eqGuard, binOp, Op.intCmp]
end ints
theorem Rdo.not {x : Operand} {xt : TypeId} {b : Bool} (hx : evl e x = some (.bool b)) : Rdo P e C (.unOp .not xt x) ty (.bool (!b)) := by
  intro G w a n dst pos after g hl he
  simp [execOp, he.eval hx, Op.unary]
theorem Rdo.extract {x : Operand} {vs : List Value} {i : Nat} {v : Value} (hx : evl e x = some (.tuple vs.toArray)) (hv : vs[i]? = some v) : Rdo P e C (.extract x i) ty v := by
  intro G w a n dst pos after g hl he
  simp [execOp, he.eval hx, Instr.extract, hv]
end
def fldOff (P : Program) (s f : Nat) : Option (Nat × Nat) :=
  match P.underlying s with
  | some (.struct fs) => match fs[f]? with
    | some g => some (g.offset, P.cellsOf g.type)
    | none => none
  | _ => none
def aggOf (P : Program) (t : TypeId) : Option Bool :=
  match P.underlying t with
  | some (.struct _) | some (.array _ _) => some true
  | some _ => some false
  | none => none
class SZ (P : Program) (t : TypeId) (n : outParam Nat) : Prop where pf : (P.info? t).map (·.size) = some n
class AG (P : Program) (t : TypeId) (b : outParam Bool) : Prop where pf : aggOf P t = some b
class BY (P : Program) (t : TypeId) (n : outParam Nat) : Prop where pf : (P.info? t).map (·.bytes) = some n
class FO (P : Program) (s f : Nat) (o n : outParam Nat) : Prop where
  pf : fldOff P s f = some (o, n)
  ne : Nat.blt 0 n = true
class EL (P : Program) (t : TypeId) (e : outParam Nat) : Prop where pf : P.underlying t = some (.slice e)
class AR (P : Program) (t : TypeId) (n e : outParam Nat) : Prop where pf : P.underlying t = some (.array n e)
class PT (P : Program) (t : TypeId) (e : outParam Nat) : Prop where pf : P.underlying t = some (.pointer e)
class ST (P : Program) (t : TypeId) : Prop where pf : P.underlying t = some .string
class MP (P : Program) (t : TypeId) (k e : outParam Nat) : Prop where pf : P.underlying t = some (.map k e)
class IK (P : Program) (t : TypeId) (k : outParam IntKind) : Prop where pf : P.underlying t = some (.int k)
class ZV (P : Program) (t : TypeId) (zs : outParam (List Value)) : Prop where pf : ((P.info? t).bind (·.zero)).map (·.cells) = some zs.toArray
section
variable {P : Program} {w : World}
theorem SZ.run {t n} (h : SZ P t n) : (sizeOf t).run P w = .ok n w := by
  have := h.pf
  cases hi : P.info? t with
  | none => rw [hi] at this; cases this
  | some i => rw [hi] at this; simp only [Option.map_some, Option.some.injEq] at this; simp [sizeOf, typeInfo, hi, this]
theorem AG.run {t b} (h : AG P t b) : (isAgg t).run P w = .ok b w := by
  have := h.pf
  unfold aggOf at this
  cases hu : P.underlying t with
  | none => rw [hu] at this; cases this
  | some d =>
    rw [hu] at this
    simp only [isAgg, Sem.run_bind, run_underlying hu, Result.andThen_ok]
    cases d <;> simp_all
theorem FO.run {s f o n : Nat} (h : FO P s f o n) (b off : Nat) : (Instr.fieldAt s (.pointer (some ⟨b, off, none⟩)) f).run P w = .ok (.pointer (some ⟨b, off + o, none⟩)) w := by
  have h1 := h.pf
  unfold fldOff at h1
  cases hu : P.underlying s with
  | none => rw [hu] at h1; cases h1
  | some d =>
    rw [hu] at h1
    cases d with
    | struct fs =>
      simp only at h1
      cases hf : fs[f]? with
      | none => rw [hf] at h1; cases h1
      | some g =>
        rw [hf] at h1
        simp only [Option.some.injEq, Prod.mk.injEq] at h1
        obtain ⟨rfl, h2⟩ := h1
        have hn : 0 < n := by have := h.ne; simpa [Nat.blt_eq] using this
        have hs : (sizeOf g.type).run P w = .ok n w := by
          unfold Program.cellsOf at h2
          cases hi : P.info? g.type with
          | none => rw [hi] at h2; simp at h2; omega
          | some i => rw [hi] at h2; simp at h2; simp [sizeOf, typeInfo, hi, h2]
        have hadd : (⟨b, off, none⟩ : Addr).add g.offset = ⟨b, off + g.offset, none⟩ := by unfold Addr.add; split <;> simp_all
        simp [Instr.fieldAt, run_underlying hu, hf, Instr.sureAddr, fieldPlace, hs, Nat.pos_iff_ne_zero.1 hn, hadd]
    | _ => cases h1
end
theorem addr_add (b o n : Nat) : (⟨b, o, none⟩ : Addr).add n = ⟨b, o + n, none⟩ := by unfold Addr.add; split <;> simp_all
def Lds (P : Program) (l : List HP) (a : Addr) (t : TypeId) (v : Value) : Prop :=
  ∀ F w, Holds l F w → (Instr.loadAt t (.pointer (some a))).run P w = .ok v w
theorem Lds.next {P : Program} {p : HP} {l : List HP} {a : Addr} {t : TypeId} {v : Value} (h : Lds P l a t v) : Lds P (p :: l) a t v :=
  fun F w hl => h F w hl.drop
def hasCells (w : World) (b : Nat) (cs : List Value) : Prop := ∃ t fr, w.heap[b]? = some (.cells cs.toArray t fr)
theorem hasCells.cell {w : World} {b : Nat} {cs : List Value} (h : hasCells w b cs) (j : Nat) : w.cell? ⟨b, j, none⟩ = cs[j]? := by
  obtain ⟨t, fr, h⟩ := h
  simp [World.cell?, h]
theorem run_load1 {P : Program} {w : World} {b off : Nat} {cs : List Value} {t : TypeId} {v : Value} (ha : AG P t false) (h : hasCells w b cs) (hv : cs[off]? = some v) :
    (Instr.loadAt t (.pointer (some ⟨b, off, none⟩))).run P w = .ok v w := by
  simp [Instr.loadAt, Instr.sureAddr, loadVar, ha.run, h.cell, hv]
theorem run_loadN {P : Program} {w : World} {b off n : Nat} {cs vs : List Value} {t : TypeId} (ha : AG P t true) (hz : SZ P t n) (h : hasCells w b cs)
    (hn : vs.length = n) (hv : ∀ j v, vs[j]? = some v → cs[off + j]? = some v) :
    (Instr.loadAt t (.pointer (some ⟨b, off, none⟩))).run P w = .ok (.agg vs.toArray) w := by
  have := run_loadCells_list (P := P) w ⟨b, off, none⟩ vs (fun j v hj => by rw [addr_add, h.cell]; exact hv j v hj)
  rw [hn] at this
  simp [Instr.loadAt, Instr.sureAddr, loadVar, ha.run, hz.run, this]
theorem cel_sees {l : List HP} {F : Res} {w : World} {b : Nat} {t : TypeId} {cs : List Value} (h : Holds (cel b t cs :: l) F w) : w.heap[b]? = some (.cells cs.toArray t (0, 0)) := by
  obtain ⟨r, hr, hs⟩ := h.sees
  exact hs b _ hr
theorem blk_sees {l : List HP} {F : Res} {w : World} {b : Nat} {o : Obj} (h : Holds (blk b o :: l) F w) : w.heap[b]? = some o := by
  obtain ⟨r, hr, hs⟩ := h.sees
  exact hs b _ hr
theorem Lds.one {P : Program} {l : List HP} {b off : Nat} {t' t : TypeId} {cs : List Value} {v : Value} [ha : AG P t false] (hv : cs[off]? = some v) : Lds P (cel b t' cs :: l) ⟨b, off, none⟩ t v :=
  fun F w hl => run_load1 ha ⟨_, _, cel_sees hl⟩ hv
theorem Lds.all {P : Program} {l : List HP} {b n : Nat} {t' t : TypeId} {cs : List Value} [ha : AG P t true] [hz : SZ P t n] (hn : cs.length = n) : Lds P (cel b t' cs :: l) ⟨b, 0, none⟩ t (.agg cs.toArray) :=
  fun F w hl => run_loadN ha hz ⟨_, _, cel_sees hl⟩ hn (fun j v hj => by simpa using hj)
theorem Lds.part {P : Program} {l : List HP} {b off n : Nat} {t' t : TypeId} {cs vs pre post : List Value} [ha : AG P t true] [hz : SZ P t n] (he : cs = pre ++ (vs ++ post)) (hp : pre.length = off) (hn : vs.length = n) :
    Lds P (cel b t' cs :: l) ⟨b, off, none⟩ t (.agg vs.toArray) :=
  fun F w hl => run_loadN ha hz ⟨_, _, cel_sees hl⟩ hn (fun j v hj => by
    subst he; subst hp
    rw [List.getElem?_append_right (by omega), Nat.add_sub_cancel_left]
    rw [List.getElem?_append_left (List.getElem?_eq_some_iff.1 hj).1]
    exact hj)
section
variable {P : Program} {e : Env} {C : List HP} {ty : TypeId}
theorem Rdo.load {x : Operand} {a : Addr} {t : TypeId} {v : Value} (hx : evl e x = some (.pointer (some a))) (hl : Lds P C a t v) : Rdo P e C (.load t x) ty v := by
  intro G w a' n dst pos after g hl' he
  simp [execOp, he.eval hx, hl G w hl']
theorem Rdo.fieldAddr {x : Operand} {b off s f o n : Nat} [h : FO P s f o n] (hx : evl e x = some (.pointer (some ⟨b, off, none⟩))) : Rdo P e C (.fieldAddr s x f) ty (.pointer (some ⟨b, off + o, none⟩)) := by
  intro G w a' n dst pos after g hl' he
  simp [execOp, he.eval hx, h.run]
theorem Rdo.lenSlice {x : Operand} {a : Option Addr} {k c : Nat} {t e' : TypeId} [h : EL P t e'] (hx : evl e x = some (.slice a k c)) :
    Rdo P e C (.call { callee := .builtin .len, args := [x].toArray, argTypes := [t].toArray }) ty (.int .i64 k) := by
  intro G w a' n dst pos after g hl' he
  simp [execOp, resolve, invoke, builtin, he.eval hx, Builtin.len_, run_underlying h.pf, goInt]
theorem Rdo.indexSlice {x y : Operand} {b off len cap z : Nat} {i : Nat} {t e' : TypeId} {k : IntKind} [h : EL P t e'] [hz : SZ P e' z] (hx : evl e x = some (.slice (some ⟨b, off, none⟩) len cap)) (hy : evl e y = some (.int k i)) (hi : i < len) :
    Rdo P e C (.indexAddr t x y) ty (.pointer (some ⟨b, off + i * z, none⟩)) := by
  intro G w a' n dst pos after g hl' he
  have h1 : (0 : Int) ≤ i ∧ (i : Int) < len := by omega
  simp [execOp, he.eval hx, he.eval hy, Instr.indexAt, asIntOf, run_underlying h.pf, h1, hz.run, addr_add, hi]
theorem Rdo.indexArr {x y : Operand} {b off len z : Nat} {i : Nat} {t e' : TypeId} {k : IntKind} [h : AR P t len e'] [hz : SZ P e' z] (hx : evl e x = some (.pointer (some ⟨b, off, none⟩))) (hy : evl e y = some (.int k i)) (hi : i < len) :
    Rdo P e C (.indexAddr t x y) ty (.pointer (some ⟨b, off + i * z, none⟩)) := by
  intro G w a' n dst pos after g hl' he
  have h1 : (0 : Int) ≤ i ∧ (i : Int) < len := by omega
  simp [execOp, he.eval hx, he.eval hy, Instr.indexAt, asIntOf, run_underlying h.pf, h1, hz.run, addr_add, hi, Instr.sureAddr]
theorem Rdo.eqnil {x y : Operand} {p : Option Addr} {t u e' : TypeId} [h : PT P t e'] (hx : evl e x = some (.pointer p)) (hy : evl e y = some (.pointer none)) : Rdo P e C (.binOp .eql t x y u) ty (.bool p.isNone) := by
  intro G w a' n dst pos after g hl' he
  have hp : P.underlying t = some (.pointer (P.pointee t)) := by have := h.pf; simp [Program.pointee, this]
  simp [execOp, he.eval hx, he.eval hy, eqGuard_at_pointer, run_eql_pointer_nil w t p hp]
theorem Rdo.nenil {x y : Operand} {p : Option Addr} {t u e' : TypeId} [h : PT P t e'] (hx : evl e x = some (.pointer p)) (hy : evl e y = some (.pointer none)) : Rdo P e C (.binOp .neq t x y u) ty (.bool p.isSome) := by
  intro G w a' n dst pos after g hl' he
  have hp : P.underlying t = some (.pointer (P.pointee t)) := by have := h.pf; simp [Program.pointee, this]
  simp [execOp, he.eval hx, he.eval hy, eqGuard_at_pointer, run_neq_pointer_nil w t p hp]
end
def lput : List Value → Nat → List Value → List Value
  | cs, _, [] => cs
  | [], _, _ :: _ => []
  | _ :: cs, 0, v :: vs => v :: lput cs 0 vs
  | c :: cs, o + 1, v :: vs => c :: lput cs o (v :: vs)
theorem lput_nil (cs : List Value) (o : Nat) : lput cs o [] = cs := by cases cs <;> cases o <;> rfl
theorem lput_step : ∀ (cs : List Value) (i : Nat) (v : Value) (vs : List Value), i < cs.length → lput cs i (v :: vs) = lput (cs.set i v) (i + 1) vs
  | [], i, v, vs, h => by simp at h
  | c :: cs, 0, v, [], _ => by simp [lput, lput_nil]
  | c :: cs, 0, v, u :: us, _ => by simp [lput]
  | c :: cs, i + 1, v, [], h => by
    have := lput_step cs i v [] (by simpa using h)
    simp [lput, lput_nil] at this ⊢
    exact this
  | c :: cs, i + 1, v, u :: us, h => by
    have := lput_step cs i v (u :: us) (by simpa using h)
    simp only [lput, List.set_cons_succ]
    rw [this]
theorem lput_eq : ∀ (cs : List Value) (o : Nat) (vs : List Value), o + vs.length ≤ cs.length → lput cs o vs = cs.take o ++ vs ++ cs.drop (o + vs.length)
  | cs, o, [], _ => by simp [lput_nil]
  | [], o, v :: vs, h => by simp at h
  | c :: cs, 0, v :: vs, h => by
    have := lput_eq cs 0 vs (by simp at h ⊢; omega)
    simp [lput, this]
  | c :: cs, o + 1, v :: vs, h => by
    have := lput_eq cs o (v :: vs) (by simp at h ⊢; omega)
    rw [lput, this]
    rw [show o + 1 + (v :: vs).length = (o + (v :: vs).length) + 1 by omega, List.drop_succ_cons]
    simp
theorem lput_all {cs vs : List Value} (h : vs.length = cs.length) : lput cs 0 vs = vs := by
  rw [lput_eq cs 0 vs (by omega)]
  simp [h]
def oneCells (vs : List Value) : Prop := ∀ v ∈ vs, v.oneCell' = true
def Sts (P : Program) (l : List HP) (a : Addr) (vs : List Value) (l' : List HP) : Prop :=
  ∀ F w, Holds l F w → ∃ w', (storeCells a vs).run P w = .ok () w' ∧ Holds l' F w' ∧ Ext w w'
theorem Sts.next {P : Program} {p : HP} {l l' : List HP} {a : Addr} {vs : List Value} (h : Sts P l a vs l') : Sts P (p :: l) a vs (p :: l') := by
  intro F w hl
  obtain ⟨G, h1, h2⟩ := Holds.frameR (l1 := [p]) (l2 := l) hl
  obtain ⟨w', hr, hh, hx⟩ := h G w h1
  exact ⟨w', hr, h2 l' w' hh, hx⟩
theorem setRow_old {w : World} {b : Nat} (cs : Array Value) {k : Nat} (hk : k ≠ b) : (w.setRow b cs).heap[k]? = w.heap[k]? := setRow_other w b k cs hk
theorem Sts.here {P : Program} {l : List HP} {b off : Nat} {t : TypeId} {cs vs : List Value} (hone : oneCells vs) (hfit : off + vs.length ≤ cs.length) :
    Sts P (cel b t cs :: l) ⟨b, off, none⟩ vs (cel b t (lput cs off vs) :: l) := by
  intro F w hl
  have hb := cel_sees hl
  have hr := run_storeCells_at (P := P) b off t vs 0 cs.toArray w hb (by simpa using hfit) hone
  simp only [Nat.add_zero] at hr
  rw [← lput_eq cs off vs hfit] at hr
  exact ⟨_, hr, Holds.put (b := b) (o' := .cells (lput cs off vs).toArray t (0, 0)) hl (setRow_heap w b _ _ t _ hb) (fun k hk _ => setRow_old _ hk), rfl, rfl, rfl, by simp [World.setRow]⟩
theorem Sts.all {P : Program} {l : List HP} {b : Nat} {t : TypeId} {cs vs : List Value} (hlen : vs.length = cs.length) (hone : oneCells vs) :
    Sts P (cel b t cs :: l) ⟨b, 0, none⟩ vs (cel b t vs :: l) := by
  have := Sts.here (P := P) (l := l) (b := b) (off := 0) (t := t) hone (cs := cs) (by omega)
  rwa [lput_all hlen] at this
theorem Stp.store {P : Program} {n : Nat} {x y : Operand} {t ty : TypeId} {pos : String} {after : Array Edge} {g : Option (Nat × Bool)} {e : Env} {l l' : List HP} {Φ : Env → List HP → Prop} {a : Addr} {v : Value} {vs : List Value} {z : Nat}
    [hz : SZ P t z] (hx : evl e x = some (.pointer (some a))) (hy : evl e y = some v) (hv : v.cells = vs.toArray) (hn : vs.length = z) (hs : Sts P l a vs l') (hk : Φ e l') :
    Stp P n ⟨none, .store t x y, ty, pos, after, g⟩ e l Φ := by
  intro F w a' ds hl he K Q0 hK
  obtain ⟨w', hr, hh, hxt⟩ := hs F w hl
  unfold OpW
  have : (Instr.storeAt t (.pointer (some a)) v).run P w = .ok () w' := by
    have hvs : v.cells.size = z := by rw [hv]; simpa using hn
    simp only [Instr.storeAt, Instr.sureAddr, storeVar, Sem.run_bind, Sem.run_pure, Result.andThen_ok, hz.run, hvs, ne_eq, not_true, if_false]
    rw [hv]
    exact hr
  simp only [execOp, he.eval hx, he.eval hy, Sem.run_bind, this, Result.andThen_ok, Sem.run_pure, Oper.uponIn, Act.put]
  exact hK _ _ _ _ he hh hxt hk
theorem Ext.alloc (w : World) (o : Obj) : Ext w (w.alloc o) := ⟨rfl, rfl, rfl, by simp⟩
theorem Ext.drew (w : World) : Ext w w.drew := ⟨rfl, rfl, rfl, Nat.le_refl _⟩
theorem Stp.alloc {P : Program} {n d : Nat} {t ty : TypeId} {pos : String} {after : Array Edge} {g : Option (Nat × Bool)} {e : Env} {l : List HP} {Φ : Env → List HP → Prop} {zs : List Value}
    [hz : ZV P t zs] (hd : Nat.blt d n = true) (hk : ∀ b, Φ (eset e d (.pointer (some ⟨b, 0, none⟩))) (cel b t zs :: l)) :
    Stp P n ⟨some d, .alloc t, ty, pos, after, g⟩ e l Φ := by
  intro F w a ds hl he K Q0 hK
  have h := hz.pf
  cases hi : P.info? t with
  | none => rw [hi] at h; cases h
  | some i =>
    rw [hi] at h
    simp only [Option.bind_some] at h
    cases hzz : i.zero with
    | none => rw [hzz] at h; cases h
    | some z =>
      rw [hzz] at h
      simp only [Option.map_some, Option.some.injEq] at h
      unfold OpW
      simp only [execOp, Instr.alloc, zeroValue, typeInfo, hi, hzz, newVar, newRow, h, Sem.run_bind, run_program, Result.andThen_ok, Sem.run_pure, run_newObj, World.alloc_eq, Oper.uponIn]
      exact hK _ _ _ _ (he.put _ hd) (hl.alloc _) (Ext.alloc w _) (hk _)
theorem Stp.box {P : Program} {n d : Nat} {x : Operand} {t ty : TypeId} {pos : String} {after : Array Edge} {g : Option (Nat × Bool)} {e : Env} {l : List HP} {Φ : Env → List HP → Prop} {v : Value} {vs : List Value}
    (hx : evl e x = some v) (hv : v.cells = vs.toArray) (hd : Nat.blt d n = true) (hk : ∀ b, Φ (eset e d (.pointer (some ⟨b, 0, none⟩))) (cel b t vs :: l)) :
    Stp P n ⟨some d, .box t x, ty, pos, after, g⟩ e l Φ := by
  intro F w a ds hl he K Q0 hK
  unfold OpW
  simp only [execOp, Instr.box, he.eval hx, newVar, newRow, hv, Sem.run_bind, run_program, Result.andThen_ok, Sem.run_pure, run_newObj, World.alloc_eq, Oper.uponIn]
  exact hK _ _ _ _ (he.put _ hd) (hl.alloc _) (Ext.alloc w _) (hk _)
theorem foldl_lput : ∀ (vs : List Value) (cs : Array Value) (o k : Nat), o + k + vs.length ≤ cs.size →
    (vs.zipIdx k).foldl (fun c (p : Value × Nat) => c.setIfInBounds (o + p.2) p.1) cs = (lput cs.toList (o + k) vs).toArray
  | [], cs, o, k, _ => by simp [lput_nil]
  | v :: vs, cs, o, k, h => by
    simp only [List.zipIdx_cons, List.foldl_cons]
    rw [foldl_lput vs _ o (k + 1) (by simp at h ⊢; omega), lput_step _ _ _ _ (by simp at h ⊢; omega), Array.toList_setIfInBounds, Nat.add_assoc]
inductive Bld (P : Program) (t : TypeId) (e : Env) : List (Nat × Operand) → List Value → List Value → Prop where
  | nil (cs) : Bld P t e [] cs cs
  | cons {f : Nat} {x : Operand} {r : List (Nat × Operand)} {cs cs' vs : List Value} {v : Value} {o n : Nat} (h : FO P t f o n) (hx : evl e x = some v) (hv : v.cells = vs.toArray) (hn : vs.length = n)
      (hfit : Nat.ble (o + n) cs.length = true) (hr : Bld P t e r (lput cs o vs) cs') : Bld P t e ((f, x) :: r) cs cs'
theorem Bld.run {P : Program} {t : TypeId} {e : Env} {n : Nat} {a : Act} (he : EnvAt n e a) {fs : Array Field} (hu : P.underlying t = some (.struct fs)) {places : Array (Nat × Nat)}
    (hp : ∀ f o z, fldOff P t f = some (o, z) → places[f]? = some (o, z)) : ∀ {ps : List (Nat × Operand)} {cs cs' : List Value}, Bld P t e ps cs cs' →
    Instr.fill (places[·]?) cs.toArray (ps.map fun p => (p.1, a.eval p.2)) = some cs'.toArray
  | _, _, _, .nil cs => by simp [Instr.fill]
  | _, _, _, .cons (f := f) (x := x) (vs := vs) (v := v) (o := o) (cs := cs) h hx hv hn hfit hr => by
    have ih := Bld.run he hu hp hr
    have hfit' : o + vs.length ≤ cs.length := by rw [hn]; exact Nat.le_of_ble_eq_true hfit
    have h1 : v.cells.size = vs.length := by rw [hv]; simp
    have h2 := foldl_lput vs cs.toArray o 0 (by simpa using hfit')
    simp only [Nat.add_zero] at h2
    have hz : (v.cells.zipIdx.foldl (fun c (p : Value × Nat) => c.setIfInBounds (o + p.2) p.1) cs.toArray) = (lput cs o vs).toArray := by
      rw [hv, ← Array.foldl_toList, Array.toList_zipIdx]
      exact h2
    simp only [List.map_cons, Instr.fill, he.eval hx, hp f o _ h.pf]
    rw [if_neg (by rw [h1]; simp; omega)]
    have hz' : (v.cells.zipIdx.foldl (fun cs x => match x with | (c, j) => cs.setIfInBounds (o + j) c) cs.toArray) = (lput cs o vs).toArray := hz
    rw [hz']
    exact ih
theorem mapM_sizes {P : Program} {w : World} : ∀ (fs : List Field), (∀ g ∈ fs, (P.info? g.type).isSome = true) →
    (fs.mapM fun f => (do pure (f.offset, ← sizeOf f.type) : Sem (Nat × Nat))).run P w = .ok (fs.map fun f => (f.offset, P.cellsOf f.type)) w
  | [], _ => by simp
  | g :: fs, h => by
    obtain ⟨i, hi⟩ := Option.isSome_iff_exists.1 (h g (by simp))
    have := mapM_sizes (P := P) (w := w) fs fun x hx => h x (by simp [hx])
    have hs : (sizeOf g.type).run P w = .ok (P.cellsOf g.type) w := by simp [sizeOf, typeInfo, hi, Program.cellsOf]
    simp only [List.mapM_cons, Sem.run_bind, hs, this, Result.andThen_ok, Sem.run_pure, List.map_cons]
def fldsThere (P : Program) (t : TypeId) : Bool :=
  match P.underlying t with
  | some (.struct fs) => fs.all fun g => (P.info? g.type).isSome
  | _ => false
class FS (P : Program) (t : TypeId) : Prop where pf : fldsThere P t = true
theorem ZV.run {P : Program} {t : TypeId} {zs : List Value} (hz : ZV P t zs) {w : World} : ∃ z, (zeroValue t).run P w = .ok z w ∧ z.cells = zs.toArray := by
  have h := hz.pf
  cases hi : P.info? t with
  | none => rw [hi] at h; cases h
  | some i =>
    rw [hi] at h
    simp only [Option.bind_some] at h
    cases hzz : i.zero with
    | none => rw [hzz] at h; cases h
    | some z =>
      rw [hzz] at h
      simp only [Option.map_some, Option.some.injEq] at h
      exact ⟨z, by simp [zeroValue, typeInfo, hi, hzz], h⟩
theorem Rdo.build {P : Program} {e : Env} {C : List HP} {t ty : TypeId} {ps : List (Nat × Operand)} {zs cs : List Value} [hz : ZV P t zs] [hf : FS P t] (hb : Bld P t e ps zs cs) :
    Rdo P e C (.build t ps.toArray) ty (.agg cs.toArray) := by
  intro G w a n dst pos after g hl he
  obtain ⟨z, hzr, hzc⟩ := hz.run (w := w)
  have h := hf.pf
  unfold fldsThere at h
  cases hu : P.underlying t with
  | none => rw [hu] at h; cases h
  | some d =>
    rw [hu] at h
    cases d with
    | struct fs =>
      simp only [Array.all_eq_true_iff_forall_mem] at h
      have hm := mapM_sizes (P := P) (w := w) fs.toList fun x hx => h x (by simpa using hx)
      have hfill := Bld.run he hu (places := (fs.toList.map fun f => (f.offset, P.cellsOf f.type)).toArray) (fun f o z hfo => by
        unfold fldOff at hfo
        rw [hu] at hfo
        simp only at hfo
        cases hff : fs[f]? with
        | none => rw [hff] at hfo; cases hfo
        | some x =>
          rw [hff] at hfo
          simp only [Option.some.injEq] at hfo
          simp [hff, hfo]) hb
      have hma : (fs.mapM fun f => (do pure (f.offset, ← sizeOf f.type) : Sem (Nat × Nat))).run P w = .ok (fs.toList.map fun f => (f.offset, P.cellsOf f.type)).toArray w := by
        rw [Array.mapM_eq_mapM_toList]
        simp only [Sem.run_map, hm, Result.andThen_ok]
      simp only [execOp, Instr.build, Sem.run_bind, hzr, Result.andThen_ok, run_underlying hu, hma, hzc, List.map_toArray, hfill, Sem.run_pure]
    | _ => cases h
def Tk (l pre rest : List HP) : Prop := ∀ F w, Holds l F w → Holds (pre ++ rest) F w
def Pk (l : List HP) (p : HP) (l' : List HP) : Prop := l.Perm (p :: l')
theorem Pk.here {p : HP} {l : List HP} : Pk (p :: l) p l := List.Perm.refl _
theorem Pk.next {p q : HP} {l l' : List HP} (h : Pk l p l') : Pk (q :: l) p (q :: l') := (List.Perm.cons q h).trans (List.Perm.swap p q l')
theorem Tk.nil {l : List HP} : Tk l [] l := fun _ _ h => h
theorem Tk.cons {p : HP} {l l' pre rest : List HP} (hp : Pk l p l') (h : Tk l' pre rest) : Tk l (p :: pre) rest := by
  intro F w hl
  have h1 := hl.perm hp
  obtain ⟨G, h2, h3⟩ := Holds.frameR (l1 := [p]) (l2 := l') h1
  exact h3 _ _ (h G w h2)
def callable (P : Program) (f : FuncId) : Bool :=
  match P.funcs[f]? with
  | some fn => !(fn.name == "runtime.NumGoroutine") && fn.body.isSome
  | none => false
def evls (e : Env) : List Operand → Option (List Value)
  | [] => some []
  | x :: xs => match evl e x with
    | some v => match evls e xs with
      | some vs => some (v :: vs)
      | none => none
    | none => none
theorem EnvAt.evals {n : Nat} {e : Env} {a : Act} (h : EnvAt n e a) : ∀ {xs : List Operand} {vs : List Value}, evls e xs = some vs → xs.map a.eval = vs
  | [], vs, hx => by simp [evls] at hx; simp [hx]
  | x :: xs, vs, hx => by
    simp only [evls] at hx
    cases h1 : evl e x with
    | none => rw [h1] at hx; cases hx
    | some v =>
      rw [h1] at hx
      simp only at hx
      cases h2 : evls e xs with
      | none => rw [h2] at hx; cases hx
      | some us =>
        rw [h2] at hx
        simp only [Option.some.injEq] at hx
        subst hx
        simp [h.eval h1, EnvAt.evals h h2]
theorem run_callFunc {P : Program} {f : FuncId} (hf : callable P f = true) (args : Array Value) (w : World) : (callFunc f args).run P w = .ok (.enter f args) w := by
  unfold callable at hf
  cases h : P.funcs[f]? with
  | none => rw [h] at hf; cases hf
  | some fn =>
    rw [h] at hf
    simp only [Bool.and_eq_true, Bool.not_eq_true'] at hf
    obtain ⟨h1, h2⟩ := hf
    have h3 : fn.body.isNone = false := by cases hb : fn.body <;> simp_all
    simp only [callFunc, Sem.run_bind, run_program, Result.andThen_ok, h, h1, h3, Bool.false_eq_true, if_false, Sem.run_pure]
def UpV (P : Program) (fv : Value) (args : Array Value) (w : World) (R : Value → World → Prop) : Prop :=
  ∀ (o : Oper) (a : Act) (K : Act → World → Prop) (Q0 : Exit → Act → World → Prop), (∀ v w', R v w' → K (a.put o.dst v) w') →
    o.uponIn Fence.wide 0 P a K Q0 ((do let d ← Deferred.ofValue fv args; invoke d.target d.args : Sem Next).run P w)
def TripV (P : Program) (fv : Value) (args : List Value) (pre : List HP) (post : Value → List HP → Prop) : Prop :=
  ∀ F w, Holds pre F w → UpV P fv args.toArray w fun v w' => ∃ l, post v l ∧ Holds l F w' ∧ Ext w w'
theorem TripV.of_trip {P : Program} {f : FuncId} {cap args : List Value} {pre : List HP} {post : Value → List HP → Prop} (hf : callable P f = true) (ht : Trip P f (args ++ cap) pre post) :
    TripV P (.func (.func f) #[] cap.toArray) args pre post := by
  intro F w hl o a K Q0 hK
  have hr : (do let d ← Deferred.ofValue (.func (.func f) #[] cap.toArray) args.toArray; invoke d.target d.args : Sem Next).run P w = .ok (.enter f (args ++ cap).toArray) w := by
    simp [Deferred.ofValue, invoke, run_callFunc hf]
  rw [hr]
  refine ⟨by simp [Fence.wide], callsIn_wide.2 ((ht F w hl).mono ?_)⟩
  rintro en w' ⟨v, l', rfl, hpost, hl', hx'⟩
  exact hK _ _ ⟨l', hpost, hl', hx'⟩
theorem Stp.callV {P : Program} {n : Nat} {d : Option Nat} {c : Operand} {fv : Value} {xs : List Operand} {vs : List Value} {ats : Array TypeId} {ty : TypeId} {pos : String} {after : Array Edge} {g : Option (Nat × Bool)} {e : Env} {l pre rest : List HP}
    {Φ : Env → List HP → Prop} {post : Value → List HP → Prop} (hc : evl e c = some fv) (hx : evls e xs = some vs) (ht : TripV P fv vs pre post) (hp : Tk l pre rest)
    (hd : (match d with | some d => Nat.blt d n | none => true) = true)
    (hk : ∀ v l', post v l' → Φ (match d with | some d => eset e d v | none => e) (l' ++ rest)) :
    Stp P n ⟨d, .call { callee := .value c, args := xs.toArray, argTypes := ats }, ty, pos, after, g⟩ e l Φ := by
  intro F w a ds hl he K Q0 hK
  obtain ⟨G, h1, h2⟩ := (hp F w hl).frame
  unfold OpW
  have hr : (execOp a.eval ⟨d, .call { callee := .value c, args := xs.toArray, argTypes := ats }, ty, pos, after, g⟩).run P w = (do let d ← Deferred.ofValue fv vs.toArray; invoke d.target d.args : Sem Next).run P w := by
    simp [execOp, resolve, he.eval hc, he.evals hx]
  rw [hr]
  refine ht G w h1 _ a K Q0 ?_
  rintro v w' ⟨l', hpost, hl', hx'⟩
  refine hK _ _ _ _ ?_ (h2 l' w' hl') hx' (hk v l' hpost)
  cases d with
  | none => exact he
  | some d => exact he.put v hd
theorem Stp.callv {P : Program} {n : Nat} {d : Option Nat} {c : Operand} {f : FuncId} {cap : List Value} {xs : List Operand} {vs : List Value} {ats : Array TypeId} {ty : TypeId} {pos : String} {after : Array Edge} {g : Option (Nat × Bool)} {e : Env} {l pre rest : List HP}
    {Φ : Env → List HP → Prop} {post : Value → List HP → Prop} (hc : evl e c = some (.func (.func f) #[] cap.toArray)) (hf : callable P f = true) (hx : evls e xs = some vs) (ht : Trip P f (vs ++ cap) pre post) (hp : Tk l pre rest)
    (hd : (match d with | some d => Nat.blt d n | none => true) = true)
    (hk : ∀ v l', post v l' → Φ (match d with | some d => eset e d v | none => e) (l' ++ rest)) :
    Stp P n ⟨d, .call { callee := .value c, args := xs.toArray, argTypes := ats }, ty, pos, after, g⟩ e l Φ :=
  Stp.callV hc hx (TripV.of_trip hf ht) hp hd hk
theorem Stp.call {P : Program} {n d : Nat} {f : FuncId} {xs : List Operand} {vs : List Value} {ats : Array TypeId} {ty : TypeId} {pos : String} {after : Array Edge} {g : Option (Nat × Bool)} {e : Env} {l pre rest : List HP}
    {Φ : Env → List HP → Prop} {post : Value → List HP → Prop} (ht : Trip P f vs pre post) (hf : callable P f = true) (hx : evls e xs = some vs) (hp : Tk l pre rest) (hd : Nat.blt d n = true)
    (hk : ∀ v l', post v l' → Φ (eset e d v) (l' ++ rest)) : Stp P n ⟨some d, .call { callee := .value (.func f), args := xs.toArray, argTypes := ats }, ty, pos, after, g⟩ e l Φ :=
  Stp.callv (c := .func f) (cap := []) rfl hf hx (by simpa using ht) hp hd hk
def isDefer : Op → Bool
  | .defer _ => true
  | _ => false
def okReg (R : Rnd) (ops : Array Oper) : Bool := match R with | none => true | some _ => ops.toList.all fun o => !isDefer o.op
def wpListIn (P : Program) (ops : Array Oper) (Q : Exit → Act → World → Prop) : List Oper → Act → World → Prop
  | [], a, w => Q .normal a w
  | o :: rest, a, w => if Region.wanted o (yielded ops a.tmps) = true then OpW P o a w (wpListIn P ops Q rest) Q else wpListIn P ops Q rest (a.put o.dst undef) w
theorem uponIn_mono {P : Program} {o : Oper} {a : Act} {K K' : Act → World → Prop} {Q Q' : Exit → Act → World → Prop} (hk : ∀ a w, K a w → K' a w) (hq : ∀ x a w, Q x a w → Q' x a w) {r : Result Next}
    (h : o.uponIn Fence.wide 0 P a K Q r) : o.uponIn Fence.wide 0 P a K' Q' r := by
  cases r with
  | ok x w' =>
    cases x <;> simp only [Oper.uponIn] at h ⊢ <;>
      first
        | exact hk _ _ h
        | exact ⟨h.1, CallsIn.mono h.2 (fun e w'' he => by
            cases e with
            | returned v => exact hk _ _ he
            | panicked c => exact hq _ _ _ he
            | outgrown => obtain ⟨a1, w1, h2⟩ := he; exact ⟨a1, w1, hq _ _ _ h2⟩)⟩
        | exact ⟨h.1, RowsIn.mono h.2 (fun _ _ he => hk _ _ he)⟩
        | exact ⟨h.1, RoundIn.mono h.2 (fun e w'' he => by
            cases e with
            | returned v => exact hk _ _ he
            | panicked c => exact hq _ _ _ he
            | outgrown => obtain ⟨a1, w1, h2⟩ := he; exact ⟨a1, w1, hq _ _ _ h2⟩)⟩
  | halt x w' => cases x <;> simp only [Oper.uponIn] at h ⊢; exact hq _ _ _ h
theorem wpIn_of_opW {P : Program} {R : Rnd} {o : Oper} {a : Act} {w : World} {K : Act → World → Prop} {Q : Exit → Act → World → Prop} (hd : R = none ∨ isDefer o.op = false) (h : OpW P o a w K Q) : o.wpIn (wf R) 0 P a w K Q := by
  refine ⟨fun _ _ => trivial, ?_⟩
  have e1 : o.semAt (wf R).round a.eval = execOp a.eval o := by
    rcases hd with rfl | hd
    · rfl
    · exact Oper.semAt_eq _ _ _ fun c hc => by rw [hc] at hd; cases hd
  rw [e1]
  unfold OpW at h
  cases R with
  | none => exact h
  | some r =>
    generalize (execOp a.eval o).run P w = x at h
    cases x with
    | ok nx w' => cases nx <;> exact h
    | halt x w' => cases x <;> exact h
theorem okReg_mem {R : Rnd} {ops : Array Oper} (h : okReg R ops = true) {i : Nat} {o : Oper} (ho : ops[i]? = some o) : R = none ∨ isDefer o.op = false := by
  cases R with
  | none => exact .inl rfl
  | some r =>
    right
    have := List.all_eq_true.1 h o (Array.mem_toList_iff.2 (Array.mem_of_getElem? ho))
    simpa using this
theorem wpOpsIn_of_list {P : Program} {R : Rnd} {ops : Array Oper} {Q : Exit → Act → World → Prop} (hR : okReg R ops = true) : ∀ (m k : Nat) (a : Act) (w : World), k + m = ops.size → wpListIn P ops Q (ops.toList.drop k) a w → wpOpsIn (wf R) 0 P ops Q (List.range' k m) a w
  | 0, k, a, w, hk, h => by
    rw [List.drop_eq_nil_of_le (by simp; omega)] at h
    exact h
  | m + 1, k, a, w, hk, h => by
    have hlt : k < ops.size := by omega
    have hd : ops.toList.drop k = ops[k] :: ops.toList.drop (k + 1) := by
      rw [List.drop_eq_getElem_cons (by simp; omega)]; simp
    rw [hd] at h
    simp only [List.range'_succ, wpOpsIn, Array.getElem?_eq_getElem hlt]
    unfold wpListIn at h
    split
    · rename_i hw
      rw [if_pos hw] at h
      refine wpIn_of_opW (okReg_mem hR (Array.getElem?_eq_getElem hlt)) ?_
      unfold OpW at h ⊢
      exact uponIn_mono (fun a w h => wpOpsIn_of_list hR m (k + 1) a w (by omega) h) (fun _ _ _ h => h) h
    · rename_i hw
      rw [if_neg hw] at h
      exact ⟨fun _ _ => trivial, wpOpsIn_of_list hR m (k + 1) _ w (by omega) h⟩
def WpL (P : Program) (n : Nat) (ops : Array Oper) (Q : Exit → Env → List HP → Prop) (rest : List Oper) (e : Env) (l : List HP) : Prop :=
  ∀ F w a ds, Holds l F w → EnvOk n ds e a → wpListIn P ops (SPost n ds F w Q) rest a w
section
variable {P : Program} {n : Nat} {ops : Array Oper} {Q : Exit → Env → List HP → Prop} {e : Env} {l : List HP}
theorem wpListIn_mono {Q' Q'' : Exit → Act → World → Prop} (hq : ∀ x a w, Q' x a w → Q'' x a w) : ∀ {rest : List Oper} {a : Act} {w : World}, wpListIn P ops Q' rest a w → wpListIn P ops Q'' rest a w
  | [], a, w, h => hq _ _ _ h
  | o :: rest, a, w, h => by
    unfold wpListIn at h ⊢
    split
    · rename_i hw
      rw [if_pos hw] at h
      unfold OpW at h ⊢
      exact uponIn_mono (fun a w h => wpListIn_mono hq h) hq h
    · rename_i hw
      rw [if_neg hw] at h
      exact wpListIn_mono hq h
theorem SPost.toC {R : Rnd} {Ds : List Nat} {F G : Res} {w0 : World} (hb : ∀ l' w', Holds l' G w' → Holds (l' ++ hid R Ds) F w') {x : Exit} {a : Act} {w : World} (h : SPost n (marks Ds) G w0 Q x a w) : CPost n R F w0 Q x a w := by
  obtain ⟨hc, e, l, he, hl, hx, hq⟩ := h
  exact ⟨hc, e, l, ⟨Ds, he, hb _ _ hl⟩, hx, hq⟩
theorem Wp.region {R : Rnd} {id : Nat} {os : List Oper} (h : WpL P n os.toArray Q os e l) (hR : okReg R os.toArray = true := by rfl) : Wp P R n (.region id os.toArray false) Q e l := by
  intro F w a ⟨Ds, he, hl⟩
  obtain ⟨G, h1, h2⟩ := hl.frame
  refine wpIn_region ?_
  have := wpOpsIn_of_list (P := P) (R := R) (ops := os.toArray) (Q := CPost n R F w Q) hR os.length 0 a w (by simp) (wpListIn_mono (fun x a w hp => SPost.toC h2 hp) (h G w a (marks Ds) h1 he))
  rw [List.range_eq_range']
  simpa using this
theorem WpL.nil (h : Q .normal e l) : WpL P n ops Q [] e l :=
  fun F w a ds hl he => ⟨rfl, e, l, he, hl, Ext.refl w, h⟩
theorem WpL.step {d : Option Nat} {op : Op} {ty : TypeId} {pos : String} {after : Array Edge} {rest : List Oper}
    (h : Stp P n ⟨d, op, ty, pos, after, none⟩ e l (WpL P n ops Q rest)) : WpL P n ops Q (⟨d, op, ty, pos, after, none⟩ :: rest) e l := by
  intro F w a ds hl he
  unfold wpListIn
  rw [if_pos (by simp [Region.wanted])]
  refine h F w a ds hl he _ _ ?_
  intro e' l' a' w' he' hl' hx hq
  exact wpListIn_mono (fun x a w hh => SPost.mono hx (fun _ _ _ h => h) hh) (hq F w' a' ds hl' he')
theorem WpL.want {d : Option Nat} {op : Op} {ty : TypeId} {pos : String} {after : Array Edge} {rest : List Oper} {j t : Nat} {b c : Bool}
    (ht : (ops[j]?).bind (·.dst) = some t) (hv : elook e t = some (.bool c)) (hb : c = b)
    (h : Stp P n ⟨d, op, ty, pos, after, some (j, b)⟩ e l (WpL P n ops Q rest)) : WpL P n ops Q (⟨d, op, ty, pos, after, some (j, b)⟩ :: rest) e l := by
  intro F w a ds hl he
  subst hb
  have hy : yielded ops a.tmps j = some c := by simp [yielded, ht, he.at_ t _ hv]
  unfold wpListIn
  rw [if_pos (by simp [Region.wanted, hy])]
  refine h F w a ds hl he _ _ ?_
  intro e' l' a' w' he' hl' hx hq
  exact wpListIn_mono (fun x a w hh => SPost.mono hx (fun _ _ _ h => h) hh) (hq F w' a' ds hl' he')
theorem WpL.pass {d : Nat} {op : Op} {ty : TypeId} {pos : String} {after : Array Edge} {rest : List Oper} {j t : Nat} {b c : Bool}
    (ht : (ops[j]?).bind (·.dst) = some t) (hv : elook e t = some (.bool c)) (hb : c = !b) (hd : Nat.blt d n = true)
    (h : WpL P n ops Q rest (eset e d undef) l) : WpL P n ops Q (⟨some d, op, ty, pos, after, some (j, b)⟩ :: rest) e l := by
  intro F w a ds hl he
  subst hb
  have hy : yielded ops a.tmps j = some (!b) := by simp [yielded, ht, he.at_ t _ hv]
  unfold wpListIn
  rw [if_neg (by simp [Region.wanted, hy])]
  exact h F w _ ds hl (he.put undef hd)
theorem WpL.env {e' : Env} {rest : List Oper} (hs : ∀ i v, elook e' i = some v → elook e i = some v) (h : WpL P n ops Q rest e' l) : WpL P n ops Q rest e l :=
  fun F w a ds hl he => h F w a ds hl (he.weaken hs)
end
inductive ResV (P : Program) (e : Env) (l : List HP) : List ResultVar → List Value → Prop where
  | nil : ResV P e l [] []
  | tmp {t : Tmp} {v : Value} {rs : List ResultVar} {vs : List Value} (hv : elook e t = some v) (hr : ResV P e l rs vs) : ResV P e l (.tmp t :: rs) (v :: vs)
  | cell {t : Tmp} {ty : TypeId} {a : Addr} {v : Value} {rs : List ResultVar} {vs : List Value} (ha : elook e t = some (.pointer (some a))) (hv : Lds P l a ty v) (hr : ResV P e l rs vs) : ResV P e l (.cell t ty :: rs) (v :: vs)
def packed : List Value → Value
  | [v] => v
  | vs => .tuple vs.toArray
def RetQ (P : Program) (rs : List ResultVar) (post : Value → List HP → Prop) : Exit → Env → List HP → Prop
  | .ret, e, l | .normal, e, l => ∃ vs l', ResV P e l rs vs ∧ post (packed vs) l' ∧ ∀ F w, Holds l F w → Holds l' F w
  | _, _, _ => False
def argsEnv : List Value → Nat → Env
  | [], _ => []
  | v :: vs, k => (k, v) :: argsEnv vs (k + 1)
theorem elook_args : ∀ (vs : List Value) (k i : Nat) (v : Value), elook (argsEnv vs k) i = some v → k ≤ i ∧ vs[i - k]? = some v
  | [], k, i, v, h => by simp [argsEnv, elook] at h
  | u :: vs, k, i, v, h => by
    simp only [argsEnv, elook] at h
    cases hb : Nat.beq k i with
    | true =>
      have := Nat.eq_of_beq_eq_true hb
      subst this
      rw [hb] at h
      simp at h
      simp [h]
    | false =>
      rw [hb] at h
      simp only [cond_false] at h
      obtain ⟨h1, h2⟩ := elook_args vs (k + 1) i v h
      refine ⟨by omega, ?_⟩
      rw [show i - k = (i - (k + 1)) + 1 by omega]
      simpa using h2
theorem Lds.run {P : Program} {l : List HP} {a : Addr} {t : TypeId} {v : Value} (h : Lds P l a t v) {F : Res} {w : World} (hl : Holds l F w) : (loadVar t a).run P w = .ok v w := by
  have := h F w hl
  simpa [Instr.loadAt, Instr.sureAddr] using this
def resOf (tmps : Array Value) (r : ResultVar) : Sem Value :=
  match r with
  | .tmp t => Pure.pure (tmps.getD t undef)
  | .cell x t => do loadVar t (← asAddr (tmps.getD x undef))
theorem ResV.run {P : Program} {n : Nat} {e : Env} {l : List HP} {F : Res} {w : World} {a : Act} (he : EnvAt n e a) (hl : Holds l F w) : ∀ {rs : List ResultVar} {vs : List Value}, ResV P e l rs vs →
    (rs.mapM (resOf a.tmps)).run P w = .ok vs w
  | _, _, .nil => by simp
  | _, _, .tmp hv hr => by
    have ih := ResV.run he hl hr
    have := he.at_ _ _ hv
    simp only [List.mapM_cons, Sem.run_bind, ih, Sem.run_pure, Result.andThen_ok, resOf]
    simp [this]
  | _, _, .cell ha hv hr => by
    have ih := ResV.run he hl hr
    have := he.at_ _ _ ha
    have h2 := hv.run hl
    simp only [List.mapM_cons, Sem.run_bind, ih, Sem.run_pure, Result.andThen_ok, resOf]
    simp [this, asAddr, h2, ih]
theorem run_resultsV {P : Program} {n : Nat} {e : Env} {l : List HP} {F : Res} {w : World} {a : Act} {fn : Func} {rs : List ResultVar} (hr : fn.results = rs.toArray) (he : EnvAt n e a) (hl : Holds l F w) {vs : List Value} (hres : ResV P e l rs vs) :
    (results fn a.tmps).run P w = .ok (packed vs) w := by
  have hrun := ResV.run he hl hres
  have hma : (rs.toArray.mapM (resOf a.tmps)).run P w = .ok vs.toArray w := by
    rw [Array.mapM_eq_mapM_toList]
    simp only [Sem.run_map, hrun, Result.andThen_ok]
  simp only [results, hr, Sem.run_bind]
  refine (congrArg (fun r => Result.andThen r _) hma).trans ?_
  simp only [Result.andThen_ok, Sem.run_pure]
  congr 1
  match vs with
  | [] => rfl
  | [v] => rfl
  | v :: u :: us => simp [packed]
theorem leaves_marks {P : Program} {fn : Func} {tmps : Array Value} {K : Ending → World → Prop} {l : List HP} {F : Res} {w0 : World}
    (hk : ∀ w', Holds l F w' → Ext w0 w' → LeavesIn Fence.wide 0 P fn tmps K [] .returning w') :
    ∀ (Ds : List Nat) (w : World), Holds (l ++ Ds.map fun D => blk D (.deferred (some []))) F w → Ext w0 w → LeavesInM Fence.wide 0 P fn tmps K (marks Ds) .returning w
  | [], w, hl, hx => hk w (by simpa using hl) hx
  | D :: Ds, w, hl, hx => by
    have h1 : Holds (blk D (.deferred (some [])) :: (l ++ Ds.map fun D => blk D (.deferred (some [])))) F w := hl.perm List.perm_middle
    have hD : w.heap[D]? = some (.deferred (some [])) := by obtain ⟨r, hr, hs⟩ := h1.sees; exact hs D _ hr
    have hlt : D < w.heap.size := (Array.getElem?_eq_some_iff.1 hD).1
    refine ⟨by simp, .inl ⟨D, _, rfl, run_takeDeferred hD, ?_⟩⟩
    have h2 : Holds (blk D (.deferred none) :: (l ++ Ds.map fun D => blk D (.deferred (some [])))) F (w.putObj D (.deferred none)) :=
      Holds.put h1 (World.putObj_heap_same hlt) fun k hk _ => World.putObj_heap_other hk
    exact leaves_marks hk Ds _ h2.drop (hx.trans ⟨rfl, rfl, rfl, by simp⟩)
theorem Trip.of_body {P : Program} {f : FuncId} {fn : Func} {c : Code} {n : Nat} {rs : List ResultVar} {args : List Value} {pre : List HP} {post : Value → List HP → Prop}
    (hf : P.funcs[f]? = some fn) (hb : fn.body = some c) (hn : fn.ntmps = n) (hr : fn.results = rs.toArray) (hlen : Nat.ble args.length n = true)
    (h : Wp P none n c (RetQ P rs post) (argsEnv args 0) pre) : Trip P f args pre post := by
  intro F w hl
  have hlen' : args.length ≤ n := Nat.le_of_ble_eq_true hlen
  refine callsIn_wide.1 (callsIn_of_wp_marks (n := 0) hf hb trivial (wpIn_mono (h F w _ ⟨[], ⟨⟨by simp [hn]; omega, ?_⟩, rfl⟩, by simpa [hid, hidR] using hl⟩) ?_))
  · intro i v hv
    obtain ⟨_, h2⟩ := elook_args args 0 i v hv
    simp only [Nat.sub_zero] at h2
    have hlt := (List.getElem?_eq_some_iff.1 h2).1
    rw [Array.getElem?_append_left (by simpa using hlt)]
    simpa using h2
  · rintro x a' w' ⟨hc, e', l', ⟨Ds, he', hl'⟩, hx, hq⟩
    have key : (∃ vs l'', ResV P e' l' rs vs ∧ post (packed vs) l'' ∧ ∀ F w, Holds l' F w → Holds l'' F w) → LeavesInM Fence.wide 0 P fn a'.tmps (fun e w'' => ∃ v' l, e = .returned v' ∧ post v' l ∧ Holds l F w'' ∧ Ext w w'') a'.defers .returning w' := by
      rintro ⟨vs, l'', hres, hpost, htk⟩
      rw [he'.defers]
      refine leaves_marks (w0 := w) ?_ Ds w' (by simpa [hid, hidR] using hl') hx
      intro w'' hl'' hx''
      exact ⟨packed vs, run_resultsV hr he'.toEnvAt hl'' hres, packed vs, l'', rfl, hpost, htk F w'' hl'', hx''⟩
    cases x
    case normal => exact key hq
    case ret => exact key hq
    all_goals exact hq.elim
section
variable {P : Program} {R : Rnd} {n : Nat} {ops : Array Oper} {Q : Exit → Env → List HP → Prop} {e : Env} {l : List HP}
theorem Wp.fact {c : Code} {φ : Prop} (h : φ → Wp P R n c Q e l) : Wp P R n c Q e (pureH φ :: l) :=
  fun F w a hs => let ⟨_, hp, hx⟩ := hs.heapE (α := Unit) (φ := fun _ => φ) (fun F w hl => let ⟨hp, hx⟩ := hl.open_pure; ⟨(), hp, hx⟩); h hp F w a hx
theorem WpL.heap {rest : List Oper} {l' : List HP} (hp : ∀ F w, Holds l F w → Holds l' F w) (h : WpL P n ops Q rest e l') : WpL P n ops Q rest e l :=
  fun F w a ds hl he => h F w a ds (hp F w hl) he
end
def readyIn (ops : Array Oper) (fin : Array Bool) (listed : Array Bool) : List Nat := (Region.ready .any ops listed).filter fun i => fin.getD i false
def wpAnyJ (P : Program) (ops : Array Oper) (fin : Array Bool) (J : World → Prop) (Q : Exit → Act → World → Prop) (K : Array Bool → Act → World → Prop) : Nat → Array Bool → Act → World → Prop
  | 0, listed, a, w => J w ∧ readyIn ops fin listed = [] ∧ K listed a w
  | k + 1, listed, a, w => J w ∧ (readyIn ops fin listed = [] → K listed a w) ∧ ∀ i ∈ readyIn ops fin listed, wpOpIn Fence.wide 0 P ops Q i (wpAnyJ P ops fin J Q K k (listed.setIfInBounds i true)) a w
def phaseOk (ops : Array Oper) (fin : Array Bool) : Bool :=
  (List.range ops.size).all fun j => fin.getD j false || match ops[j]? with
    | some oj => (List.range ops.size).all fun i => !fin.getD i false || oj.after.any fun e => Region.binds .any e && e.on == i
    | none => true
theorem wpOp_shape {P : Program} {ops : Array Oper} {Q : Exit → Act → World → Prop} {j : Nat} {oj : Oper} (hj : ops[j]? = some oj) {K : Act → World → Prop} {a : Act} {w : World}
    (h : wpOpIn Fence.wide 0 P ops Q j K a w) : wpOpIn Fence.wide 0 P ops Q j (fun a' w' => (∃ u ds, a' = ({ a with defers := ds } : Act).put oj.dst u) ∧ K a' w') a w := by
  unfold wpOpIn at h ⊢
  simp only [hj] at h ⊢
  split
  · rename_i hw
    rw [if_pos hw] at h
    unfold Oper.wpIn at h ⊢
    refine ⟨h.1, ?_⟩
    have h := h.2
    generalize (oj.semAt Fence.wide.round a.eval).run P w = r at h ⊢
    cases r with
    | ok nx w' =>
      cases nx <;> simp only [Oper.uponIn] at h ⊢
      case value v => exact ⟨⟨v, a.defers, rfl⟩, h⟩
      case skip => exact ⟨⟨undef, a.defers, rfl⟩, h⟩
      case defer d => exact ⟨⟨undef, d :: a.defers, rfl⟩, h⟩
      case enter f args =>
        refine ⟨h.1, CallsIn.mono h.2 fun en w'' he => ?_⟩
        cases en with
        | returned v => exact ⟨⟨v, a.defers, rfl⟩, he⟩
        | panicked c => exact he
        | outgrown => exact he
      case row => exact ⟨h.1, RowsIn.mono h.2 fun v _ he => ⟨⟨v, a.defers, rfl⟩, he⟩⟩
      case round =>
        refine ⟨h.1, RoundIn.mono h.2 fun en w'' he => ?_⟩
        cases en with
        | returned v => exact ⟨⟨v, a.defers, rfl⟩, he⟩
        | panicked c => exact he
        | outgrown => exact he
    | halt x w' => cases x <;> simp only [Oper.uponIn] at h ⊢; exact h
  · rename_i hw
    rw [if_neg hw] at h
    exact ⟨h.1, ⟨undef, a.defers, rfl⟩, h.2⟩
def YieldsJ (P : Program) (ops : Array Oper) (J : World → Prop) (o : Oper) (v : Value) (a : Act) : Prop :=
  (Region.wanted o (yielded ops a.tmps) = true ∧ ∀ w, J w → (execOp a.eval o).run P w = .ok (.value v) w) ∨ (Region.wanted o (yielded ops a.tmps) = false ∧ v = undef)
theorem YieldsJ.keep {P : Program} {ops : Array Oper} {J : World → Prop} {oi oj : Oper} {v : Value} {a : Act} (hy : YieldsJ P ops J oi v a) (hap : oi.apart ops oj = true) (hs : ∀ cs b, oi.op ≠ .select cs b) (u : Value) (ds : List Deferred) :
    YieldsJ P ops J oi v (({ a with defers := ds } : Act).put oj.dst u) := by
  obtain ⟨_, _, h3⟩ := Oper.apart_spec hap
  have e1 : execOp (({ a with defers := ds } : Act).put oj.dst u).eval oi = execOp a.eval oi := (execOp_put (ops := ops) oi hs { a with defers := ds } oj.dst u h3).trans rfl
  have e2 : Region.wanted oi (yielded ops (({ a with defers := ds } : Act).put oj.dst u).tmps) = Region.wanted oi (yielded ops a.tmps) := (wanted_put (ops := ops) oi { a with defers := ds } oj.dst u h3).trans rfl
  unfold YieldsJ at *
  rw [e1, e2]
  exact hy
theorem wpAnyJ_first {P : Program} {ops : Array Oper} {J : World → Prop} {Q : Exit → Act → World → Prop} {K : Array Bool → Act → World → Prop} {fin : Array Bool} {i : Nat} {oi : Oper} {v : Value} (hi : ops[i]? = some oi) (hfi : fin.getD i false = true)
    (hsel : Region.noSelect ops = true) (hQ : ∀ c a w, Q (.panic c) (a.put oi.dst v) w → Q (.panic c) a w) :
    ∀ (k : Nat) (listed : Array Bool) (a : Act) (w : World),
      (∀ j oj, ops[j]? = some oj → j ≠ i → listed.getD j true = false → (∀ e ∈ oj.after, Region.binds .any e = true → e.on ≠ i) → oi.apart ops oj = true) →
      i ∈ Region.ready .any ops listed → YieldsJ P ops J oi v a →
      wpAnyJ P ops fin J Q K k (listed.setIfInBounds i true) (a.put oi.dst v) w → wpAnyJ P ops fin J Q K (k + 1) listed a w := by
  have self : ∀ (k : Nat) (listed : Array Bool) (a : Act) (w : World), J w → YieldsJ P ops J oi v a → wpAnyJ P ops fin J Q K k (listed.setIfInBounds i true) (a.put oi.dst v) w →
      wpOpIn Fence.wide 0 P ops Q i (wpAnyJ P ops fin J Q K k (listed.setIfInBounds i true)) a w := by
    intro k listed a w hJ hy h
    unfold wpOpIn
    simp only [hi]
    rcases hy with ⟨hw, hr⟩ | ⟨hw, rfl⟩
    · rw [if_pos hw]
      refine ⟨fun _ _ => trivial, ?_⟩
      show oi.uponIn Fence.wide 0 P a _ Q ((execOp a.eval oi).run P w)
      rw [hr w hJ]
      exact h
    · rw [if_neg (by simp [hw])]
      exact ⟨fun _ _ => trivial, h⟩
  have inR : ∀ {listed : Array Bool}, i ∈ Region.ready .any ops listed → i ∈ readyIn ops fin listed := fun h => List.mem_filter.2 ⟨h, hfi⟩
  have monoR : ∀ {listed : Array Bool} {j : Nat}, j ∈ readyIn ops fin listed → j ≠ i → j ∈ readyIn ops fin (listed.setIfInBounds i true) := fun h hne =>
    List.mem_filter.2 ⟨ready_mono (List.mem_filter.1 h).1 hne, (List.mem_filter.1 h).2⟩
  intro k
  induction k with
  | zero =>
    intro listed a w hfree hr hy H
    refine ⟨H.1, fun h0 => absurd (inR hr) (by rw [h0]; simp), fun j hj => ?_⟩
    by_cases hji : j = i
    · subst hji; exact self 0 listed a w H.1 hy H
    · exact absurd (monoR hj hji) (by rw [H.2.1]; simp)
  | succ k ih =>
    intro listed a w hfree hr hy H
    refine ⟨H.1, fun h0 => absurd (inR hr) (by rw [h0]; simp), fun j hj => ?_⟩
    by_cases hji : j = i
    · subst hji; exact self (k + 1) listed a w H.1 hy H
    · have h1 := H.2.2 j (monoR hj hji)
      obtain ⟨hjun, oj, hoj, hall⟩ := mem_ready.1 (List.mem_filter.1 hj).1
      have hnot : ∀ e ∈ oj.after, Region.binds .any e = true → e.on ≠ i := fun e he hb heq => by
        have h1 := hall e he hb
        have h0 := (mem_ready.1 hr).1
        rw [heq] at h1
        rcases Nat.lt_or_ge i listed.size with h' | h'
        · simp [h'] at h0 h1; rw [h0] at h1; cases h1
        · simp [Array.getElem?_eq_none h'] at h1
      have hap := hfree j oj hoj hji hjun hnot
      have hs := Region.noSelect_spec hsel
      -- the same operation with a value that hangs on nothing: the known law on two that are apart serves
      let oi' : Oper := { oi with op := .move (.const v) }
      have hlook : ∀ t, t ∈ oi'.looksAt ops → t ∈ oi.looksAt ops := by
        intro t ht
        simp only [Oper.looksAt, oi', Op.operands, List.mem_append] at ht ⊢
        rcases ht with ht | ht
        · simp at ht
        · exact .inr ht
      have hap' : oi'.apart ops oj = true := by
        obtain ⟨a1, a2, a3⟩ := Oper.apart_spec hap
        unfold Oper.apart
        simp only [Bool.and_eq_true]
        constructor
        · cases hd : oi.dst with
          | none => simp [oi', hd]
          | some d => have x1 := a1 d hd; have x2 := a2 d hd; simp [oi', hd, x1, x2]
        · cases hd : oj.dst with
          | none => rfl
          | some d =>
            have x3 := a3 d hd
            simp only [Bool.not_eq_true']
            exact Bool.eq_false_iff.2 fun hc => x3 (hlook d (by simpa using hc))
      have hy' : YieldsFenced P ops oi' v a := by
        refine ⟨?_, fun w => rfl⟩
        rcases hy with ⟨hw, _⟩ | ⟨hw, hv⟩
        · exact .inl ⟨hw, fun w => by simp [oi', execOp, Act.eval]⟩
        · exact .inr ⟨hw, hv⟩
      have h2 := wpOpIn_put (oi := oi') rfl hoj hap' (fun cs b => by simp [oi']) (fun cs b => hs j oj cs b hoj) hQ hy' h1
      have h3 := wpOp_shape hoj h2
      have hfree' : ∀ k ok, ops[k]? = some ok → k ≠ i → (listed.setIfInBounds j true).getD k true = false →
          (∀ e ∈ ok.after, Region.binds .any e = true → e.on ≠ i) → oi.apart ops ok = true := fun k ok hk hki hun hno => by
        refine hfree k ok hk hki ?_ hno
        by_cases hjk : j = k
        · subst hjk; exact hjun
        · rw [getD_set_ne true hjk] at hun; exact hun
      refine wpOpIn_mono (fun a' w' h4 => ?_) h3
      obtain ⟨⟨u, ds, rfl⟩, _, h5⟩ := h4
      refine ih (listed.setIfInBounds j true) _ w' hfree' (ready_mono hr (Ne.symm hji)) (hy.keep hap (fun cs b => hs i oi cs b hi) u ds) ?_
      rw [Array.setIfInBounds_comm _ _ hji]
      exact h5
theorem wpAny_fuel {P : Program} {ops : Array Oper} {Q : Exit → Act → World → Prop} : ∀ (k : Nat) (listed : Array Bool) (a : Act) (w : World), wpAnyIn Fence.wide 0 P .any ops Q k listed a w → wpAnyIn Fence.wide 0 P .any ops Q (k + 1) listed a w
  | 0, listed, a, w, h => wpAnyIn_done h.1 h.2 1
  | k + 1, listed, a, w, h => ⟨h.1, fun i hi => wpOpIn_mono (fun a' w' h' => wpAny_fuel k _ a' w' h') (h.2 i hi)⟩
theorem wpAny_fuel_le {P : Program} {ops : Array Oper} {Q : Exit → Act → World → Prop} {k : Nat} {listed : Array Bool} {a : Act} {w : World} (h : wpAnyIn Fence.wide 0 P .any ops Q k listed a w) : ∀ m, wpAnyIn Fence.wide 0 P .any ops Q (m + k) listed a w
  | 0 => by rwa [Nat.zero_add]
  | m + 1 => by rw [Nat.add_right_comm]; exact wpAny_fuel _ _ _ _ (wpAny_fuel_le h m)
theorem wpAny_phase {P : Program} {ops : Array Oper} {J : World → Prop} {Q : Exit → Act → World → Prop} {fin : Array Bool} {m : Nat} (hph : phaseOk ops fin = true) :
    ∀ (k : Nat) (listed : Array Bool) (a : Act) (w : World), listed.size = ops.size → wpAnyJ P ops fin J Q (wpAnyIn Fence.wide 0 P .any ops Q m) k listed a w → wpAnyIn Fence.wide 0 P .any ops Q (k + m) listed a w := by
  have split : ∀ listed : Array Bool, listed.size = ops.size → readyIn ops fin listed = [] ∨ Region.ready .any ops listed = readyIn ops fin listed := by
    intro listed hsz
    by_cases hall : ∀ j ∈ Region.ready .any ops listed, fin.getD j false = true
    · exact .inr (List.filter_eq_self.2 hall).symm
    · left
      obtain ⟨j, hj⟩ := Classical.not_forall.1 hall
      obtain ⟨hj, hjf⟩ := Classical.not_imp.1 hj
      have hjf' : fin.getD j false = false := by simpa using hjf
      obtain ⟨hjun, oj, hoj, hdep⟩ := mem_ready.1 hj
      refine List.filter_eq_nil_iff.2 fun i hi hfi => ?_
      obtain ⟨hiun, oi, hoi, _⟩ := mem_ready.1 hi
      have hjlt : j < ops.size := (Array.getElem?_eq_some_iff.1 hoj).1
      have hilt : i < ops.size := (Array.getElem?_eq_some_iff.1 hoi).1
      unfold phaseOk at hph
      have h1 := List.all_eq_true.1 hph j (List.mem_range.2 hjlt)
      rw [hjf', Bool.false_or, hoj] at h1
      have h2 := List.all_eq_true.1 h1 i (List.mem_range.2 hilt)
      rw [hfi, Bool.not_true, Bool.false_or] at h2
      obtain ⟨e, he, hb⟩ := Array.any_eq_true'.1 h2
      simp only [Bool.and_eq_true, beq_iff_eq] at hb
      have h3 := hdep e he hb.1
      rw [hb.2] at h3
      have hl : i < listed.size := by omega
      simp [hl] at hiun h3
      rw [hiun] at h3
      cases h3
  intro k
  induction k with
  | zero =>
    intro listed a w hsz h
    rw [Nat.zero_add]
    exact h.2.2
  | succ k ih =>
    intro listed a w hsz h
    rcases split listed hsz with h0 | h0
    · exact wpAny_fuel_le (h.2.1 h0) (k + 1)
    · by_cases hn : readyIn ops fin listed = []
      · exact wpAny_fuel_le (h.2.1 hn) (k + 1)
      · rw [Nat.add_right_comm]
        refine ⟨fun hr => absurd (h0 ▸ hr) hn, fun i hi => ?_⟩
        rw [h0] at hi
        exact wpOpIn_mono (fun a' w' h' => ih _ a' w' (by simpa using hsz) h') (h.2.2 i hi)
theorem wpOp_Q {P : Program} {ops : Array Oper} {Q Q' : Exit → Act → World → Prop} (hq : ∀ x a w, Q x a w → Q' x a w) {i : Nat} {K : Act → World → Prop} {a : Act} {w : World} (h : wpOpIn Fence.wide 0 P ops Q i K a w) : wpOpIn Fence.wide 0 P ops Q' i K a w := by
  unfold wpOpIn at h ⊢
  split
  · rename_i ho; rw [ho] at h; exact h
  · rename_i o ho
    rw [ho] at h
    simp only at h
    split
    · rename_i hw
      rw [if_pos hw] at h
      exact ⟨h.1, uponIn_mono (fun _ _ h => h) hq h.2⟩
    · rename_i hw
      rw [if_neg hw] at h
      exact h
theorem wpAny_Q {P : Program} {ops : Array Oper} {Q Q' : Exit → Act → World → Prop} (hq : ∀ x a w, Q x a w → Q' x a w) : ∀ (k : Nat) (listed : Array Bool) (a : Act) (w : World), wpAnyIn Fence.wide 0 P .any ops Q k listed a w → wpAnyIn Fence.wide 0 P .any ops Q' k listed a w
  | 0, _, _, _, h => ⟨h.1, hq _ _ _ h.2⟩
  | k + 1, _, _, _, h => ⟨fun h0 => hq _ _ _ (h.1 h0), fun i hi => wpOpIn_mono (fun a' w' h' => wpAny_Q hq k _ a' w' h') (wpOp_Q hq (h.2 i hi))⟩
theorem wpAny_round {P : Program} {R : Rnd} {ops : Array Oper} (hR : okReg R ops = true) {Q : Exit → Act → World → Prop} : ∀ (k : Nat) (listed : Array Bool) (a : Act) (w : World), wpAnyIn Fence.wide 0 P .any ops Q k listed a w → wpAnyIn (wf R) 0 P .any ops Q k listed a w
  | 0, _, _, _, h => h
  | k + 1, listed, a, w, h => ⟨h.1, fun i hi => by
      have h1 := h.2 i hi
      unfold wpOpIn at h1 ⊢
      split
      · rename_i ho; rw [ho] at h1; exact wpAny_round hR k _ a w h1
      · rename_i o ho
        rw [ho] at h1
        simp only at h1
        split
        · rename_i hw
          rw [if_pos hw] at h1
          refine wpIn_of_opW (okReg_mem hR ho) ?_
          exact uponIn_mono (fun a w h => wpAny_round hR k _ a w h) (fun _ _ _ h => h) h1.2
        · rename_i hw
          rw [if_neg hw] at h1
          exact ⟨fun _ _ => trivial, wpAny_round hR k _ _ w h1.2⟩⟩
def WpR (P : Program) (n : Nat) (ops : Array Oper) (Q : Exit → Env → List HP → Prop) (m : Nat) (listed : Array Bool) (e : Env) (l : List HP) : Prop :=
  ∀ F w a ds, Holds l F w → EnvOk n ds e a → wpAnyIn Fence.wide 0 P .any ops (SPost n ds F w Q) m listed a w
def WpA (P : Program) (n : Nat) (ops : Array Oper) (Q : Exit → Env → List HP → Prop) (fin : Array Bool) (K : Array Bool → Env → List HP → Prop) (k : Nat) (listed : Array Bool) (C : List HP) (e : Env) (l : List HP) : Prop :=
  ∀ rC F G w0 w a ds, stars C rC → Join rC F G → Holds l G w → Ext w0 w → EnvOk n ds e a →
    wpAnyJ P ops fin (fun w => Sat w G) (SPost n ds F w0 Q) (fun listed a' w' => ∃ e' l', EnvOk n ds e' a' ∧ Holds l' G w' ∧ Ext w0 w' ∧ K listed e' l') k listed a w
section
variable {P : Program} {n : Nat} {ops : Array Oper} {Q : Exit → Env → List HP → Prop} {e : Env} {l C : List HP}
theorem Wp.draw {R : Rnd} {id : Nat} (hm : P.follows .mixedOrders = true) (h : WpR P n ops Q ops.size (Array.replicate ops.size false) e l) (hR : okReg R ops = true := by rfl) : Wp P R n (.region id ops true) Q e l := by
  intro F w a ⟨Ds, he, hl⟩
  obtain ⟨G, h1, h2⟩ := hl.frame
  refine wpIn_region_any hm (wpAny_round hR _ _ _ _ ?_)
  have := h G w.drew a (marks Ds) h1.drew he
  exact wpAny_Q (fun x a w' hq => SPost.toC h2 (SPost.mono (Ext.drew w) (fun _ _ _ h => h) hq)) _ _ _ _ this
theorem WpR.done {m : Nat} {listed : Array Bool} (hr : Region.ready .any ops listed = []) (h : Q .normal e l) : WpR P n ops Q m listed e l :=
  fun F w a ds hl he => wpAnyIn_done hr ⟨rfl, e, l, he, hl, Ext.refl w, h⟩ m
theorem WpR.heap {m : Nat} {listed : Array Bool} {l' : List HP} (hp : ∀ F w, Holds l F w → Holds l' F w) (h : WpR P n ops Q m listed e l') : WpR P n ops Q m listed e l :=
  fun F w a ds hl he => h F w a ds (hp F w hl) he
theorem wpAnyJ_K {fin : Array Bool} {J : World → Prop} {Q' Q'' : Exit → Act → World → Prop} {K K' : Array Bool → Act → World → Prop} (hq : ∀ x a w, Q' x a w → Q'' x a w) (hk : ∀ li a w, K li a w → K' li a w) :
    ∀ (k : Nat) (listed : Array Bool) (a : Act) (w : World), wpAnyJ P ops fin J Q' K k listed a w → wpAnyJ P ops fin J Q'' K' k listed a w
  | 0, _, _, _, h => ⟨h.1, h.2.1, hk _ _ _ h.2.2⟩
  | k + 1, _, _, _, h => ⟨h.1, fun h0 => hk _ _ _ (h.2.1 h0), fun i hi => wpOpIn_mono (fun a' w' h' => wpAnyJ_K hq hk k _ a' w' h') (wpOp_Q hq (h.2.2 i hi))⟩
theorem Holds.of_parts {C l : List HP} {rC F G : Res} {w : World} (hC : stars C rC) (hj : Join rC F G) (hl : Holds l G w) : Holds (C ++ l) F w := by
  obtain ⟨r, t, hr, h1, hs⟩ := hl
  obtain ⟨x, h2, h3⟩ := hj.assoc' h1
  exact ⟨x, t, stars_append.2 ⟨rC, r, h2.comm, hC, hr⟩, h3, hs⟩
theorem Holds.to_parts {C l : List HP} {F : Res} {w : World} (h : Holds (C ++ l) F w) : ∃ rC G, stars C rC ∧ Join rC F G ∧ Holds l G w := by
  obtain ⟨r, t, hr, h1, hs⟩ := h
  obtain ⟨r1, r2, h2, k1, k2⟩ := stars_append.1 hr
  obtain ⟨G, h3, h4⟩ := h2.comm.assoc h1
  exact ⟨r1, G, k1, h3, r2, t, k2, h4, hs⟩
variable {fin : Array Bool} {K : Array Bool → Env → List HP → Prop} {k : Nat} {listed : Array Bool}
theorem WpA.stop (hr : readyIn ops fin listed = []) (h : K listed e l) : WpA P n ops Q fin K k listed C e l := by
  intro rC F G w0 w a ds hC hj hl hx he
  cases k with
  | zero => exact ⟨hl.satF, hr, e, l, he, hl, hx, h⟩
  | succ k => exact ⟨hl.satF, fun _ => ⟨e, l, he, hl, hx, h⟩, by rw [hr]; simp⟩
theorem WpA.take_ {i d : Nat} {op : Op} {ty : TypeId} {pos : String} {after : Array Edge} {g : Option (Nat × Bool)} {v : Value} (hi : ops[i]? = some ⟨some d, op, ty, pos, after, g⟩) (hfi : fin.getD i false = true)
    (hsel : Region.noSelect ops = true) (hfree : Region.free .any ops listed i = true) (hr : (Region.ready .any ops listed).contains i = true)
    (hw : ∀ a, EnvAt n e a → Region.wanted ⟨some d, op, ty, pos, after, g⟩ (yielded ops a.tmps) = true) (hv : Rdo P e C op ty v) (hd : Nat.blt d n = true)
    (h : WpA P n ops Q fin K k (listed.setIfInBounds i true) C (eset e d v) l) : WpA P n ops Q fin K (k + 1) listed C e l := by
  intro rC F G w0 w a ds hC hj hl hx he
  refine wpAnyJ_first hi hfi hsel (fun c a w hq => ?_) k listed a w (Region.free_spec hi hfree) (by simpa using hr) (.inl ⟨hw a he.toEnvAt, fun w' hs => ?_⟩) (h rC F G w0 w _ ds hC hj hl hx (he.put v hd))
  · exact absurd hq.1 (by simp [calmX])
  · exact hv F w' a n _ _ _ _ ⟨rC, G, hC, hj, hs⟩ he.toEnvAt
theorem WpA.take {i d : Nat} {op : Op} {ty : TypeId} {pos : String} {after : Array Edge} {v : Value} (hi : ops[i]? = some ⟨some d, op, ty, pos, after, none⟩) (hfi : fin.getD i false = true)
    (hsel : Region.noSelect ops = true) (hfree : Region.free .any ops listed i = true) (hr : (Region.ready .any ops listed).contains i = true)
    (hv : Rdo P e C op ty v) (hd : Nat.blt d n = true)
    (h : WpA P n ops Q fin K k (listed.setIfInBounds i true) C (eset e d v) l) : WpA P n ops Q fin K (k + 1) listed C e l :=
  WpA.take_ hi hfi hsel hfree hr (fun _ _ => by simp [Region.wanted]) hv hd h
theorem WpA.want {i d j t : Nat} {b c : Bool} {op : Op} {ty : TypeId} {pos : String} {after : Array Edge} {v : Value} (hi : ops[i]? = some ⟨some d, op, ty, pos, after, some (j, b)⟩) (ht : (ops[j]?).bind (·.dst) = some t) (hc : elook e t = some (.bool c)) (hb : c = b)
    (hfi : fin.getD i false = true) (hsel : Region.noSelect ops = true) (hfree : Region.free .any ops listed i = true) (hr : (Region.ready .any ops listed).contains i = true)
    (hv : Rdo P e C op ty v) (hd : Nat.blt d n = true)
    (h : WpA P n ops Q fin K k (listed.setIfInBounds i true) C (eset e d v) l) : WpA P n ops Q fin K (k + 1) listed C e l :=
  WpA.take_ hi hfi hsel hfree hr (fun a he => by simp [Region.wanted, yielded, ht, he.at_ t _ hc, hb]) hv hd h
theorem WpA.pass {i d j t : Nat} {b c : Bool} {op : Op} {ty : TypeId} {pos : String} {after : Array Edge} (hi : ops[i]? = some ⟨some d, op, ty, pos, after, some (j, b)⟩) (ht : (ops[j]?).bind (·.dst) = some t) (hc : elook e t = some (.bool c)) (hb : c = !b)
    (hfi : fin.getD i false = true) (hsel : Region.noSelect ops = true) (hfree : Region.free .any ops listed i = true) (hr : (Region.ready .any ops listed).contains i = true) (hd : Nat.blt d n = true)
    (h : WpA P n ops Q fin K k (listed.setIfInBounds i true) C (eset e d undef) l) : WpA P n ops Q fin K (k + 1) listed C e l := by
  intro rC F G w0 w a ds hC hj hl hx he
  subst hb
  refine wpAnyJ_first hi hfi hsel (fun c a w hq => ?_) k listed a w (Region.free_spec hi hfree) (by simpa using hr) (.inr ⟨?_, rfl⟩) (h rC F G w0 w _ ds hC hj hl hx (he.put undef hd))
  · exact absurd hq.1 (by simp [calmX])
  · simp [Region.wanted, yielded, ht, he.at_ t _ hc]
theorem WpA.one {i : Nat} {d : Option Nat} {op : Op} {ty : TypeId} {pos : String} {after : Array Edge} (hi : ops[i]? = some ⟨d, op, ty, pos, after, none⟩) (hr : readyIn ops fin listed = [i])
    (h : Stp P n ⟨d, op, ty, pos, after, none⟩ e l (fun e' l' => WpA P n ops Q fin K k (listed.setIfInBounds i true) C e' l')) : WpA P n ops Q fin K (k + 1) listed C e l := by
  intro rC F G w0 w a ds hC hj hl hx he
  refine ⟨hl.satF, by rw [hr]; simp, fun j hj' => ?_⟩
  rw [hr, List.mem_singleton] at hj'
  subst hj'
  unfold wpOpIn
  simp only [hi]
  rw [if_pos (by simp [Region.wanted])]
  refine ⟨fun _ _ => trivial, h G w a ds hl he _ _ ?_⟩
  intro e' l' a' w' he' hl' hx' hq
  exact hq rC F G w0 w' a' ds hC hj hl' (hx.trans hx') he'
theorem WpA.oneG {i j t : Nat} {b c : Bool} {d : Option Nat} {op : Op} {ty : TypeId} {pos : String} {after : Array Edge} (hi : ops[i]? = some ⟨d, op, ty, pos, after, some (j, b)⟩) (ht : (ops[j]?).bind (·.dst) = some t) (hc : elook e t = some (.bool c)) (hb : c = b)
    (hr : readyIn ops fin listed = [i])
    (h : Stp P n ⟨d, op, ty, pos, after, some (j, b)⟩ e l (fun e' l' => WpA P n ops Q fin K k (listed.setIfInBounds i true) C e' l')) : WpA P n ops Q fin K (k + 1) listed C e l := by
  intro rC F G w0 w a ds hC hj hl hx he
  refine ⟨hl.satF, by rw [hr]; simp, fun j hj' => ?_⟩
  rw [hr, List.mem_singleton] at hj'
  subst hj'
  unfold wpOpIn
  simp only [hi]
  rw [if_pos (by simp [Region.wanted, yielded, ht, he.at_ t _ hc, hb])]
  refine ⟨fun _ _ => trivial, h G w a ds hl he _ _ ?_⟩
  intro e' l' a' w' he' hl' hx' hq
  exact hq rC F G w0 w' a' ds hC hj hl' (hx.trans hx') he'
end
def niOf (P : Program) (t : TypeId) : Bool := match P.underlying t with | some (.slice _) => true | some .string => true | _ => false
class NI (P : Program) (t : TypeId) : Prop where pf : niOf P t = true
def Src (P : Program) (C : List HP) (sz : Nat) (x : Value) (m : Nat) (news : List Value) : Prop :=
  ∀ F w, Holds C F w → (Builtin.lenOf x).run P w = .ok m w ∧ (Builtin.firstCells sz m x).run P w = .ok news.toArray w
theorem Src.next {P : Program} {p : HP} {C : List HP} {sz : Nat} {x : Value} {m : Nat} {news : List Value} (h : Src P C sz x m news) : Src P (p :: C) sz x m news :=
  fun F w hl => h F w hl.drop
theorem Src.nil {P : Program} {C : List HP} {sz : Nat} : Src P C sz (.slice none 0 0) 0 [] :=
  fun F w _ => ⟨by simp [Builtin.lenOf], by simp [Builtin.firstCells]⟩
theorem Src.of_cells {P : Program} {C : List HP} {sz b off m c : Nat} {news : List Value} (hl : news.length = m * sz)
    (h : ∀ F w, Holds C F w → ∀ j v, news[j]? = some v → w.cell? ⟨b, off + j, none⟩ = some v) : Src P C sz (.slice (some ⟨b, off, none⟩) m c) m news :=
  fun F w hC => ⟨by simp [Builtin.lenOf], run_firstCells_some w sz m ⟨b, off, none⟩ m c news hl (fun j v hj => by rw [addr_add]; exact h F w hC j v hj)⟩
theorem Src.cel {P : Program} {l : List HP} {t : TypeId} {sz b m c : Nat} {cs : List Value} (hl : cs.length = m * sz) : Src P (cel b t cs :: l) sz (.slice (some ⟨b, 0, none⟩) m c) m cs :=
  Src.of_cells hl fun F w hC j v hj => by
    have : hasCells w b cs := ⟨_, _, cel_sees hC⟩
    rw [Nat.zero_add, this.cell]
    exact hj
def rowA (t : TypeId) (sz : Nat) (v : Value) (n : Nat) (xs : List Value) : HP := fun r =>
  xs.length = n * sz ∧ ((v = .slice none 0 0 ∧ n = 0) ∨
  ∃ b o cap cur, v = .slice (some ⟨b, o, none⟩) n cap ∧ r b = some (true, .cells cur t (0, 0)) ∧ n ≤ cap ∧ o + cap * sz ≤ cur.size ∧ (cur.toList.drop o).take (n * sz) = xs)
theorem rowA_shape {t : TypeId} {sz : Nat} {v : Value} {n : Nat} {xs : List Value} {r : Res} (h : rowA t sz v n xs r) : ∃ a c, v = .slice a n c := by
  rcases h.2 with ⟨rfl, rfl⟩ | ⟨b, o, cap, cur, rfl, _⟩
  · exact ⟨none, 0, rfl⟩
  · exact ⟨_, cap, rfl⟩
theorem rowA_nil (t : TypeId) (sz : Nat) (r : Res) : rowA t sz (.slice none 0 0) 0 [] r := ⟨by simp, .inl ⟨rfl, rfl⟩⟩
theorem rowA_cel {t : TypeId} {sz b n : Nat} {cs : List Value} (hl : cs.length = n * sz) (r : Res) (h : cel b t cs r) : rowA t sz (.slice (some ⟨b, 0, none⟩) n n) n cs r :=
  ⟨hl, .inr ⟨b, 0, n, cs.toArray, rfl, h, Nat.le_refl _, by simp [hl], by simp [← hl]⟩⟩
theorem Holds.rowA_nil {l : List HP} {F : Res} {w : World} (t : TypeId) (sz : Nat) (h : Holds l F w) : Holds (rowA t sz (.slice none 0 0) 0 [] :: l) F w := by
  obtain ⟨r, x, hr, hj, hs⟩ := h
  exact ⟨r, x, ⟨_, r, Join.unit r, Go.Proofs.YtomijhgicennbaaGreat.rowA_nil t sz _, hr⟩, hj, hs⟩
theorem run_append_stay {P : Program} {t xt ty e sz : Nat} (ht : EL P t e) (hz : SZ P e sz) (hx : NI P xt) {w : World} {base : Option Addr} {n cap m : Nat} {x : Value} {news : List Value}
    (h1 : (Builtin.lenOf x).run P w = .ok m w) (h2 : (Builtin.firstCells sz m x).run P w = .ok news.toArray w) (hroom : n + m ≤ cap) {w' : World}
    (hst : (match base with | some a => storeCells (a.add (n * sz)) news | none => Pure.pure ()).run P w = .ok () w') :
    (Builtin.append_ #[t, xt] ty #[.slice base n cap, x]).run P w = .ok (.slice base (n + m) cap) w' := by
  have hni := hx.pf
  unfold niOf at hni
  cases hu : P.underlying xt with
  | none => rw [hu] at hni; cases hni
  | some d =>
    rw [hu] at hni
    cases d <;> first
      | (cases hni; done)
      | (cases base with
         | none =>
           simp at hst
           subst hst
           simp [Builtin.append_, run_underlying ht.pf, hz.run, run_underlying hu, h1, h2, hroom]
         | some a =>
           simp only at hst
           simp [Builtin.append_, run_underlying ht.pf, hz.run, run_underlying hu, h1, h2, hroom, hst])
theorem run_append_new {P : Program} {t xt ty e sz by_ : Nat} {zs : List Value} (ht : EL P t e) (hz : SZ P e sz) (hby : BY P e by_) (hzv : ZV P e zs) (hx : NI P xt) {w : World} {base : Option Addr} {n cap m : Nat} {x : Value} {olds news : List Value}
    (h1 : (Builtin.lenOf x).run P w = .ok m w) (h2 : (Builtin.firstCells sz m x).run P w.drew = .ok news.toArray w.drew) (h3 : (Builtin.firstCells sz n (.slice base n cap)).run P w.drew = .ok olds.toArray w.drew)
    (hroom : cap < n + m) (hbytes : (n + m) * by_ ≤ 140737488355328) (h63 : n + m ≤ 9223372036854775807) :
    (Builtin.append_ #[t, xt] ty #[.slice base n cap, x]).run P w = .ok (.slice (some ⟨w.heap.size, 0, none⟩) (n + m) (grownCap w (n + m) cap e))
      (w.drew.alloc (.cells (olds.toArray ++ news.toArray ++ Builtin.zeroCells zs.toArray (grownCap w (n + m) cap e - (n + m))) e)) := by
  have hni := hx.pf
  unfold niOf at hni
  obtain ⟨z, hzr, hzc⟩ := hzv.run (w := w.drew)
  have hb := hby.pf
  cases hi : P.info? e with
  | none => rw [hi] at hb; cases hb
  | some i =>
    rw [hi] at hb
    simp only [Option.map_some, Option.some.injEq] at hb
    have hti : ∀ w, (typeInfo e).run P w = .ok i w := fun w => by simp [typeInfo, hi]
    have hfit := growslice_fits (need := n + m) (old := cap) (bytes := i.bytes) hroom (by rw [hb]; exact hbytes)
    have hfit' : ¬ (281474976710656 < Builtin.nextslicecap (n + m) cap * i.bytes) := by omega
    have hn : ¬ (n + m ≤ cap) := by omega
    have h63' : ¬ (9223372036854775807 < ((n : Int) + (m : Int))) := by omega
    cases hu : P.underlying xt with
    | none => rw [hu] at hni; cases hni
    | some d =>
      rw [hu] at hni
      cases d <;> first
        | (cases hni; done)
        | (simp [Builtin.append_, run_underlying ht.pf, hz.run, run_underlying hu, h1, hn, hti, h63', hfit', Question.forced, h2, h3, hzr, hzc, newRow, grownCap]; congr 2; apply Array.ext'; simp [List.append_assoc])
theorem oneCells_nil : oneCells [] := by intro v h; cases h
theorem Stp.append {P : Program} {n d : Nat} {x y : Operand} {t xt ty e' sz by_ : Nat} {zs : List Value} {pos : String} {after : Array Edge} {g : Option (Nat × Bool)} {e : Env} {C : List HP} {Φ : Env → List HP → Prop}
    {v u : Value} {k m : Nat} {xs news : List Value} [ht : EL P t e'] [hz : SZ P e' sz] [hby : BY P e' by_] [hzv : ZV P e' zs] [hni : NI P xt]
    (hx : evl e x = some v) (hy : evl e y = some u) (hs : Src P C sz u m news) (hnl : news.length = m * sz) (hone : oneCells news) (hbytes : (k + m) * by_ ≤ 140737488355328) (h63 : k + m ≤ 9223372036854775807) (hd : Nat.blt d n = true) (hzl : zs.length = sz)
    (hk : ∀ a' c', Φ (eset e d (.slice a' (k + m) c')) (rowA e' sz (.slice a' (k + m) c') (k + m) (xs ++ news) :: C)) :
    Stp P n ⟨some d, .call { callee := .builtin .append, args := [x, y].toArray, argTypes := [t, xt].toArray }, ty, pos, after, g⟩ e (rowA e' sz v k xs :: C) Φ := by
  intro F w a ds hl he K Q0 hK
  have hlC := hl.drop
  obtain ⟨h1, h2⟩ := hs F w hlC
  obtain ⟨_, h2'⟩ := hs F w.drew hlC.drew
  have fin : ∀ v' w', (Builtin.append_ #[t, xt] ty #[v, u]).run P w = .ok v' w' → Holds (rowA e' sz v' (k + m) (xs ++ news) :: C) F w' → Ext w w' →
      OpW P ⟨some d, .call { callee := .builtin .append, args := [x, y].toArray, argTypes := [t, xt].toArray }, ty, pos, after, g⟩ a w K Q0 := by
    intro v' w' hr hh hx'
    unfold OpW
    have : (execOp a.eval ⟨some d, .call { callee := .builtin .append, args := [x, y].toArray, argTypes := [t, xt].toArray }, ty, pos, after, g⟩).run P w = .ok (.value v') w' := by
      simp [execOp, resolve, invoke, builtin, he.eval hx, he.eval hy, hr]
    rw [this]
    obtain ⟨a', c', rfl⟩ := hh.fact fun r => rowA_shape
    exact hK _ _ _ _ (he.put _ hd) hh hx' (hk a' c')
  obtain ⟨r, tt, ⟨ra, rc, hj1, ⟨hxl, hrow⟩, hC⟩, hj2, hsat⟩ := hl
  have hlen : (xs ++ news).length = (k + m) * sz := by rw [List.length_append, hxl, hnl, Nat.add_mul]
  have grow : ∀ (base : Option Addr) (cap : Nat), v = .slice base k cap → (Builtin.firstCells sz k (.slice base k cap)).run P w.drew = .ok xs.toArray w.drew → cap < k + m →
      OpW P ⟨some d, .call { callee := .builtin .append, args := [x, y].toArray, argTypes := [t, xt].toArray }, ty, pos, after, g⟩ a w K Q0 := by
    intro base cap hv hold hroom
    subst hv
    have hr := run_append_new (ty := ty) ht hz hby hzv hni h1 h2' hold hroom hbytes h63
    refine fin _ _ hr ?_ ((Ext.drew w).trans (Ext.alloc _ _))
    have ha := Holds.alloc (.cells (xs.toArray ++ news.toArray ++ Builtin.zeroCells zs.toArray (grownCap w (k + m) cap e' - (k + m))) e') hlC.drew
    refine ha.imp fun r hr => ⟨hlen, .inr ⟨w.heap.size, 0, _, _, rfl, hr, grownCap_ge w (k + m) cap e', ?_, ?_⟩⟩
    · simp only [Array.size_append, List.size_toArray, size_zeroCells, hzl, hxl, hnl, Nat.zero_add, ← Nat.add_mul]
      have := grownCap_ge w (k + m) cap e'
      have h4 : k + m + (grownCap w (k + m) cap e' - (k + m)) = grownCap w (k + m) cap e' := by omega
      rw [h4]
      exact Nat.le_refl _
    · simp only [Array.toList_append, List.drop_zero, ← hlen]
      exact List.take_left' rfl
  rcases hrow with ⟨rfl, rfl⟩ | ⟨b, o, cap, cur, rfl, hb, hkc, hsz, htake⟩
  · have hx0 : xs = [] := List.eq_nil_of_length_eq_zero (by simpa using hxl)
    subst hx0
    by_cases hm : m = 0
    · subst hm
      have hn0 : news = [] := List.eq_nil_of_length_eq_zero (by simpa using hnl)
      subst hn0
      have hr := run_append_stay (ty := ty) (P := P) (w := w) (w' := w) (base := none) (n := 0) (cap := 0) ht hz hni h1 h2 (Nat.le_refl _) (by simp)
      exact fin _ _ hr ((hlC.rowA_nil e' sz)) (Ext.refl w)
    · exact grow none 0 rfl (by simp [Builtin.firstCells]) (by omega)
  · have hsees : w.heap[b]? = some (.cells cur e' (0, 0)) := hsat b _ (hj2.left (hj1.left hb))
    by_cases hroom : k + m ≤ cap
    · have hfit : o + k * sz + news.length ≤ cur.size := by
        have h5 := Nat.mul_le_mul_right sz hroom
        rw [hnl, Nat.add_assoc, ← Nat.add_mul]
        omega
      have hst := run_storeCells_at P b (o + k * sz) e' news 0 cur w hsees (by simpa using hfit) hone
      simp only [Nat.add_zero] at hst
      have hr := run_append_stay (ty := ty) (P := P) (w := w) (base := some ⟨b, o, none⟩) ht hz hni h1 h2 hroom (by simp only [addr_add]; exact hst)
      refine fin _ _ hr ?_ ⟨rfl, rfl, rfl, by simp [World.setRow]⟩
      have hblk : Holds (blk b (.cells cur e' (0, 0)) :: C) F w := ⟨r, tt, ⟨ra, rc, hj1, hb, hC⟩, hj2, hsat⟩
      refine (Holds.put (b := b) hblk (setRow_heap w b cur _ e' _ hsees) (fun k hk _ => setRow_old _ hk)).imp fun r' hr' => ⟨hlen, .inr ⟨b, o, cap, _, rfl, hr', hroom, ?_, ?_⟩⟩
      · simp only [List.size_toArray, List.length_append, List.length_take, List.length_drop, Array.length_toList]
        omega
      · have e1 : cur.toList.take (o + k * sz) = cur.toList.take o ++ xs := by
          rw [← htake, List.take_add]
        have e2 : (cur.toList.take o).length = o := by rw [List.length_take, Array.length_toList]; omega
        rw [e1, List.append_assoc, List.append_assoc, List.drop_left' e2, ← List.append_assoc, ← hlen]
        exact List.take_left' rfl
    · refine grow (some ⟨b, o, none⟩) cap rfl ?_ (by omega)
      refine run_firstCells_some (P := P) w.drew sz k ⟨b, o, none⟩ k cap xs hxl fun j u hj => ?_
      rw [addr_add]
      have hj' : j < k * sz := by have := (List.getElem?_eq_some_iff.1 hj).1; omega
      rw [← htake, List.getElem?_take, if_pos hj', List.getElem?_drop] at hj
      simp [World.cell?, heap_drew, hsees, ← Array.getElem?_toList, hj]
theorem fill_row {sz : Nat} : ∀ (vs : List Value) (k : Nat) (done todo : List Value), (∀ v ∈ vs, v.cells.size = sz) → done.length = k * sz → todo.length = vs.length * sz →
    Instr.fill (fun i => some (i * sz, sz)) (done ++ todo).toArray (vs.zipIdx k |>.map fun p => (p.2, p.1)) = some (done ++ (vs.map fun v => v.cells.toList).flatten).toArray
  | [], k, done, todo, _, _, h => by
    have : todo = [] := List.eq_nil_of_length_eq_zero (by simpa using h)
    simp [Instr.fill, this]
  | v :: vs, k, done, todo, hv, hd, ht => by
    have h1 := hv v (by simp)
    simp only [List.length_cons, Nat.add_mul, Nat.one_mul] at ht
    have ih := fill_row vs (k + 1) (done ++ v.cells.toList) (todo.drop sz) (fun u hu => hv u (by simp [hu])) (by simp [hd, h1, Nat.add_mul]) (by simp; omega)
    simp only [List.zipIdx_cons, List.map_cons, Instr.fill]
    rw [if_neg (by simp [h1, hd]; omega)]
    have h2 := foldl_lput v.cells.toList (done ++ todo).toArray (k * sz) 0 (by simp [h1, hd]; omega)
    simp only [Nat.add_zero] at h2
    have h3 : (v.cells.zipIdx.foldl (fun cs x => match x with | (c, j) => cs.setIfInBounds (k * sz + j) c) (done ++ todo).toArray) = (lput (done ++ todo) (k * sz) v.cells.toList).toArray := by
      rw [← Array.foldl_toList, Array.toList_zipIdx]
      exact h2
    rw [h3, lput_eq _ _ _ (by simp [h1, hd]; omega)]
    have e1 : (done ++ todo).take (k * sz) = done := by rw [← hd]; exact List.take_left' rfl
    have e2 : (done ++ todo).drop (k * sz + v.cells.toList.length) = todo.drop sz := by
      rw [← hd, List.drop_append]; simp [h1]
    rw [e1, e2]
    simpa [List.append_assoc] using ih
theorem Stp.slice {P : Program} {n d : Nat} {t ty e' sz : Nat} {pos : String} {after : Array Edge} {g : Option (Nat × Bool)} {e : Env} {l : List HP} {Φ : Env → List HP → Prop} {k : Nat} {ps : List (Nat × Operand)} {vs : List Value} {zs cs : List Value}
    [ht : EL P t e'] [hz : SZ P e' sz] [hzv : ZV P e' zs] (hx : evls e (ps.map (·.2)) = some vs) (hi : ps.map (·.1) = List.range k) (hsz : ∀ v ∈ vs, v.cells.size = sz) (hcs : (vs.map fun v => v.cells.toList).flatten = cs)
    (hsmall : k * sz ≤ 16777216) (hd : Nat.blt d n = true) (hk : ∀ b, Φ (eset e d (.slice (some ⟨b, 0, none⟩) k k)) (cel b e' cs :: l)) :
    Stp P n ⟨some d, .buildSlice t k ps.toArray, ty, pos, after, g⟩ e l Φ := by
  intro F w a ds hl he K Q0 hK
  have hev := he.evals hx
  have hkl : vs.length = k := by
    have h1 := congrArg List.length hi
    have h2 := congrArg List.length hev
    simp at h1 h2
    omega
  have hparts : (ps.toArray.map fun p => (p.1, a.eval p.2)).toList = (vs.zipIdx 0).map fun p => (p.2, p.1) := by
    simp only [List.map_toArray]
    apply List.ext_getElem?
    intro j
    simp only [List.getElem?_map, List.getElem?_zipIdx]
    have h3 : ps[j]?.map (·.1) = (List.range k)[j]? := by rw [← hi]; simp
    have h4 : ps[j]?.map (fun p => a.eval p.2) = vs[j]? := by rw [← hev]; simp [List.getElem?_map, Function.comp_def]
    cases hp : ps[j]? with
    | none => rw [hp] at h4; simp at h4; rw [List.getElem?_eq_none h4]; rfl
    | some p =>
      rw [hp] at h3 h4
      simp only [Option.map_some] at h3 h4 ⊢
      rw [← h4]
      have := (List.getElem?_eq_some_iff.1 h3.symm)
      obtain ⟨hj, h5⟩ := this
      simp at h5
      simp [h5]
  obtain ⟨z, hzr, hzc⟩ := hzv.run (w := w)
  have hsm : ¬ (k * sz > 2 ^ 24) := by have : (2 : Nat) ^ 24 = 16777216 := by decide
                                       omega
  have main : ∀ zc : Array Value, zc.size = k * sz → Instr.fill (fun i => some (i * sz, sz)) zc (ps.toArray.map fun p => (p.1, a.eval p.2)).toList = some cs.toArray := by
    intro zc hzcs
    rw [hparts]
    have := fill_row vs 0 [] zc.toList hsz (by simp) (by simp [hzcs, hkl])
    simp only [List.nil_append, hcs] at this
    simpa using this
  have hr : (execOp a.eval ⟨some d, .buildSlice t k ps.toArray, ty, pos, after, g⟩).run P w = .ok (.value (.slice (some ⟨w.heap.size, 0, none⟩) k k)) (w.alloc (.cells cs.toArray e')) := by
    have hm : (ps.toArray.map fun p => (p.1, a.eval p.2)) = (ps.toArray.map fun (i, x) => (i, a.eval x)) := rfl
    simp only [execOp, Instr.buildSlice, Sem.run_bind, run_underlying ht.pf, Result.andThen_ok, hz.run, hsm, if_false, Sem.run_pure]
    by_cases h0 : k * sz = 0
    · rw [if_pos h0]
      simp only [Sem.run_bind, Sem.run_pure, Result.andThen_ok]
      have := main ((Array.range (k * sz)).map ((#[] : Array Value)[· % (#[] : Array Value).size]!)) (by simp)
      rw [← hm, this]
      simp [newRow]
    · rw [if_neg h0]
      simp only [Sem.run_bind, hzr, Result.andThen_ok, Sem.run_pure]
      have := main ((Array.range (k * sz)).map (z.cells[· % z.cells.size]!)) (by simp)
      rw [← hm, this]
      simp [newRow]
  unfold OpW
  rw [hr]
  exact hK _ _ _ _ (he.put _ hd) (hl.alloc _) (Ext.alloc w _) (hk _)
theorem Trip.get {P : Program} {f : FuncId} {args : List Value} {p : HP} {l rest : List HP} {post : Value → List HP → Prop} {φ : Prop} (hp : Pk l p rest) (hφ : ∀ r, p r → φ) (h : φ → Trip P f args l post) : Trip P f args l post :=
  fun F w hl => h ((hl.perm hp).fact hφ) F w hl
theorem Wp.get {P : Program} {R : Rnd} {n : Nat} {Q : Exit → Env → List HP → Prop} {e : Env} {p : HP} {l rest : List HP} {c : Code} {φ : Prop} (hp : Pk l p rest) (hφ : ∀ r, p r → φ) (h : φ → Wp P R n c Q e l) : Wp P R n c Q e l :=
  fun F w a hs => h (let ⟨_, hp, _⟩ := hs.heapE (α := Unit) (φ := fun _ => φ) (f := fun _ => l) (fun F w hl => ⟨(), (hl.perm hp).fact hφ, hl⟩); hp) F w a hs
theorem WpL.get {P : Program} {n : Nat} {ops : Array Oper} {Q : Exit → Env → List HP → Prop} {e : Env} {p : HP} {l rest : List HP} {os : List Oper} {φ : Prop} (hp : Pk l p rest) (hφ : ∀ r, p r → φ) (h : φ → WpL P n ops Q os e l) : WpL P n ops Q os e l :=
  fun F w a ds hl he => h ((hl.perm hp).fact hφ) F w a ds hl he
theorem rowA_at {t : TypeId} {sz : Nat} {v : Value} {n : Nat} {xs : List Value} {r : Res} (i : Nat) (hi : i < n) (h : rowA t sz v n xs r) : ∃ b o cap, v = .slice (some ⟨b, o, none⟩) n cap := by
  rcases h.2 with ⟨rfl, rfl⟩ | ⟨b, o, cap, cur, rfl, _⟩
  · omega
  · exact ⟨b, o, cap, rfl⟩
theorem row_cell {l : List HP} {F : Res} {w : World} {t : TypeId} {sz n cap b o : Nat} {xs : List Value} (h : Holds (rowA t sz (.slice (some ⟨b, o, none⟩) n cap) n xs :: l) F w) (j : Nat) (u : Value) (hj : xs[j]? = some u) :
    w.cell? ⟨b, o + j, none⟩ = some u := by
  obtain ⟨r, ⟨hl, hr⟩, hs⟩ := h.sees
  rcases hr with ⟨h1, _⟩ | ⟨b', o', cap', cur, h1, hb, hnc, hsz, htake⟩
  · cases h1
  · simp only [Value.slice.injEq, Option.some.injEq, Addr.mk.injEq, and_true, true_and] at h1
    obtain ⟨⟨rfl, rfl⟩, rfl⟩ := h1
    have hw := hs b _ hb
    have hj' : j < n * sz := by have := (List.getElem?_eq_some_iff.1 hj).1; omega
    rw [← htake, List.getElem?_take, if_pos hj', List.getElem?_drop] at hj
    simp [World.cell?, hw, ← Array.getElem?_toList, hj]
theorem Lds.row {P : Program} {l : List HP} {t ty : TypeId} {sz n cap b o i : Nat} {xs pre cs post : List Value} [ha : AG P ty true] [hz : SZ P ty sz] (hx : xs = pre ++ (cs ++ post)) (hp : pre.length = i * sz) (hc : cs.length = sz) :
    Lds P (rowA t sz (.slice (some ⟨b, o, none⟩) n cap) n xs :: l) ⟨b, o + i * sz, none⟩ ty (.agg cs.toArray) := by
  intro F w hl
  subst hx
  have := run_loadCells_list (P := P) w ⟨b, o + i * sz, none⟩ cs (fun j v hj => by
    rw [addr_add, Nat.add_assoc]
    refine row_cell hl _ v ?_
    rw [← hp, List.getElem?_append_right (by omega), Nat.add_sub_cancel_left, List.getElem?_append_left (List.getElem?_eq_some_iff.1 hj).1]
    exact hj)
  rw [hc] at this
  simp [Instr.loadAt, Instr.sureAddr, loadVar, ha.run, hz.run, this]
theorem Lds.row1 {P : Program} {l : List HP} {t ty : TypeId} {n cap b o i : Nat} {xs : List Value} {v : Value} [ha : AG P ty false] (hx : xs[i]? = some v) :
    Lds P (rowA t 1 (.slice (some ⟨b, o, none⟩) n cap) n xs :: l) ⟨b, o + i * 1, none⟩ ty v := by
  intro F w hl
  have := row_cell hl i v hx
  simp [Instr.loadAt, Instr.sureAddr, loadVar, ha.run, this]
def Gh (l l' : List HP) : Prop := ∀ F w, Holds l F w → Holds l' F w
theorem Gh.mk {l l' : List HP} (h : ∀ F w, Holds l F w → Holds l' F w) : Gh l l' := h
theorem Gh.trans {a b c : List HP} (h : Gh a b) (k : Gh b c) : Gh a c := fun F w hl => k F w (h F w hl)
theorem Gh.conv {l rest : List HP} {p q : HP} (hp : Pk l p rest) (h : ∀ r, p r → q r) : Gh l (q :: rest) := fun F w hl => (hl.perm hp).imp h
theorem Gh.front {l rest : List HP} {p : HP} (hp : Pk l p rest) : Gh l (p :: rest) := fun F w hl => hl.perm hp
theorem Gh.drop {l rest : List HP} {p : HP} (hp : Pk l p rest) : Gh l rest := fun F w hl => (hl.perm hp).drop
theorem Gh.row {l rest : List HP} {b n : Nat} {t : TypeId} {sz : Nat} {cs : List Value} (hp : Pk l (cel b t cs) rest) (hl : cs.length = n * sz) : Gh l (rowA t sz (.slice (some ⟨b, 0, none⟩) n n) n cs :: rest) := Gh.conv hp (rowA_cel hl)
theorem Gh.nil {l : List HP} (t : TypeId) (sz : Nat) : Gh l (rowA t sz (.slice none 0 0) 0 [] :: l) := fun F w hl => hl.rowA_nil t sz
theorem Gh.tk {l l' rest : List HP} (h : Tk l l' rest) : Gh l l' := fun F w hl => (h F w hl).left_
theorem Ret.now {P : Program} {rs : List ResultVar} {post : Value → List HP → Prop} {e : Env} {l l' : List HP} {vs : List Value} (hr : ResV P e l rs vs) (hg : Gh l l') (hp : post (packed vs) l') : RetQ P rs post .ret e l := ⟨vs, l', hr, hp, hg⟩
theorem Ret.end_ {P : Program} {rs : List ResultVar} {post : Value → List HP → Prop} {e : Env} {l l' : List HP} {vs : List Value} (hr : ResV P e l rs vs) (hg : Gh l l') (hp : post (packed vs) l') : RetQ P rs post .normal e l := ⟨vs, l', hr, hp, hg⟩
theorem Gh.use {l l' : List HP} (h : Gh l l') {F : Res} {w : World} (hl : Holds l F w) : Holds l' F w := h F w hl
section
variable {P : Program} {R : Rnd} {n : Nat} {ops : Array Oper} {Q : Exit → Env → List HP → Prop} {e : Env} {l l' : List HP}
theorem Wp.gh {c : Code} (h : Gh l l') (k : Wp P R n c Q e l') : Wp P R n c Q e l := Wp.heap h k
theorem WpL.gh {rest : List Oper} (h : Gh l l') (k : WpL P n ops Q rest e l') : WpL P n ops Q rest e l := WpL.heap h k
theorem WpR.gh {m : Nat} {listed : Array Bool} (h : Gh l l') (k : WpR P n ops Q m listed e l') : WpR P n ops Q m listed e l := WpR.heap h k
end
def GhE {α : Type} (l : List HP) (φ : α → Prop) (f : α → List HP) : Prop := ∀ F w, Holds l F w → ∃ x, φ x ∧ Holds (f x) F w
theorem GhE.mk {α : Type} {l : List HP} {φ : α → Prop} {f : α → List HP} (h : ∀ F w, Holds l F w → ∃ x, φ x ∧ Holds (f x) F w) : GhE l φ f := h
theorem GhE.use {α : Type} {l : List HP} {φ : α → Prop} {f : α → List HP} (h : GhE l φ f) {F : Res} {w : World} (hl : Holds l F w) : ∃ x, φ x ∧ Holds (f x) F w := h F w hl
section
variable {P : Program} {R : Rnd} {n : Nat} {ops : Array Oper} {Q : Exit → Env → List HP → Prop} {e : Env} {l : List HP} {α : Type} {φ : α → Prop} {f : α → List HP}
theorem Wp.ghE {c : Code} (h : GhE l φ f) (k : ∀ x, φ x → Wp P R n c Q e (f x)) : Wp P R n c Q e l := fun F w a hs => let ⟨x, hx, hl'⟩ := hs.heapE h; k x hx F w a hl'
theorem WpL.ghE {rest : List Oper} (h : GhE l φ f) (k : ∀ x, φ x → WpL P n ops Q rest e (f x)) : WpL P n ops Q rest e l := fun F w a ds hl he => let ⟨x, hx, hl'⟩ := h F w hl; k x hx F w a ds hl' he
theorem Trip.ghE {fn : FuncId} {args : List Value} {post : Value → List HP → Prop} (h : GhE l φ f) (k : ∀ x, φ x → Trip P fn args (f x) post) : Trip P fn args l post := fun F w hl => let ⟨x, hx, hl'⟩ := h F w hl; k x hx F w hl'
end
theorem GhE.open_ {α : Type} {l rest : List HP} {f : α → List HP} (hp : Pk l (exH fun x => starH (f x)) rest) : GhE l (fun _ : α => True) (fun x => f x ++ rest) :=
  fun F w hl => let ⟨x, hx⟩ := (hl.perm hp).open_ex; ⟨x, trivial, hx.open_star⟩
theorem Gh.shut {α : Type} {l rest : List HP} {f : α → List HP} (x : α) (hp : Tk l (f x) rest) : Gh l ((exH fun x => starH (f x)) :: rest) :=
  fun F w hl => Holds.shut_ex x (Holds.shut_star (hp F w hl))
def EnvSub : Env → Env → Prop
  | [], _ => True
  | (i, v) :: r, e => elook e i = some v ∧ EnvSub r e
theorem EnvSub.look : ∀ {e1 e : Env}, EnvSub e1 e → ∀ i v, elook e1 i = some v → elook e i = some v
  | [], _, _, i, v, h => by simp [elook] at h
  | (j, u) :: r, e, ⟨h1, h2⟩, i, v, h => by
    simp only [elook] at h
    cases hb : Nat.beq j i with
    | true =>
      rw [hb] at h
      simp only [cond_true, Option.some.injEq] at h
      subst h
      rw [← Nat.eq_of_beq_eq_true hb]
      exact h1
    | false =>
      rw [hb] at h
      exact EnvSub.look h2 i v h
theorem Wp.sub {P : Program} {R : Rnd} {n : Nat} {Q : Exit → Env → List HP → Prop} {e e1 : Env} {l : List HP} {c : Code} (hs : EnvSub e1 e) (h : Wp P R n c Q e1 l) : Wp P R n c Q e l := Wp.env hs.look h
theorem Wp.loopE {P : Program} {R : Rnd} {n : Nat} {Q : Exit → Env → List HP → Prop} {e e0 : Env} {l l0 : List HP} {c : Code} (I : Nat → Env → List HP → Prop) (k : Nat) (hs0 : EnvSub e0 e) (hself : EnvSub e0 e0) (hg0 : Gh l l0) (h0 : I k e0 l0)
    (hs : ∀ k e l, I k e l → Wp P R n c (Thn (fun e' l' => ∃ j e1 l1, j < k ∧ I j e1 l1 ∧ EnvSub e1 e' ∧ Gh l' l1) Q) e l) : Wp P R n (.loop c) Q e l := by
  refine Wp.gh hg0 (Wp.sub hs0 (Wp.loop (fun k e l => ∃ e1 l1, I k e1 l1 ∧ EnvSub e1 e ∧ Gh l l1) k ⟨e0, l0, h0, ?_, fun _ _ h => h⟩ ?_))
  · exact hself
  · rintro k e l ⟨e1, l1, hi, hsub, hgh⟩
    refine Wp.gh hgh (Wp.sub hsub (Wp.mono (hs k e1 l1 hi) ?_))
    intro x e' l' hq
    cases x
    case normal =>
      obtain ⟨j, e2, l2, hj, hi2, hs2, hg2⟩ := hq
      exact ⟨j, hj, e2, l2, hi2, hs2, hg2⟩
    all_goals exact hq
theorem Trip.gh {P : Program} {f : FuncId} {args : List Value} {l l' : List HP} {post : Value → List HP → Prop} (h : Gh l l') (k : Trip P f args l' post) : Trip P f args l post := fun F w hl => k F w (h F w hl)
theorem Stp.gh {P : Program} {n : Nat} {o : Oper} {e : Env} {l l' : List HP} {Φ : Env → List HP → Prop} (h : Gh l l') (k : Stp P n o e l' Φ) : Stp P n o e l Φ := fun F w a ds hl he => k F w a ds (h F w hl) he
theorem Stp.append0 {P : Program} {n d : Nat} {x y : Operand} {t xt ty e' sz by_ : Nat} {zs : List Value} {pos : String} {after : Array Edge} {g : Option (Nat × Bool)} {e : Env} {C : List HP} {Φ : Env → List HP → Prop}
    {v u : Value} {m : Nat} {news : List Value} [ht : EL P t e'] [hz : SZ P e' sz] [hby : BY P e' by_] [hzv : ZV P e' zs] [hni : NI P xt]
    (hx : evl e x = some v) (hy : evl e y = some u) (hs : Src P C sz u m news) (hnl : news.length = m * sz) (hone : oneCells news) (hbytes : m * by_ ≤ 140737488355328) (h63 : m ≤ 9223372036854775807) (hd : Nat.blt d n = true) (hzl : zs.length = sz)
    (hk : ∀ a' c', Φ (eset e d (.slice a' m c')) (rowA e' sz (.slice a' m c') m news :: C)) :
    Stp P n ⟨some d, .call { callee := .builtin .append, args := [x, y].toArray, argTypes := [t, xt].toArray }, ty, pos, after, g⟩ e (rowA e' sz v 0 [] :: C) Φ :=
  Stp.append hx hy hs hnl hone (by simpa using hbytes) (by simpa using h63) hd hzl (fun a' c' => by simpa using hk a' c')
theorem Trip.via {P : Program} {f : FuncId} {args : List Value} {l pre rest : List HP} {post post' : Value → List HP → Prop} (h : Trip P f args pre post) (hp : Tk l pre rest)
    (hk : ∀ v l', post v l' → ∃ l'', post' v l'' ∧ Gh (l' ++ rest) l'') : Trip P f args l post' := by
  intro F w hl
  obtain ⟨G, h1, h2⟩ := (hp F w hl).frame
  refine (h G w h1).mono ?_
  rintro e w' ⟨v, l', he, hpo, hl', hx⟩
  obtain ⟨l'', h3, h4⟩ := hk v l' hpo
  exact ⟨v, l'', he, h3, h4 F w' (h2 l' w' hl'), hx⟩
theorem Tk.use {l pre rest : List HP} (h : Tk l pre rest) {F : Res} {w : World} (hl : Holds l F w) : Holds (pre ++ rest) F w := h F w hl
theorem Tk.mk {l pre rest : List HP} (h : ∀ F w, Holds l F w → Holds (pre ++ rest) F w) : Tk l pre rest := h
theorem Tk.rfl_ {l : List HP} : Tk l l [] := fun _ _ h => by simpa using h
theorem Trip.use {P : Program} {f : FuncId} {args : List Value} {pre : List HP} {post : Value → List HP → Prop} (h : Trip P f args pre post) (F : Res) (w : World) (hl : Holds pre F w) :
    Calls P f args.toArray w fun e w' => ∃ v l, e = .returned v ∧ post v l ∧ Holds l F w' ∧ Ext w w' := h F w hl
def slA (b o l m s : Nat) : Addr := if m = l then ⟨b, o, none⟩ else ⟨b, o + l * s, none⟩
theorem slA_ne {b o l m s : Nat} (h : m ≠ l) : slA b o l m s = ⟨b, o + l * s, none⟩ := by simp [slA, h]
theorem slA_zero {b o m s : Nat} : slA b o 0 m s = ⟨b, o, none⟩ := by simp [slA]
theorem EL.eq {P : Program} {t e : Nat} (h : EL P t e) : P.underlying t = some (.slice (P.elem t)) ∧ P.elem t = e := by
  have := h.pf
  have h2 : P.elem t = e := by simp [Program.elem, this]
  exact ⟨by rw [h2]; exact this, h2⟩
section
variable {P : Program} {e : Env} {C : List HP} {t ty e' s : Nat} {x lo hi mx : Operand} {b o n cap : Nat} {k k' k'' : IntKind} {li h_ mi : Int} (l h m : Nat)
theorem sliced_slA : sliced (some ⟨b, o, none⟩) l h m s = .slice (some (slA b o l m s)) (h - l) (m - l) := by
  unfold sliced slA
  split <;> simp [addr_add]
theorem Rdo.sl_lh [ht : EL P t e'] [hs : SZ P e' s] (hx : evl e x = some (.slice (some ⟨b, o, none⟩) n cap)) (hl : evl e lo = some (.int k li)) (hh : evl e hi = some (.int k' h_)) (h1 : li = l) (h2 : h_ = h) (h3 : l ≤ h) (h4 : h ≤ cap) :
    Rdo P e C (.slice t x (some lo) (some hi) none) ty (.slice (some (slA b o l cap s)) (h - l) (cap - l)) := by
  intro G w a n' dst pos after g hG he
  subst h1 h2
  have hsz := hs.run (w := w)
  rw [← (EL.eq ht).2] at hsz
  simp only [execOp, he.eval hx, he.eval hl, he.eval hh, Option.map_some, Option.map_none, run_sliceAt_slice w t _ _ _ _ (EL.eq ht).1, Sem.run_bind]
  rw [run_slice_lh w t _ n cap (EL.eq ht).1 k k' _ _ (by omega) (by omega) (by omega)]
  simp only [hsz, Result.andThen_ok, Sem.run_pure, Int.toNat_natCast, sliced_slA]
theorem Rdo.sl_h [ht : EL P t e'] [hs : SZ P e' s] (hx : evl e x = some (.slice (some ⟨b, o, none⟩) n cap)) (hh : evl e hi = some (.int k' h_)) (h2 : h_ = h) (h4 : h ≤ cap) :
    Rdo P e C (.slice t x none (some hi) none) ty (.slice (some ⟨b, o, none⟩) h cap) := by
  intro G w a n' dst pos after g hG he
  subst h2
  have hsz := hs.run (w := w)
  rw [← (EL.eq ht).2] at hsz
  simp only [execOp, he.eval hx, he.eval hh, Option.map_some, Option.map_none, run_sliceAt_slice w t _ _ _ _ (EL.eq ht).1, Sem.run_bind]
  rw [run_slice_h w t _ n cap (EL.eq ht).1 k' _ (by omega) (by omega)]
  simp only [hsz, Result.andThen_ok, Sem.run_pure, Int.toNat_natCast, sliced_slA, slA_zero, Nat.sub_zero]
theorem Rdo.sl_l [ht : EL P t e'] [hs : SZ P e' s] (hx : evl e x = some (.slice (some ⟨b, o, none⟩) n cap)) (hl : evl e lo = some (.int k li)) (h1 : li = l) (h3 : l ≤ n) :
    Rdo P e C (.slice t x (some lo) none none) ty (.slice (some (slA b o l cap s)) (n - l) (cap - l)) := by
  intro G w a n' dst pos after g hG he
  subst h1
  have hsz := hs.run (w := w)
  rw [← (EL.eq ht).2] at hsz
  simp only [execOp, he.eval hx, he.eval hl, Option.map_some, Option.map_none, run_sliceAt_slice w t _ _ _ _ (EL.eq ht).1, Sem.run_bind]
  rw [run_slice_l w t _ n cap (EL.eq ht).1 k _ (by omega) (by omega)]
  simp only [hsz, Result.andThen_ok, Sem.run_pure, Int.toNat_natCast, sliced_slA]
end
section
theorem GhE.rowOpen {l rest : List HP} {t : TypeId} {sz b o n cap : Nat} {xs : List Value} (hp : Pk l (rowA t sz (.slice (some ⟨b, o, none⟩) n cap) n xs) rest) :
    GhE l (fun x : List Value × List Value => xs.length = n * sz ∧ x.1.length = o ∧ n ≤ cap ∧ cap * sz ≤ xs.length + x.2.length) (fun x => cel b t (x.1 ++ (xs ++ x.2)) :: rest) := by
  intro F w hl
  have h1 := hl.perm hp
  obtain ⟨r, tt, ⟨ra, rc, hj1, ⟨hxl, hrow⟩, hC⟩, hj2, hsat⟩ := h1
  rcases hrow with ⟨h, _⟩ | ⟨b', o', cap', cur, h, hb, hnc, hsz, htake⟩
  · cases h
  · simp only [Value.slice.injEq, Option.some.injEq, Addr.mk.injEq, and_true, true_and] at h
    obtain ⟨⟨rfl, rfl⟩, rfl⟩ := h
    have hcur : cur.toList = cur.toList.take o ++ (xs ++ (cur.toList.drop o).drop (n * sz)) := by
      rw [← htake, List.take_append_drop, List.take_append_drop]
    refine ⟨(cur.toList.take o, (cur.toList.drop o).drop (n * sz)), ⟨hxl, ?_, hnc, ?_⟩, r, tt, ⟨ra, rc, hj1, ?_, hC⟩, hj2, hsat⟩
    · simp; omega
    · have : n * sz ≤ cap * sz := Nat.mul_le_mul_right _ hnc
      simp [hxl]; omega
    · show ra b = _
      rw [hb, ← hcur]
theorem Gh.rowShut {l rest : List HP} {t : TypeId} {sz b o n cap : Nat} {A xs B : List Value} (hp : Pk l (Go.Proofs.YtomijhgicennbaaGreat.cel b t (A ++ (xs ++ B))) rest) (h1 : xs.length = n * sz) (h2 : A.length = o) (h3 : n ≤ cap) (h4 : cap * sz ≤ xs.length + B.length) :
    Gh l (rowA t sz (.slice (some ⟨b, o, none⟩) n cap) n xs :: rest) :=
  Gh.conv hp fun r hr => ⟨h1, .inr ⟨b, o, cap, _, rfl, hr, h3, by simp; omega, by simp [← h2, ← h1]⟩⟩
end
section
theorem Src.piece {P : Program} {l : List HP} {t : TypeId} {sz b off m c : Nat} {A news B : List Value} (hl : news.length = m * sz) (ho : A.length = off) : Src P (Go.Proofs.YtomijhgicennbaaGreat.cel b t (A ++ (news ++ B)) :: l) sz (.slice (some ⟨b, off, none⟩) m c) m news :=
  Src.of_cells hl fun F w hC j v hj => by
    have : hasCells w b (A ++ (news ++ B)) := ⟨_, _, cel_sees hC⟩
    rw [this.cell, List.getElem?_append_right (by omega), ← ho, Nat.add_sub_cancel_left, List.getElem?_append_left (List.getElem?_eq_some_iff.1 hj).1]
    exact hj
end
section
end
theorem Sts.piece {P : Program} {l : List HP} {b off : Nat} {t : TypeId} {A old B vs : List Value} (hone : oneCells vs) (ho : A.length = off) (hl : vs.length = old.length) :
    Sts P (cel b t (A ++ (old ++ B)) :: l) ⟨b, off, none⟩ vs (cel b t (A ++ (vs ++ B)) :: l) := by
  have := Sts.here (P := P) (l := l) (b := b) (off := off) (t := t) hone (cs := A ++ (old ++ B)) (by simp; omega)
  rw [lput_eq _ _ _ (by simp; omega)] at this
  rw [List.take_left' ho, List.append_assoc, show (A ++ (old ++ B)).drop (off + vs.length) = B by rw [← List.append_assoc]; exact List.drop_left' (by simp; omega)] at this
  exact this
def Bor (l see : List HP) : Prop := ∃ K, Gh l (see ++ K) ∧ Gh (see ++ K) l
theorem Bor.nil (l : List HP) : Bor l [] := ⟨l, fun _ _ h => h, fun _ _ h => h⟩
theorem Bor.tk {l see K : List HP} (h : Tk l see K) (k : Gh (see ++ K) l) : Bor l see := ⟨K, h, k⟩
def IterOK (P : Program) (gf : FuncId) (cap : List Value) {α : Type} (enc : α → List Value) (see own : List HP) (S : List α → Prop) : Prop :=
  ∀ (Y : Value) (J Jx : List α → List HP → Prop),
    (∀ pre x rest l, S (pre ++ x :: rest) → J pre l → TripV P Y (enc x) l fun r l' => (r = .bool true ∧ J (pre ++ [x]) l') ∨ (r = .bool false ∧ Jx (pre ++ [x]) l')) →
    ∀ l0, J [] l0 → Bor l0 see →
      Trip P gf (Y :: cap) (l0 ++ own) fun _ l => (∃ xs l', S xs ∧ J xs l' ∧ l = l' ++ own) ∨ (∃ pre l', Jx pre l' ∧ l = l' ++ own)
inductive Jump where
  | ret
  | exit (id : Nat)
def Jump.code : Jump → Code
  | .ret => .ret
  | .exit id => .exit id
def Jump.ex : Jump → Exit
  | .ret => .ret
  | .exit id => .exit id
def RoundQ {α : Type} (I : List α → List HP → Prop) (X : Jump → List α → List HP → Prop) (xs : List α) : Exit → Env → List HP → Prop
  | .normal, _, l => ∃ l', Gh l l' ∧ I xs l'
  | .ret, _, l => ∃ l', Gh l l' ∧ X .ret xs l'
  | .exit id, _, l => ∃ l', Gh l l' ∧ X (.exit id) xs l'
  | _, _, _ => False
def esets : Env → List Nat → List Value → Env
  | e, p :: ps, v :: vs => esets (eset e p v) ps vs
  | e, _, _ => e
theorem EnvAt.sets {n : Nat} : ∀ {ps : List Nat} {vs : List Value} {e : Env} {a : Act}, EnvAt n e a → (ps.all fun p => Nat.blt p n) = true → vs.length = ps.length →
    EnvAt n (esets e ps vs) { tmps := (ps.zip vs).foldl (fun t (x : Nat × Value) => t.setIfInBounds x.1 x.2) a.tmps, defers := [] }
  | [], vs, e, a, h, _, hl => by
    have : vs = [] := List.eq_nil_of_length_eq_zero (by simpa using hl)
    subst this
    exact ⟨by simpa using h.size, by simpa [esets] using h.at_⟩
  | p :: ps, [], e, a, h, _, hl => by simp at hl
  | p :: ps, v :: vs, e, a, h, hp, hl => by
    simp only [List.all_cons, Bool.and_eq_true] at hp
    have := EnvAt.sets (ps := ps) (vs := vs) (h.put v hp.1) hp.2 (by simpa using hl)
    simpa [esets, Act.put] using this
theorem yield_ok {P : Program} {n : Nat} {α : Type} {I : List α → List HP → Prop} {X : Jump → List α → List HP → Prop} {pre : List α} {x : α} {e : Env} {vs : List Value} {ps : List Nat} {assign body : Code} {lp : Nat} {rec : LoopState → Option Code → Loop} {l : List HP}
    {fn D : Nat} {tm : Array Value} (hrec : rec = fun st pe => { state := st, pending := pe, fn := fn, tmps := tm, params := ps.toArray, assign, body, defers := D }) {a0 : Act} (ha0 : EnvAt n e a0) (htm : a0.tmps = tm) (hlen : vs.length = ps.length) (hps : (ps.all fun p => Nat.blt p n) = true)
    (hassign : ∀ st pe, Wp P (some (lp, rec st pe)) n assign (fun ex e1 l1 => ex = .normal ∧ ∀ st pe, Wp P (some (lp, rec st pe)) n body (RoundQ I X (pre ++ [x])) e1 l1) (esets e ps vs) l) :
    TripV P (.func (.yield lp) #[] #[]) vs (blk lp (.loop (rec .ready none)) :: l) fun r l' =>
      (r = .bool true ∧ ∃ l1, I (pre ++ [x]) l1 ∧ l' = blk lp (.loop (rec .ready none)) :: l1) ∨ (r = .bool false ∧ ∃ j l1, X j (pre ++ [x]) l1 ∧ l' = blk lp (.loop (rec .done (some j.code))) :: l1) := by
  intro F w hl o a K Q0 hK
  have hL : w.heap[lp]? = some (.loop (rec .ready none)) := by obtain ⟨r, hr, hs⟩ := hl.sees; exact hs lp _ hr
  have hy := run_yield (P := P) (args := vs.toArray) hL (by rw [hrec]; simp [hlen])
  have hr : (do let d ← Deferred.ofValue (.func (.yield lp) #[] #[]) vs.toArray; invoke d.target d.args : Sem Next).run P w =
      .ok (.round lp (rec .ready none).fn (((rec .ready none).params.zip vs.toArray).foldl (fun tmps (t, a) => tmps.setIfInBounds t a) (rec .ready none).tmps) (rec .ready none).assign (rec .ready none).body) w := by
    simp only [Deferred.ofValue, invoke, Sem.run_bind, Sem.run_pure, Result.andThen_ok, Array.empty_append]
    exact hy
  rw [hr]
  refine ⟨by simp [Fence.wide], ?_⟩
  have hrec1 : (rec .ready none).assign = assign := by rw [hrec]
  have hrec2 : (rec .ready none).body = body := by rw [hrec]
  have hrec3 : (rec .ready none).params = ps.toArray := by rw [hrec]
  have hrec4 : (rec .ready none).tmps = tm := by rw [hrec]
  rw [hrec1, hrec2, hrec3, hrec4]
  refine roundIn_of_wpIn trivial ?_
  -- the assignment
  have hE := ha0.sets hps hlen
  rw [htm] at hE
  have hfold : (ps.toArray.zip vs.toArray).foldl (fun tmps (x : Nat × Value) => match x with | (t, a) => tmps.setIfInBounds t a) tm = (ps.zip vs).foldl (fun t (x : Nat × Value) => t.setIfInBounds x.1 x.2) tm := by simp
  have hS : Sta n (some (lp, rec .ready none)) (esets e ps vs) l F { tmps := (ps.toArray.zip vs.toArray).foldl (fun tmps (x : Nat × Value) => match x with | (t, a) => tmps.setIfInBounds t a) tm, defers := [] } w :=
    ⟨[], ⟨by rw [hfold]; exact hE, rfl⟩, hl.perm (List.perm_append_comm (l₁ := [blk lp (.loop (rec .ready none))]) (l₂ := l))⟩
  refine wpIn_mono (hassign .ready none F w _ hS) ?_
  rintro ex a1 w1 ⟨hc, e1, l1, hs1, hx1, rfl, hbody⟩
  obtain ⟨Ds, he1, hl1⟩ := hs1
  -- the round begins
  have hl1' : Holds (blk lp (.loop (rec .ready none)) :: (l1 ++ Ds.map fun D => blk D (.deferred (some [])))) F w1 := hl1.perm List.perm_middle
  have hL1 : w1.heap[lp]? = some (.loop (rec .ready none)) := by obtain ⟨r, hr, hs⟩ := hl1'.sees; exact hs lp _ hr
  refine ⟨_, run_beginRound hL1 (by rw [hrec]), ?_⟩
  have hlt1 : lp < w1.heap.size := (Array.getElem?_eq_some_iff.1 hL1).1
  have hbusy : ({ rec .ready none with state := .busy } : Loop) = rec .busy none := by rw [hrec]
  rw [hbusy]
  have hl2 : Holds (blk lp (.loop (rec .busy none)) :: (l1 ++ Ds.map fun D => blk D (.deferred (some [])))) F (w1.putObj lp (.loop (rec .busy none))) :=
    Holds.put hl1' (World.putObj_heap_same hlt1) fun k hk _ => World.putObj_heap_other hk
  refine wpIn_mono (hbody .busy none F _ a1 ⟨Ds, he1, hl2.perm List.perm_middle.symm⟩) ?_
  rintro ex a2 w2 ⟨hc2, e2, l2, ⟨Ds2, he2, hl3⟩, hx2, hq⟩
  have fin : ∀ (jump : Option Code) (l3 : List HP), Gh l2 l3 → ∃ v w3, (Instr.endRound lp jump).run P w2 = .ok v w3 ∧ v = .bool jump.isNone ∧
      Holds (blk lp (.loop (rec (if jump.isNone then .ready else .done) jump)) :: l3) F w3 ∧ Ext w w3 := by
    intro jump l3 hg
    have hl4 : Holds (blk lp (.loop (rec .busy none)) :: (l2 ++ Ds2.map fun D => blk D (.deferred (some [])))) F w2 := hl3.perm List.perm_middle
    have hL2 : w2.heap[lp]? = some (.loop (rec .busy none)) := by obtain ⟨r, hr, hs⟩ := hl4.sees; exact hs lp _ hr
    have hlt2 : lp < w2.heap.size := (Array.getElem?_eq_some_iff.1 hL2).1
    have hrn := run_endRound (P := P) jump hL2
    have hnew : ({ rec .busy none with state := if jump.isNone then .ready else .done, pending := jump } : Loop) = rec (if jump.isNone then .ready else .done) jump := by rw [hrec]
    rw [hnew] at hrn
    refine ⟨_, _, hrn, rfl, ?_, (hx1.trans (⟨rfl, rfl, rfl, by simp⟩ : Ext w1 (w1.putObj lp (.loop (rec .busy none))))).trans (hx2.trans ⟨rfl, rfl, rfl, by simp⟩)⟩
    have hl5 : Holds (blk lp (.loop (rec (if jump.isNone then .ready else .done) jump)) :: (l2 ++ Ds2.map fun D => blk D (.deferred (some [])))) F (w2.putObj lp (.loop (rec (if jump.isNone then .ready else .done) jump))) :=
      Holds.put hl4 (World.putObj_heap_same hlt2) fun k hk _ => World.putObj_heap_other hk
    have hl6 : Holds ((blk lp (.loop (rec (if jump.isNone then .ready else .done) jump)) :: l2) ++ Ds2.map fun D => blk D (.deferred (some []))) F (w2.putObj lp (.loop (rec (if jump.isNone then .ready else .done) jump))) := hl5
    obtain ⟨G, h1, h2⟩ := Holds.frameR (l1 := [blk lp (.loop (rec (if jump.isNone then .ready else .done) jump))]) (l2 := l2) hl6.left_
    exact h2 _ _ (hg _ _ h1)
  cases ex with
  | normal =>
    obtain ⟨l3, hg, hi⟩ := hq
    obtain ⟨v, w3, h1, rfl, h3, h4⟩ := fin none l3 hg
    exact ⟨_, _, h1, hK _ _ ⟨_, .inl ⟨rfl, l3, hi, rfl⟩, h3, h4⟩⟩
  | ret =>
    obtain ⟨l3, hg, hi⟩ := hq
    obtain ⟨v, w3, h1, rfl, h3, h4⟩ := fin (some .ret) l3 hg
    exact ⟨_, _, h1, hK _ _ ⟨_, .inr ⟨rfl, .ret, l3, hi, rfl⟩, h3, h4⟩⟩
  | exit id =>
    obtain ⟨l3, hg, hi⟩ := hq
    obtain ⟨v, w3, h1, rfl, h3, h4⟩ := fin (some (.exit id)) l3 hg
    exact ⟨_, _, h1, hK _ _ ⟨_, .inr ⟨rfl, .exit id, l3, hi, rfl⟩, h3, h4⟩⟩
  | goto t => exact hq.elim
  | panic c => exact hq.elim
  | outgrown => exact hq.elim
theorem Wp.rangeFunc {P : Program} {R : Rnd} {n : Nat} {Q : Exit → Env → List HP → Prop} {e : Env} {l : List HP} {g : Operand} {ps : List Nat} {assign body : Code} {gf : FuncId} {cap : List Value} {α : Type} {enc : α → List Value} {see own : List HP} {S : List α → Prop}
    (hg : evl e g = some (.func (.func gf) #[] cap.toArray)) (hf : callable P gf = true) (hit : IterOK P gf cap enc see own S) (hlen : ∀ x, (enc x).length = ps.length) (hps : (ps.all fun p => Nat.blt p n) = true)
    (I : List α → List HP → Prop) (X : Jump → List α → List HP → Prop) {l0 : List HP} (hl0 : Gh l (l0 ++ own)) (h0 : I [] l0) (hsee : Bor l0 see)
    (hround : ∀ (lp : Nat) (rec : LoopState → Option Code → Loop) pre x rest l, S (pre ++ x :: rest) → I pre l → ∀ st pe,
      Wp P (some (lp, rec st pe)) n assign (fun ex e1 l1 => ex = .normal ∧ ∀ st pe, Wp P (some (lp, rec st pe)) n body (RoundQ I X (pre ++ [x])) e1 l1) (esets e ps (enc x)) l)
    (hdone : ∀ xs l', S xs → I xs l' → Q .normal e (l' ++ own))
    (hstop : ∀ j pre l', X j pre l' → Q j.ex e (l' ++ own)) : Wp P R n (.rangeFunc g ps.toArray assign body) Q e l := by
  intro F w a ⟨Ds, he, hl⟩
  refine wpIn_rangeFunc ?_
  intro fn _
  -- the record is laid
  have enter : ∃ (lp : Nat) (mark : List Deferred) (w1 : World) (Ds1 : List Nat) (D : Nat) (rec : LoopState → Option Code → Loop), (Instr.enterLoop fn a.tmps ps.toArray assign body (wf R).round).run P w = .ok (lp, mark) w1 ∧
      rec = (fun st pe => { state := st, pending := pe, fn := fn, tmps := a.tmps, params := ps.toArray, assign, body, defers := D }) ∧
      mark ++ a.defers = marks Ds1 ∧ Holds (blk lp (.loop (rec .ready none)) :: (l ++ hid R Ds1)) F w1 ∧ Ext w w1 := by
    cases R with
    | none =>
      refine ⟨_, _, _, w.heap.size :: Ds, w.heap.size, _, run_enterLoop_outer fn a.tmps ps.toArray assign body, rfl, by simp [marks, he.defers], ?_, (Ext.alloc _ _).trans (Ext.alloc _ _)⟩
      have h1 := Holds.alloc (.deferred (some [])) hl
      have h2 := Holds.alloc (.loop { state := .ready, pending := none, fn := fn, tmps := a.tmps, params := ps.toArray, assign, body, defers := w.heap.size }) h1
      rw [World.size_alloc] at h2
      refine h2.perm (List.Perm.cons _ ?_)
      simp only [hid, hidR, List.nil_append, List.map_cons]
      exact List.perm_middle.symm
    | some lr =>
      obtain ⟨l₀, r₀⟩ := lr
      have h0' : Holds (blk l₀ (.loop r₀) :: (l ++ Ds.map fun D => blk D (.deferred (some [])))) F w := hl.perm List.perm_middle
      have hL0 : w.heap[l₀]? = some (.loop r₀) := by obtain ⟨r, hr, hs⟩ := h0'.sees; exact hs l₀ _ hr
      refine ⟨_, _, _, Ds, r₀.defers, _, run_enterLoop_inner hL0 fn a.tmps ps.toArray assign body, rfl, by simp [he.defers], ?_, Ext.alloc _ _⟩
      exact Holds.alloc _ hl
  obtain ⟨lp, mark, w1, Ds1, D, rec, hrun, hrec, hmark, hh1, hx1⟩ := enter
  refine ⟨lp, mark, w1, { target := .fn (.func gf) cap.toArray, args := #[.func (.yield lp) #[] #[]] }, w1, gf, #[.func (.yield lp) #[] #[]] ++ cap.toArray, w1, hrun, ?_, fun _ _ => trivial, ?_, by simp [wf, Fence.wide], ?_⟩
  · have hev := he.eval hg
    simp only [resolve, hev]
    simp [Deferred.ofValue, Act.eval]
  · simp [invoke, run_callFunc hf]
  -- the iterator's call
  let H := hid R Ds1
  have key := hit (.func (.yield lp) #[] #[]) (fun pre l => ∃ l', I pre l' ∧ l = blk lp (.loop (rec .ready none)) :: l') (fun pre l => ∃ j l', X j pre l' ∧ l = blk lp (.loop (rec .done (some j.code))) :: l')
    (fun pre x rest l hS ⟨l', hi, hl'⟩ => by
      subst hl'
      exact yield_ok hrec he.toEnvAt rfl (hlen x) hps (fun st pe => hround lp rec pre x rest l' hS hi st pe))
    (blk lp (.loop (rec .ready none)) :: l0) ⟨l0, h0, rfl⟩ (by
      obtain ⟨K, h1, h2⟩ := hsee
      refine ⟨blk lp (.loop (rec .ready none)) :: K, fun F w hl => ?_, fun F w hl => ?_⟩
      · obtain ⟨G, h3, h4⟩ := Holds.frameR (l1 := [blk lp (.loop (rec .ready none))]) (l2 := l0) hl
        exact (h4 _ _ (h1 _ _ h3)).perm List.perm_middle.symm
      · have h5 : Holds ([blk lp (.loop (rec .ready none))] ++ (see ++ K)) F w := hl.perm (show (see ++ blk lp (.loop (rec .ready none)) :: K).Perm (blk lp (.loop (rec .ready none)) :: (see ++ K)) from List.perm_middle)
        obtain ⟨G, h3, h4⟩ := Holds.frameR h5
        exact h4 _ _ (h2 _ _ h3))
  have hpre : Holds ((blk lp (.loop (rec .ready none)) :: l0 ++ own) ++ H) F w1 := by
    have h2 : Holds ([blk lp (.loop (rec .ready none))] ++ (l ++ H)) F w1 := hh1
    obtain ⟨G, h3, h4⟩ := Holds.frameR h2
    have h5 : Holds (l0 ++ own ++ H) G w1 := by
      obtain ⟨G', h6, h7⟩ := h3.frame
      exact h7 _ _ (hl0 _ _ h6)
    exact (h4 _ _ h5).perm (by simp)
  obtain ⟨G, hg1, hg2⟩ := hpre.frame
  have hcall : CallsIn (wf R) (0 - 1) P gf (#[.func (.yield lp) #[] #[]] ++ cap.toArray) w1 (fun en w' => ∃ v l, en = .returned v ∧ ((∃ xs l', S xs ∧ (∃ l'', I xs l'' ∧ l' = blk lp (.loop (rec .ready none)) :: l'') ∧ l = l' ++ own) ∨ (∃ pre l', (∃ j l'', X j pre l'' ∧ l' = blk lp (.loop (rec .done (some j.code))) :: l'') ∧ l = l' ++ own)) ∧ Holds l G w' ∧ Ext w1 w') := by
    have h3 := callsIn_wide (n := 0).2 (key G w1 hg1)
    have e1 : (Value.func (.yield lp) #[] #[] :: cap).toArray = #[.func (.yield lp) #[] #[]] ++ cap.toArray := by simp
    rw [e1] at h3
    exact h3
  refine hcall.mono ?_
  rintro en w2 ⟨v, l2, rfl, hpost, hl2, hx2⟩
  have hsz : ∀ st pe, Holds (blk lp (.loop (rec st pe)) :: l2) F w2 → True := fun _ _ _ => trivial
  have hb := hg2 _ _ hl2
  have endl : ∀ st pe l3, Holds (blk lp (.loop (rec st pe)) :: (l3 ++ H)) F w2 → st ≠ .busy → ∃ w3, (Instr.endLoop lp).run P w2 = .ok pe w3 ∧ Holds (l3 ++ H) F w3 ∧ Ext w w3 := by
    intro st pe l3 h3 hst
    have hL : w2.heap[lp]? = some (.loop (rec st pe)) := by obtain ⟨r, hr, hs⟩ := h3.sees; exact hs lp _ hr
    have hrun := run_endLoop (P := P) hL (by rw [hrec]; exact hst)
    have e1 : (rec st pe).pending = pe := by rw [hrec]
    rw [e1] at hrun
    refine ⟨_, hrun, ?_, hx1.trans (hx2.trans ⟨rfl, rfl, rfl, by simp⟩)⟩
    exact (Holds.put (b := lp) h3 (World.putObj_heap_same (Array.getElem?_eq_some_iff.1 hL).1) fun k hk _ => World.putObj_heap_other hk).drop
  rcases hpost with ⟨xs, l', hS, ⟨l'', hi, rfl⟩, rfl⟩ | ⟨pre, l', ⟨j, l'', hj, rfl⟩, rfl⟩
  · obtain ⟨w3, h1, h2, h3⟩ := endl .ready none (l'' ++ own) (by simpa using hb) (by simp)
    exact ⟨none, w3, h1, rfl, e, l'' ++ own, ⟨Ds1, ⟨⟨he.size, he.at_⟩, hmark⟩, h2⟩, h3, hdone xs l'' hS hi⟩
  · obtain ⟨w3, h1, h2, h3⟩ := endl .done (some j.code) (l'' ++ own) (by simpa using hb) (by simp)
    refine ⟨some j.code, w3, h1, ?_⟩
    have hfin : CPost n R F w Q j.ex { a with defers := mark ++ a.defers } w3 := ⟨by cases j <;> rfl, e, l'' ++ own, ⟨Ds1, ⟨⟨he.size, he.at_⟩, hmark⟩, h2⟩, h3, hstop j pre l'' hj⟩
    cases j with
    | ret => exact wpIn_ret hfin
    | exit id => exact wpIn_exit hfin
section assoc
variable {κ : Type} [DecidableEq κ] {β : Type}
def alook : List (κ × β) → κ → Option β
  | [], _ => none
  | (k, v) :: r, x => if k = x then some v else alook r x
def aset : List (κ × β) → κ → β → List (κ × β)
  | [], x, u => [(x, u)]
  | (k, v) :: r, x, u => if k = x then (k, u) :: r else (k, v) :: aset r x u
def akeys (l : List (κ × β)) : List κ := l.map (·.1)
def aidx : List (κ × β) → κ → Option Nat
  | [], _ => none
  | (k, _) :: r, x => if k = x then some 0 else (aidx r x).map (· + 1)
theorem alook_aset (l : List (κ × β)) (x y : κ) (u : β) : alook (aset l x u) y = if x = y then some u else alook l y := by
  induction l with
  | nil => simp [aset, alook]
  | cons p l ih =>
    obtain ⟨k, v⟩ := p
    simp only [aset]
    by_cases h : k = x
    · subst h
      simp only [if_pos, alook]
      by_cases h2 : k = y <;> simp [h2]
    · simp only [if_neg h, alook, ih]
      by_cases h2 : k = y
      · subst h2; simp [Ne.symm h]
      · simp [h2]
theorem akeys_aset (l : List (κ × β)) (x : κ) (u : β) : akeys (aset l x u) = if (alook l x).isSome then akeys l else akeys l ++ [x] := by
  induction l with
  | nil => simp [aset, alook, akeys]
  | cons p l ih =>
    obtain ⟨k, v⟩ := p
    simp only [aset, alook]
    by_cases h : k = x
    · subst h; simp [akeys]
    · simp only [if_neg h]
      simp only [akeys, List.map_cons] at ih ⊢
      rw [ih]
      split <;> simp
theorem alook_none {l : List (κ × β)} {x : κ} : alook l x = none ↔ x ∉ akeys l := by
  induction l with
  | nil => simp [alook, akeys]
  | cons p l ih =>
    obtain ⟨k, v⟩ := p
    simp only [alook, akeys, List.map_cons, List.mem_cons, not_or]
    by_cases h : k = x
    · subst h; simp
    · simp only [if_neg h, ih, akeys]
      exact ⟨fun h2 => ⟨Ne.symm h, h2⟩, fun h2 => h2.2⟩
theorem alook_isSome {l : List (κ × β)} {x : κ} : (alook l x).isSome = true ↔ x ∈ akeys l := by
  cases h : alook l x with
  | none => simp [alook_none.1 h]
  | some v =>
    simp only [Option.isSome_some, true_iff]
    exact Classical.byContradiction fun hn => by rw [alook_none.2 hn] at h; cases h
theorem alook_mem {l : List (κ × β)} {x : κ} {v : β} (h : alook l x = some v) : (x, v) ∈ l := by
  induction l with
  | nil => simp [alook] at h
  | cons p l ih =>
    obtain ⟨k, u⟩ := p
    simp only [alook] at h
    by_cases hk : k = x
    · subst hk; simp at h; simp [h]
    · rw [if_neg hk] at h; simp [ih h]
theorem alook_of_mem {l : List (κ × β)} (hn : (akeys l).Nodup) {x : κ} {v : β} (h : (x, v) ∈ l) : alook l x = some v := by
  induction l with
  | nil => simp at h
  | cons p l ih =>
    obtain ⟨k, u⟩ := p
    simp only [akeys, List.map_cons, List.nodup_cons] at hn
    simp only [alook]
    rcases List.mem_cons.1 h with h | h
    · simp only [Prod.mk.injEq] at h; obtain ⟨rfl, rfl⟩ := h; simp
    · have : k ≠ x := fun e => hn.1 (e ▸ List.mem_map.2 ⟨_, h, rfl⟩)
      rw [if_neg this]; exact ih hn.2 h
theorem aset_nodup {l : List (κ × β)} {x : κ} {u : β} (h : (akeys l).Nodup) : (akeys (aset l x u)).Nodup := by
  rw [akeys_aset]
  split
  · exact h
  · rename_i hn
    rw [List.nodup_append]
    refine ⟨h, by simp, fun a ha b hb => ?_⟩
    simp only [List.mem_singleton] at hb
    subst hb
    exact fun e => hn (alook_isSome.2 (e ▸ ha))
theorem aset_length (l : List (κ × β)) (x : κ) (u : β) : (aset l x u).length = if (alook l x).isSome then l.length else l.length + 1 := by
  have := congrArg List.length (akeys_aset l x u)
  simp only [akeys, List.length_map] at this
  rw [this]; split <;> simp
end assoc
def rawEs {κ : Type} (enc : κ → Value) (es : List (κ × Value)) (bs : List Nat) : List MapEntry := (es.zip bs).map fun x => ⟨enc x.1.1, x.1.2, x.2⟩
structure MapFit {κ : Type} (es : List (κ × Value)) (bs : List Nat) (clock : Nat) : Prop where
  len : bs.length = es.length
  nod : bs.Nodup
  old : ∀ x ∈ bs, x < clock
  keys : (akeys es).Nodup
def mapA {κ : Type} (enc : κ → Value) (b : Nat) (es : List (κ × Value)) : HP := fun r => ∃ bs clock, MapFit es bs clock ∧ r b = some (true, .map (rawEs enc es bs).toArray clock)
theorem mapA_nodup {κ : Type} {enc : κ → Value} {b : Nat} {es : List (κ × Value)} (r : Res) (h : mapA enc b es r) : (akeys es).Nodup := by
  obtain ⟨bs, clock, hf, _⟩ := h
  exact hf.keys
theorem Holds.map_open {κ : Type} {enc : κ → Value} {b : Nat} {es : List (κ × Value)} {l : List HP} {F : Res} {w : World} (h : Holds (mapA enc b es :: l) F w) :
    ∃ bs clock, MapFit es bs clock ∧ Holds (blk b (.map (rawEs enc es bs).toArray clock) :: l) F w := by
  obtain ⟨r, t, ⟨a, c, h1, ⟨bs, clock, hf, hp⟩, hl⟩, hj, hs⟩ := h
  exact ⟨bs, clock, hf, r, t, ⟨a, c, h1, hp, hl⟩, hj, hs⟩
theorem Holds.map_shut {κ : Type} {enc : κ → Value} {b : Nat} {es : List (κ × Value)} {l : List HP} {F : Res} {w : World} {bs : List Nat} {clock : Nat} (hf : MapFit es bs clock) (h : Holds (blk b (.map (rawEs enc es bs).toArray clock) :: l) F w) :
    Holds (mapA enc b es :: l) F w := h.imp fun r hr => ⟨bs, clock, hf, hr⟩
class KeyT (P : Program) (kt : TypeId) {κ : Type} [DecidableEq κ] (enc : κ → Value) : Prop where
  chk : ∀ (e : Bool) (k : κ) (w : World), (Instr.checkKey e 10000 kt (enc k)).run P w = .ok () w
  fnd : ∀ (k : κ) (es : List (κ × Value)) (bs : List Nat) (w : World), bs.length = es.length → (Instr.findKey kt (enc k) (rawEs enc es bs)).run P w = .ok ((aidx es k).bind fun i => (alook es k).map fun v => (i, v)) w
  same : ∀ k, Instr.sameBits 10000 (enc k) (enc k) = true
theorem aidx_look {κ β : Type} [DecidableEq κ] (l : List (κ × β)) (k : κ) : (aidx l k).isSome = (alook l k).isSome := by
  induction l with
  | nil => rfl
  | cons p l ih =>
    obtain ⟨x, v⟩ := p
    simp only [aidx, alook]
    by_cases h : x = k
    · simp [h]
    · simp [h, ih]
theorem aidx_some {κ β : Type} [DecidableEq κ] {l : List (κ × β)} {k : κ} {i : Nat} (h : aidx l k = some i) : ∃ v, l[i]? = some (k, v) ∧ alook l k = some v := by
  induction l generalizing i with
  | nil => simp [aidx] at h
  | cons p l ih =>
    obtain ⟨x, v⟩ := p
    simp only [aidx] at h
    by_cases hx : x = k
    · subst hx; simp at h; subst h; exact ⟨v, by simp, by simp [alook]⟩
    · rw [if_neg hx] at h
      cases hi : aidx l k with
      | none => rw [hi] at h; simp at h
      | some j =>
        rw [hi] at h; simp at h; subst h
        obtain ⟨u, h1, h2⟩ := ih hi
        exact ⟨u, by simpa using h1, by simp [alook, hx, h2]⟩
theorem aset_at {κ β : Type} [DecidableEq κ] {l : List (κ × β)} {k : κ} {i : Nat} (h : aidx l k = some i) (u : β) : aset l k u = l.set i (k, u) := by
  induction l generalizing i with
  | nil => simp [aidx] at h
  | cons p l ih =>
    obtain ⟨x, v⟩ := p
    simp only [aidx] at h
    by_cases hx : x = k
    · subst hx; simp at h; subst h; simp [aset]
    · rw [if_neg hx] at h
      cases hi : aidx l k with
      | none => rw [hi] at h; simp at h
      | some j => rw [hi] at h; simp at h; subst h; simp [aset, hx, ih hi]
theorem aset_new {κ β : Type} [DecidableEq κ] {l : List (κ × β)} {k : κ} (h : alook l k = none) (u : β) : aset l k u = l ++ [(k, u)] := by
  induction l with
  | nil => rfl
  | cons p l ih =>
    obtain ⟨x, v⟩ := p
    simp only [alook] at h
    by_cases hx : x = k
    · rw [if_pos hx] at h; cases h
    · rw [if_neg hx] at h; simp [aset, hx, ih h]
theorem mapA_obj {κ : Type} {enc : κ → Value} {b : Nat} {es : List (κ × Value)} {l : List HP} {F : Res} {w : World} (h : Holds (mapA enc b es :: l) F w) : ∃ bs clock, MapFit es bs clock ∧ w.heap[b]? = some (.map (rawEs enc es bs).toArray clock) := by
  obtain ⟨r, ⟨bs, clock, hf, hp⟩, hs⟩ := h.sees
  exact ⟨bs, clock, hf, hs b _ hp⟩
def Mps {κ : Type} (C : List HP) (enc : κ → Value) (b : Nat) (es : List (κ × Value)) : Prop := ∀ F w, Holds C F w → ∃ l, Holds (mapA enc b es :: l) F w
theorem Mps.here {κ : Type} {enc : κ → Value} {b : Nat} {es : List (κ × Value)} {l : List HP} : Mps (mapA enc b es :: l) enc b es := fun F w h => ⟨l, h⟩
theorem Mps.next {κ : Type} {enc : κ → Value} {b : Nat} {es : List (κ × Value)} {p : HP} {l : List HP} (h : Mps l enc b es) : Mps (p :: l) enc b es := fun F w hl => h F w hl.drop
theorem run_getObj_map {P : Program} {b : Nat} {es : Array MapEntry} {clock : Nat} {w : World} (h : w.heap[b]? = some (.map es clock)) : (getObj b).run P w = .ok (.map es clock) w := by simp [getObj, Sem.run, h]
theorem run_setObj_map {P : Program} {b : Nat} {es : Array MapEntry} {clock : Nat} {w : World} (o : Obj) (h : w.heap[b]? = some (.map es clock)) : (setObj b o).run P w = .ok () (w.putObj b o) := by simp [setObj, Sem.run, h, World.putObj]
class ZZ (P : Program) (t : TypeId) (z : outParam Value) : Prop where pf : (P.info? t).bind (·.zero) = some z
theorem ZZ.run {P : Program} {t : TypeId} {z : Value} (h : ZZ P t z) (w : World) : (zeroValue t).run P w = .ok z w := by
  have := h.pf
  cases hi : P.info? t with
  | none => rw [hi] at this; cases this
  | some i => rw [hi] at this; simp only [Option.bind_some] at this; simp [zeroValue, typeInfo, hi, this]
section
variable {P : Program} {κ : Type} [DecidableEq κ] {enc : κ → Value}
def mapVal (es : List (κ × Value)) (k : κ) (z : Value) : Value := (alook es k).getD z
theorem run_lookup {t kt et : TypeId} {z : Value} (ht : MP P t kt et) [hk : KeyT P kt enc] (hz : ZZ P et z) (c : Bool) {b : Nat} {es : List (κ × Value)} {l : List HP} {F : Res} {w : World} (h : Holds (mapA enc b es :: l) F w) (k : κ) :
    (Instr.lookup t (.map (some b)) (enc k) c).run P w = .ok (if c then .tuple #[mapVal es k z, .bool (alook es k).isSome] else mapVal es k z) w := by
  obtain ⟨bs, clock, hf, hb⟩ := mapA_obj h
  have hg := run_getObj_map (P := P) hb
  have h2 := hk.fnd k es bs w hf.len
  have h3 := hk.chk (rawEs enc es bs).toArray.isEmpty k w
  have h4 := aidx_look es k
  simp only [Instr.lookup, Sem.run_bind, run_underlying ht.pf, Result.andThen_ok, hg, Sem.run_pure, h3, h2]
  cases hl : alook es k with
  | none =>
    have : aidx es k = none := by rw [hl] at h4; simpa using h4
    simp only [this, Option.bind_none, Sem.run_bind, hz.run, Result.andThen_ok, Sem.run_pure, mapVal, hl]
    cases c <;> rfl
  | some v =>
    rw [hl] at h4
    obtain ⟨i, hi⟩ := Option.isSome_iff_exists.1 (by simpa using h4)
    simp only [hi, hl, Option.bind_some, Option.map_some, Sem.run_pure, Result.andThen_ok, mapVal]
    cases c <;> rfl
variable {e : Env} {C : List HP} {ty : TypeId}
theorem Rdo.lookup2 {x y : Operand} {t kt et : TypeId} {z : Value} {b : Nat} {es : List (κ × Value)} {k : κ} [ht : MP P t kt et] [hk : KeyT P kt enc] [hz : ZZ P et z] (hx : evl e x = some (.map (some b))) (hy : evl e y = some (enc k)) (hm : Mps C enc b es) :
    Rdo P e C (.lookup t x y true) ty (.tuple #[mapVal es k z, .bool (alook es k).isSome]) := by
  intro G w a n dst pos after g hl he
  obtain ⟨l, h⟩ := hm G w hl
  simp [execOp, he.eval hx, he.eval hy, run_lookup ht hz true h k]
theorem Rdo.lookup1 {x y : Operand} {t kt et : TypeId} {z : Value} {b : Nat} {es : List (κ × Value)} {k : κ} [ht : MP P t kt et] [hk : KeyT P kt enc] [hz : ZZ P et z] (hx : evl e x = some (.map (some b))) (hy : evl e y = some (enc k)) (hm : Mps C enc b es) :
    Rdo P e C (.lookup t x y false) ty (mapVal es k z) := by
  intro G w a n dst pos after g hl he
  obtain ⟨l, h⟩ := hm G w hl
  simp [execOp, he.eval hx, he.eval hy, run_lookup ht hz false h k]
end
section
variable {P : Program} {e : Env} {C : List HP} {ty : TypeId}
theorem Rdo.eqmapnil {x y : Operand} {p : Option Nat} {t u kt et : TypeId} [ht : MP P t kt et] (hx : evl e x = some (.map p)) (hy : evl e y = some (.map none)) : Rdo P e C (.binOp .eql t x y u) ty (.bool p.isNone) := by
  intro G w a n dst pos after g hl he
  simp [execOp, he.eval hx, he.eval hy, eqGuard_at_map, binOp, run_equal_map_nil w t kt et p ht.pf]
theorem Rdo.lenMap {κ : Type} {enc : κ → Value} {x : Operand} {t kt et : TypeId} {b : Nat} {es : List (κ × Value)} [ht : MP P t kt et] (hx : evl e x = some (.map (some b))) (hm : Mps C enc b es) :
    Rdo P e C (.call { callee := .builtin .len, args := [x].toArray, argTypes := [t].toArray }) ty (.int .i64 es.length) := by
  intro G w a n dst pos after g hl he
  obtain ⟨l, h⟩ := hm G w hl
  obtain ⟨bs, clock, hf, hb⟩ := mapA_obj h
  have hg := run_getObj_map (P := P) hb
  simp [execOp, resolve, invoke, builtin, he.eval hx, Builtin.len_, run_underlying ht.pf, hg, goInt, rawEs, hf.len]
theorem Stp.makeMap0 {n d : Nat} {t : TypeId} {pos : String} {after : Array Edge} {g : Option (Nat × Bool)} {l : List HP} {Φ : Env → List HP → Prop} {κ : Type} (enc : κ → Value)
    (hd : Nat.blt d n = true) (hk : ∀ b, Φ (eset e d (.map (some b))) (mapA enc b [] :: l)) : Stp P n ⟨some d, .makeMap t none, ty, pos, after, g⟩ e l Φ := by
  intro F w a ds hl he K Q0 hK
  unfold OpW
  simp only [execOp, Instr.makeMap, Option.map_none, Sem.run_bind, Sem.run_pure, Result.andThen_ok, run_newObj, World.alloc_eq, Oper.uponIn]
  refine hK _ _ _ _ (he.put _ hd) ?_ (Ext.alloc w _) (hk w.heap.size)
  have := hl.alloc (.map #[] 0)
  exact this.imp fun r hr => ⟨[], 0, ⟨rfl, List.nodup_nil, by simp, List.nodup_nil⟩, hr⟩
end
theorem zip_at {α β : Type} {l : List α} {m : List β} {i : Nat} {a : α} {b : β} (h : l[i]? = some a) (k : m[i]? = some b) : (l.zip m)[i]? = some (a, b) := by
  simp only [List.zip, List.getElem?_zipWith, h, k]
theorem zip_set {α β : Type} (l : List α) (m : List β) (i j : Nat) (x : α) (h : i ≠ j) : ((l.set i x).zip m)[j]? = (l.zip m)[j]? := by
  simp only [List.zip, List.getElem?_zipWith, List.getElem?_set_ne h]
section
variable {κ : Type} {enc : κ → Value}
theorem rawEs_at {es : List (κ × Value)} {bs : List Nat} {i : Nat} {k : κ} {v : Value} (hl : bs.length = es.length) (h : es[i]? = some (k, v)) : ∃ b, bs[i]? = some b ∧ (rawEs enc es bs)[i]? = some ⟨enc k, v, b⟩ := by
  have hi : i < es.length := (List.getElem?_eq_some_iff.1 h).1
  have hb : bs[i]? = some bs[i] := List.getElem?_eq_getElem (by omega)
  refine ⟨_, hb, ?_⟩
  simp only [rawEs, List.getElem?_map, zip_at h hb, Option.map_some]
theorem rawEs_set {es : List (κ × Value)} {bs : List Nat} {i : Nat} {k : κ} {v : Value} (hl : bs.length = es.length) (h : es[i]? = some (k, v)) (u : Value) :
    (rawEs enc es bs).toArray.modify i (fun e => { e with key := enc k, val := u }) = (rawEs enc (es.set i (k, u)) bs).toArray := by
  have hi : i < es.length := (List.getElem?_eq_some_iff.1 h).1
  have hb : bs[i]? = some bs[i] := List.getElem?_eq_getElem (by omega)
  apply Array.ext'
  simp only [Array.toList_modify]
  apply List.ext_getElem?
  intro j
  simp only [rawEs, List.getElem?_modify, List.getElem?_map]
  by_cases hj : i = j
  · subst hj
    have h1 : (es.zip bs)[i]? = some ((k, v), bs[i]) := zip_at h hb
    have h2 : ((es.set i (k, u)).zip bs)[i]? = some ((k, u), bs[i]) := zip_at (by simp [hi]) hb
    simp [h1, h2]
  · simp [hj, zip_set es bs i j (k, u) hj]
end
section
variable {P : Program} {κ : Type} [DecidableEq κ] {enc : κ → Value}
theorem MapFit.set {es : List (κ × Value)} {bs : List Nat} {clock i : Nat} (hf : MapFit es bs clock) {k : κ} {u : Value} (h : aidx es k = some i) : MapFit (aset es k u) bs clock := by
  have h1 := aset_at h u
  exact ⟨by rw [h1]; simpa using hf.len, hf.nod, hf.old, aset_nodup hf.keys⟩
theorem MapFit.new {es : List (κ × Value)} {bs : List Nat} {clock : Nat} (hf : MapFit es bs clock) {k : κ} {u : Value} (h : alook es k = none) : MapFit (aset es k u) (bs ++ [clock]) (clock + 1) := by
  refine ⟨by rw [aset_new h]; simp [hf.len], ?_, ?_, aset_nodup hf.keys⟩
  · rw [List.nodup_append]
    refine ⟨hf.nod, by simp, fun a ha b hb => ?_⟩
    simp only [List.mem_singleton] at hb
    have := hf.old a ha
    omega
  · intro x hx
    rcases List.mem_append.1 hx with hx | hx
    · have := hf.old x hx; omega
    · simp at hx; omega
theorem run_mapUpdate {t kt et : TypeId} (ht : MP P t kt et) [hk : KeyT P kt enc] {b : Nat} {es : List (κ × Value)} {l : List HP} {F : Res} {w : World} (h : Holds (mapA enc b es :: l) F w) (k : κ) (u : Value) :
    ∃ w', (Instr.mapUpdate t (.map (some b)) (enc k) u).run P w = .ok () w' ∧ Holds (mapA enc b (aset es k u) :: l) F w' ∧ Ext w w' := by
  obtain ⟨bs, clock, hf, hb⟩ := h.map_open
  have hw := blk_sees hb
  have hlt := (Array.getElem?_eq_some_iff.1 hw).1
  have hg := run_getObj_map (P := P) hw
  have h2 := hk.fnd k es bs w hf.len
  have h3 := hk.chk false k w
  have h4 := aidx_look es k
  cases hl : alook es k with
  | none =>
    have hi : aidx es k = none := by rw [hl] at h4; simpa using h4
    rw [hi] at h2
    refine ⟨w.putObj b (.map ((rawEs enc es bs).toArray.push ⟨enc k, u, clock⟩) (clock + 1)), ?_, Holds.map_shut (hf.new (u := u) hl) (Holds.put (b := b) hb ?_ fun j hj _ => World.putObj_heap_other hj), rfl, rfl, rfl, by simp⟩
    · simp only [Instr.mapUpdate, Sem.run_bind, run_underlying ht.pf, Result.andThen_ok, hg, h3, h2, Option.bind_none]
      exact run_setObj_map (.map ((rawEs enc es bs).toArray.push ⟨enc k, u, clock⟩) (clock + 1)) hw
    · rw [World.putObj_heap_same hlt]
      congr 2
      rw [aset_new hl]
      simp [rawEs, List.zip_append hf.len.symm]
  | some v =>
    rw [hl] at h4
    obtain ⟨i, hi⟩ := Option.isSome_iff_exists.1 (by simpa using h4)
    obtain ⟨v', hv, hv'⟩ := aidx_some hi
    rw [hl] at hv'; cases hv'
    obtain ⟨bi, hbi, hraw⟩ := rawEs_at (enc := enc) hf.len hv
    rw [hi, hl] at h2
    have hkey : (Instr.keyThatStays ((((rawEs enc es bs).toArray[i]?).map (·.key)).getD (enc k)) (enc k)).run P w = .ok (enc k) w := by
      simp [hraw, Instr.keyThatStays, hk.same]
    refine ⟨w.putObj b (.map ((rawEs enc es bs).toArray.modify i fun e => { e with key := enc k, val := u }) clock), ?_, Holds.map_shut (hf.set (u := u) hi) (Holds.put (b := b) hb ?_ fun j hj _ => World.putObj_heap_other hj), rfl, rfl, rfl, by simp⟩
    · simp only [Instr.mapUpdate, Sem.run_bind, run_underlying ht.pf, Result.andThen_ok, hg, h3, h2, Option.bind_some, Option.map_some, hkey]
      exact run_setObj_map (.map ((rawEs enc es bs).toArray.modify i fun e => { e with key := enc k, val := u }) clock) hw
    · rw [World.putObj_heap_same hlt, rawEs_set hf.len hv u, aset_at hi]
theorem Stp.mapUpdate {n : Nat} {t kt et ty : TypeId} {x y z : Operand} {pos : String} {after : Array Edge} {g : Option (Nat × Bool)} {e : Env} {l rest : List HP} {Φ : Env → List HP → Prop} {b : Nat} {es : List (κ × Value)} {k : κ} {u : Value} [ht : MP P t kt et] [hk : KeyT P kt enc]
    (hx : evl e x = some (.map (some b))) (hy : evl e y = some (enc k)) (hz : evl e z = some u) (hp : Pk l (mapA enc b es) rest) (hK : Φ e (mapA enc b (aset es k u) :: rest)) :
    Stp P n ⟨none, .mapUpdate t x y z, ty, pos, after, g⟩ e l Φ := by
  intro F w a ds hl he K Q0 hKK
  obtain ⟨w', hr, hh, hxt⟩ := run_mapUpdate (u := u) ht (hl.perm hp) k
  unfold OpW
  simp only [execOp, he.eval hx, he.eval hy, he.eval hz, Sem.run_bind, hr, Result.andThen_ok, Sem.run_pure, Oper.uponIn, Act.put]
  exact hKK _ _ _ _ he hh hxt hK
end
abbrev i64 (k : Int) : Value := .int .i64 k
theorem findNow_int (d : IntKind) (k : Int) : ∀ (es : List (Int × Value)) (bs : List Nat) (i : Nat), bs.length = es.length →
    Instr.findNow (.int d) (i64 k) (rawEs i64 es bs) i = some ((aidx es k).bind fun j => (alook es k).map fun v => (i + j, v))
  | [], _, i, _ => by simp [rawEs, Instr.findNow, aidx]
  | (x, v) :: es, [], i, h => by simp at h
  | (x, v) :: es, b :: bs, i, h => by
    have ih := findNow_int d k es bs (i + 1) (by simpa using h)
    simp only [rawEs, List.zip_cons_cons, List.map_cons] at ih ⊢
    simp only [Instr.findNow, Instr.sameNow, if_true]
    by_cases hx : x = k
    · subst hx; simp [aidx, alook]
    · have hx' : (k == x) = false := by simpa using Ne.symm hx
      simp only [hx', ih, aidx, alook, if_neg hx]
      cases ha : aidx es k with
      | none => simp
      | some j =>
        cases hl : alook es k with
        | none => simp
        | some u => simp; omega
instance keyInt {P : Program} {kt : TypeId} [h : IK P kt .i64] : KeyT P kt i64 where
  chk e k w := by
    show (Instr.checkKey e (9999 + 1) kt (i64 k)).run P w = _
    unfold Instr.checkKey
    simp [run_underlying h.pf]
  fnd k es bs w hl := by
    simp only [Instr.findKey, Sem.run_bind, run_underlying h.pf, Result.andThen_ok, findNow_int .i64 k es bs 0 hl, Sem.run_pure, Nat.zero_add]
  same k := by simp [Instr.sameBits]
def ExtF (P : Program) (f : FuncId) (e : Array Value → Sem Value) : Prop := ∀ args w, (callFunc f args).run P w = ((e args).run P w).andThen fun v w' => .ok (.value v) w'
theorem ExtF.mk {P : Program} {f : FuncId} {fn : Func} {e : Array Value → Sem Value} (hf : P.funcs[f]? = some fn) (hname : (fn.name == "runtime.NumGoroutine") = false) (hb : fn.body.isNone = true)
    (h1 : (Extern.findNext fn).isNone = true) (he : (Extern.find fn) = some e) : ExtF P f e := by
  intro args w
  have h1' : Extern.findNext fn = none := by simpa using h1
  simp only [callFunc, Sem.run_bind, run_program, Result.andThen_ok, hf, hname, hb, Bool.false_eq_true, if_false, if_true, h1', he]
  simp [mark, Sem.run]
theorem Stp.mapsClone {P : Program} {n d : Nat} {κ : Type} {enc : κ → Value} {f : FuncId} (hf : ExtF P f Extern.MapsClone.clone) {x : Operand} {mt : TypeId} {ats : Array TypeId} {ty : TypeId} {pos : String} {after : Array Edge} {g : Option (Nat × Bool)} {e : Env} {l rest : List HP}
    {Φ : Env → List HP → Prop} {b : Nat} {es : List (κ × Value)} (hx : evl e x = some (.iface mt (.map (some b)))) (hp : Pk l (mapA enc b es) rest) (hd : Nat.blt d n = true)
    (hk : ∀ b', Φ (eset e d (.iface mt (.map (some b')))) (mapA enc b' es :: mapA enc b es :: rest)) :
    Stp P n ⟨some d, .call { callee := .value (.func f), args := [x].toArray, argTypes := ats }, ty, pos, after, g⟩ e l Φ := by
  intro F w a ds hl he K Q0 hK
  obtain ⟨bs, clock, hfit, hb⟩ := (hl.perm hp).map_open
  have hw := blk_sees hb
  have hg := run_getObj_map (P := P) hw
  unfold OpW
  have hr : (execOp a.eval ⟨some d, .call { callee := .value (.func f), args := [x].toArray, argTypes := ats }, ty, pos, after, g⟩).run P w = .ok (.value (.iface mt (.map (some w.heap.size)))) (w.alloc (.map (rawEs enc es bs).toArray clock)) := by
    have e0 : Extern.MapsClone.clone #[.iface mt (.map (some b))] = (getObj b >>= fun o => match o with
      | .map entries clock => (newObj (.map entries clock) >>= fun n => pure (.iface mt (.map (some n))))
      | _ => stuck "maps.clone: a map expected") := rfl
    have h1 := hf #[.iface mt (.map (some b))] w
    rw [e0] at h1
    simp [hg] at h1
    have hfv : a.eval (.func f) = .func (.func f) #[] #[] := rfl
    simp [execOp, resolve, hfv, Deferred.ofValue, invoke, he.eval hx, h1]
  rw [hr]
  refine hK _ _ _ _ (he.put _ hd) ?_ (Ext.alloc w _) (hk w.heap.size)
  have h2 := Holds.alloc (.map (rawEs enc es bs).toArray clock) hb
  have h3 := Holds.map_shut hfit h2
  exact (Holds.map_shut hfit (h3.perm (List.Perm.swap _ _ _))).perm (List.Perm.swap _ _ _)
theorem Rdo.mkIface {P : Program} {e : Env} {C : List HP} {t ty kt et : TypeId} {x : Operand} {v : Value} [ht : MP P t kt et] (hx : evl e x = some v) : Rdo P e C (.makeInterface t x) ty (.iface t v) := by
  intro G w a n dst pos after g hl he
  simp [execOp, he.eval hx, Instr.makeInterface, run_underlying ht.pf]
theorem Rdo.assertMap {P : Program} {e : Env} {C : List HP} {t xt ty kt et : TypeId} {x : Operand} {v : Value} [ht : MP P t kt et] (hx : evl e x = some (.iface t v)) : Rdo P e C (.typeAssert x xt t false) ty v := by
  intro G w a n dst pos after g hl he
  simp [execOp, he.eval hx, Instr.typeAssert, run_underlying ht.pf]
theorem Rdo.makeFunc {P : Program} {e : Env} {C : List HP} {ty : TypeId} {f : FuncId} {caps : List Operand} {vs : List Value} (hx : evls e caps = some vs) : Rdo P e C (.makeFunc (.func f) #[] caps.toArray) ty (.func (.func f) #[] vs.toArray) := by
  intro G w a n dst pos after g hl he
  have := he.evals hx
  simp [execOp, Instr.makeFunc, this]
structure ItFit {κ : Type} (es : List (κ × Value)) (bs : List Nat) (done : List κ) (seen : List Nat) : Prop where
  nod : done.Nodup
  len : seen.length = done.length
  at_ : ∀ (j : Nat) (k : κ) (s : Nat), done[j]? = some k → seen[j]? = some s → ∃ (m : Nat) (v : Value), es[m]? = some (k, v) ∧ bs[m]? = some s
def mapItA {κ : Type} (enc : κ → Value) (b i : Nat) (es : List (κ × Value)) (done : List κ) : HP := exH fun x : List Nat × Nat × List Nat =>
  starH [pureH (MapFit es x.1 x.2.1 ∧ ItFit es x.1 done x.2.2), blk b (.map (rawEs enc es x.1).toArray x.2.1), blk i (.mapIter (some b) x.2.1 x.2.2.toArray x.2.1)]
theorem Holds.it_open {κ : Type} {enc : κ → Value} {b i : Nat} {es : List (κ × Value)} {done : List κ} {l : List HP} {F : Res} {w : World} (h : Holds (mapItA enc b i es done :: l) F w) :
    ∃ bs clock seen, MapFit es bs clock ∧ ItFit es bs done seen ∧ Holds (blk b (.map (rawEs enc es bs).toArray clock) :: blk i (.mapIter (some b) clock seen.toArray clock) :: l) F w := by
  unfold mapItA at h
  obtain ⟨⟨bs, clock, seen⟩, h1⟩ := h.open_ex
  have h2 := h1.open_star
  obtain ⟨⟨h3, h4⟩, h5⟩ := h2.open_pure
  exact ⟨bs, clock, seen, h3, h4, h5⟩
theorem Holds.it_shut {κ : Type} {enc : κ → Value} {b i : Nat} {es : List (κ × Value)} {done : List κ} {l : List HP} {F : Res} {w : World} {bs : List Nat} {clock : Nat} {seen : List Nat} (h1 : MapFit es bs clock) (h2 : ItFit es bs done seen)
    (h : Holds (blk b (.map (rawEs enc es bs).toArray clock) :: blk i (.mapIter (some b) clock seen.toArray clock) :: l) F w) : Holds (mapItA enc b i es done :: l) F w := by
  unfold mapItA
  refine Holds.shut_ex (bs, clock, seen) (Holds.shut_star ?_)
  exact Holds.shut_pure ⟨h1, h2⟩ h
theorem Gh.it_done {κ : Type} {enc : κ → Value} {b i : Nat} {es : List (κ × Value)} {done : List κ} {l rest : List HP} (hp : Pk l (mapItA enc b i es done) rest) : Gh l (mapA enc b es :: rest) := by
  intro F w hl
  obtain ⟨bs, clock, seen, h1, h2, h3⟩ := (hl.perm hp).it_open
  have h4 := Holds.map_shut h1 h3
  exact (h4.perm (List.Perm.swap _ _ _)).drop
theorem Stp.rangeMap {P : Program} {κ : Type} {enc : κ → Value} {n d : Nat} {t kt et ty : TypeId} {x : Operand} {pos : String} {after : Array Edge} {g : Option (Nat × Bool)} {e : Env} {l rest : List HP} {Φ : Env → List HP → Prop} {b : Nat} {es : List (κ × Value)} [ht : MP P t kt et]
    (hx : evl e x = some (.map (some b))) (hp : Pk l (mapA enc b es) rest) (hd : Nat.blt d n = true) (hk : ∀ i, Φ (eset e d (.pointer (some ⟨i, 0, none⟩))) (mapItA enc b i es [] :: rest)) :
    Stp P n ⟨some d, .range t x, ty, pos, after, g⟩ e l Φ := by
  intro F w a ds hl he K Q0 hK
  obtain ⟨bs, clock, hf, hb⟩ := (hl.perm hp).map_open
  have hw := blk_sees hb
  have hg := run_getObj_map (P := P) hw
  unfold OpW
  simp only [execOp, Instr.range, he.eval hx, Sem.run_bind, run_underlying ht.pf, Result.andThen_ok, hg, Sem.run_pure, run_newObj, World.alloc_eq, Oper.uponIn]
  refine hK _ _ _ _ (he.put _ hd) ?_ (Ext.alloc w _) (hk w.heap.size)
  have h2 := Holds.alloc (.mapIter (some b) clock #[] clock) hb
  refine Holds.it_shut (seen := []) hf ⟨List.nodup_nil, rfl, fun j k s h => by simp at h⟩ (h2.perm (List.Perm.swap _ _ _))
theorem mem_raw {κ : Type} {enc : κ → Value} {es : List (κ × Value)} {bs : List Nat} {m : MapEntry} (h : m ∈ rawEs enc es bs) : ∃ (i : Nat) (k : κ) (v : Value), es[i]? = some (k, v) ∧ bs[i]? = some m.born ∧ m = ⟨enc k, v, m.born⟩ := by
  simp only [rawEs, List.mem_map] at h
  obtain ⟨⟨⟨k, v⟩, s⟩, h1, rfl⟩ := h
  obtain ⟨i, hi⟩ := List.getElem?_of_mem h1
  simp only [List.zip, List.getElem?_zipWith] at hi
  cases h2 : es[i]? with
  | none => rw [h2] at hi; simp at hi
  | some p =>
    cases h3 : bs[i]? with
    | none => rw [h2, h3] at hi; simp at hi
    | some q =>
      rw [h2, h3] at hi
      simp only [Option.some.injEq, Prod.mk.injEq] at hi
      exact ⟨i, k, v, by rw [h2, hi.1], by rw [h3, hi.2], rfl⟩
theorem run_chooseNext {P : Program} (n : Nat) (hn : 1 ≤ n) (w : World) : ∃ idx w', idx < n ∧ (w' = w ∨ w' = w.drew) ∧ (choose (.mapNext n)).run P w = .ok idx w' := by
  by_cases h : n ≤ 1
  · exact ⟨0, w, by omega, .inl rfl, by simp [choose, Sem.run, Question.forced, h]⟩
  · refine ⟨w.tape w.drawn (.mapNext n) % n, w.drew, Nat.mod_lt _ (by omega), .inr rfl, ?_⟩
    simp [choose, Sem.run, Question.forced, h, Question.cut]
theorem alook_mem_unique {κ : Type} {es : List (κ × Value)} (hn : (akeys es).Nodup) {k : κ} {u v : Value} (h1 : (k, u) ∈ es) (h2 : (k, v) ∈ es) : u = v := by
  obtain ⟨i, hi⟩ := List.getElem?_of_mem h1
  obtain ⟨j, hj⟩ := List.getElem?_of_mem h2
  have a1 : (akeys es)[i]? = some k := by simp [akeys, hi]
  have a2 : (akeys es)[j]? = some k := by simp [akeys, hj]
  have := (List.getElem?_inj (List.getElem?_eq_some_iff.1 a1).1 hn).1 (a1.trans a2.symm)
  subst this
  rw [hi] at hj
  simpa using hj
theorem find_unique {α : Type} {p : α → Bool} {x : α} : ∀ {l : List α}, x ∈ l → p x = true → (∀ y ∈ l, p y = true → y = x) → l.find? p = some x
  | [], h, _, _ => by simp at h
  | a :: l, h, hp, hu => by
    by_cases ha : p a = true
    · rw [List.find?_cons_of_pos ha, hu a (by simp) ha]
    · rw [List.find?_cons_of_neg ha]
      rcases List.mem_cons.1 h with rfl | h
      · exact absurd hp ha
      · exact find_unique h hp fun y hy => hu y (by simp [hy])
theorem run_next {P : Program} {κ : Type} {enc : κ → Value} {ty : TypeId} {es : List (κ × Value)} {bs : List Nat} {clock b i : Nat} {done : List κ} {seen : List Nat} {w : World} (hf : MapFit es bs clock) (hit : ItFit es bs done seen)
    (hb : w.heap[b]? = some (.map (rawEs enc es bs).toArray clock)) (hi : w.heap[i]? = some (.mapIter (some b) clock seen.toArray clock)) :
    ((∀ k, k ∈ akeys es → k ∈ done) ∧ (Instr.next (.pointer (some ⟨i, 0, none⟩)) false ty).run P w = .ok (.tuple #[.bool false]) w) ∨
    (∃ (m : Nat) (k : κ) (v : Value) (s : Nat) (w' : World), (w' = w ∨ w' = w.drew) ∧ es[m]? = some (k, v) ∧ bs[m]? = some s ∧ k ∉ done ∧ (Instr.next (.pointer (some ⟨i, 0, none⟩)) false ty).run P w = .ok (.tuple #[.bool true, enc k, v]) (w'.putObj i (.mapIter (some b) clock (seen ++ [s]).toArray clock))) := by
  have hgi : (getObj i).run P w = .ok (.mapIter (some b) clock seen.toArray clock) w := by simp [getObj, Sem.run, hi]
  have hgb := run_getObj_map (P := P) hb
  have hset : ∀ (w' : World) (o : Obj), (w' = w ∨ w' = w.drew) → (setObj i o).run P w' = .ok () (w'.putObj i o) := by
    rintro w' o (rfl | rfl)
    · simp [setObj, Sem.run, hi, World.putObj]
    · simp [setObj, Sem.run, heap_drew, hi, World.putObj]
  have hguard : (!seen.toArray.isEmpty && !(rawEs enc es bs).toArray.isEmpty && (rawEs enc es bs).toArray.all (fun x => decide (x.born ≥ clock))) = false := by
    cases hr : rawEs enc es bs with
    | nil => simp
    | cons m r =>
      obtain ⟨j, k, v, h1, h2, h3⟩ := mem_raw (enc := enc) (es := es) (bs := bs) (m := m) (by rw [hr]; simp)
      have := hf.old m.born (List.mem_of_getElem? h2)
      simp; omega
  -- what is left
  let left := (rawEs enc es bs).filter fun m => !seen.contains m.born
  have hold : ∀ m ∈ left, m.born < clock := by
    intro m hm
    obtain ⟨j, k, v, h1, h2, h3⟩ := mem_raw (List.mem_filter.1 hm).1
    exact hf.old _ (List.mem_of_getElem? h2)
  have e1 : left.filter (fun m => decide (m.born < clock)) = left := List.filter_eq_self.2 fun m hm => by simpa using hold m hm
  have e2 : left.filter (fun m => decide (m.born ≥ clock)) = [] := List.filter_eq_nil_iff.2 fun m hm => by have := hold m hm; simp; omega
  have hnotin : ∀ m ∈ left, ∀ (j : Nat) (k : κ) (v : Value), es[j]? = some (k, v) → bs[j]? = some m.born → k ∉ done := by
    intro m hm j k v h1 h2 hd
    obtain ⟨q, hq⟩ := List.getElem?_of_mem hd
    have hql : q < seen.length := by rw [hit.len]; exact (List.getElem?_eq_some_iff.1 hq).1
    obtain ⟨m', v', h3, h4⟩ := hit.at_ q k seen[q] hq (List.getElem?_eq_getElem hql)
    have hkk : m' = j := by
      have hk := hf.keys
      have a1 : (akeys es)[m']? = some k := by simp [akeys, h3]
      have a2 : (akeys es)[j]? = some k := by simp [akeys, h1]
      have hlt : m' < (akeys es).length := (List.getElem?_eq_some_iff.1 a1).1
      exact (List.getElem?_inj hlt hk).1 (a1.trans a2.symm)
    subst hkk
    rw [h2] at h4
    have : m.born ∈ seen := by simp only [Option.some.injEq] at h4; rw [h4]; exact List.getElem_mem hql
    have h5 := (List.mem_filter.1 hm).2
    simp [this] at h5
  by_cases hl : left = []
  · left
    refine ⟨fun k hk => ?_, ?_⟩
    · obtain ⟨⟨k', v⟩, h1, h2⟩ := List.mem_map.1 hk
      simp only at h2; subst h2
      obtain ⟨m, hm⟩ := List.getElem?_of_mem h1
      obtain ⟨s, hs, hr⟩ := rawEs_at (enc := enc) hf.len hm
      have h3 : (⟨enc k', v, s⟩ : MapEntry) ∉ left := by rw [hl]; simp
      have h4 : s ∈ seen := by
        refine Classical.byContradiction fun hn => h3 (List.mem_filter.2 ⟨List.mem_of_getElem? hr, by simpa using hn⟩)
      obtain ⟨q, hq⟩ := List.getElem?_of_mem h4
      have hqd : q < done.length := by rw [← hit.len]; exact (List.getElem?_eq_some_iff.1 hq).1
      obtain ⟨m', v', h5, h6⟩ := hit.at_ q done[q] s (List.getElem?_eq_getElem hqd) hq
      have hmm : m' = m := by
        have hlt : m' < bs.length := (List.getElem?_eq_some_iff.1 h6).1
        exact (List.getElem?_inj hlt hf.nod).1 (h6.trans hs.symm)
      subst hmm
      rw [hm] at h5
      simp only [Option.some.injEq, Prod.mk.injEq] at h5
      rw [h5.1]
      exact List.getElem_mem hqd
    · have e3 : (rawEs enc es bs).toArray.filter (fun m => !seen.toArray.contains m.born) = #[] := by
        have : (rawEs enc es bs).toArray.filter (fun m => !seen.toArray.contains m.born) = left.toArray := by simp [left]
        rw [this, hl]
      simp only [Instr.next, Sem.run_bind, hgi, Result.andThen_ok, hgb, hguard, Bool.false_eq_true, if_false, Sem.run_pure]
      rw [e3]
      simp [choose, Sem.run, Question.forced]
  · right
    have hpos : 1 ≤ left.length := by cases hh : left with | nil => exact absurd hh hl | cons a r => simp
    obtain ⟨idx, w', hidx, hw', hch⟩ := run_chooseNext (P := P) left.length hpos w
    have hm : left[idx] ∈ left := List.getElem_mem hidx
    obtain ⟨j, k, v, h1, h2, h3⟩ := mem_raw (List.mem_filter.1 hm).1
    refine ⟨j, k, v, left[idx].born, w', hw', h1, h2, hnotin _ hm j k v h1 h2, ?_⟩
    have e3 : (rawEs enc es bs).toArray.filter (fun m => !seen.toArray.contains m.born) = left.toArray := by simp [left]
    have e4 : left.toArray.filter (fun m => decide (m.born < clock)) = left.toArray := by simp [e1]
    have e5 : left.toArray.filter (fun m => decide (m.born ≥ clock)) = #[] := by simp only [List.filter_toArray, e2]
    have e6 : left.toArray.isEmpty = false := by simpa using hl
    have hs := hset w' (.mapIter (some b) clock (seen ++ [left[idx].born]).toArray clock) hw'
    simp only [Instr.next, Sem.run_bind, hgi, Result.andThen_ok, hgb, hguard, Bool.false_eq_true, if_false, Sem.run_pure]
    rw [e3, e4, e5, e6]
    simp only [Bool.false_eq_true, if_false, Array.empty_append, Array.append_empty, List.map_toArray, List.size_toArray, List.length_map, hch, Result.andThen_ok, List.getElem?_toArray, List.getElem?_map, List.getElem?_eq_getElem hidx, Option.map_some]
    simp only [Sem.run_bind, List.push_toArray, hs, Result.andThen_ok, Sem.run_pure]
    rw [h3]
theorem Stp.nextMap {P : Program} {κ : Type} {enc : κ → Value} {n d : Nat} {ty : TypeId} {x : Operand} {pos : String} {after : Array Edge} {g : Option (Nat × Bool)} {e : Env} {l rest : List HP} {Φ : Env → List HP → Prop} {b i : Nat} {es : List (κ × Value)} {done : List κ}
    (hx : evl e x = some (.pointer (some ⟨i, 0, none⟩))) (hp : Pk l (mapItA enc b i es done) rest) (hd : Nat.blt d n = true)
    (hover : (∀ k, k ∈ akeys es → k ∈ done) → Φ (eset e d (.tuple #[.bool false])) (mapItA enc b i es done :: rest))
    (hk : ∀ k v, (k, v) ∈ es → k ∉ done → Φ (eset e d (.tuple #[.bool true, enc k, v])) (mapItA enc b i es (done ++ [k]) :: rest)) :
    Stp P n ⟨some d, .next x false, ty, pos, after, g⟩ e l Φ := by
  intro F w a ds hl he K Q0 hK
  have hm := hl.perm hp
  obtain ⟨bs, clock, seen, hf, hit, hh⟩ := hm.it_open
  have hb := blk_sees hh
  have hh2 := hh.perm (List.Perm.swap _ _ _)
  have hi := blk_sees hh2
  unfold OpW
  rcases run_next (P := P) (ty := ty) hf hit hb hi with ⟨hall, hr⟩ | ⟨m, k, v, s, w', hw', h1, h2, h3, hr⟩
  · simp only [execOp, he.eval hx, Sem.run_bind, hr, Result.andThen_ok, Sem.run_pure, Oper.uponIn]
    exact hK _ _ _ _ (he.put _ hd) hm (Ext.refl w) (hover hall)
  · simp only [execOp, he.eval hx, Sem.run_bind, hr, Result.andThen_ok, Sem.run_pure, Oper.uponIn]
    have hmem : (k, v) ∈ es := List.mem_of_getElem? h1
    have hw2 : Holds (blk i (.mapIter (some b) clock seen.toArray clock) :: blk b (.map (rawEs enc es bs).toArray clock) :: rest) F w' := by
      rcases hw' with rfl | rfl
      · exact hh2
      · exact hh2.drew
    have hi' := blk_sees hw2
    have hx' : Ext w w' := by
      rcases hw' with rfl | rfl
      · exact Ext.refl _
      · exact Ext.drew _
    refine hK _ _ _ _ (he.put _ hd) ?_ (hx'.trans ⟨rfl, rfl, rfl, by simp⟩) (hk k v hmem h3)
    have hw3 := Holds.put (b := i) (o' := .mapIter (some b) clock (seen ++ [s]).toArray clock) hw2 (World.putObj_heap_same (Array.getElem?_eq_some_iff.1 hi').1) fun j hj _ => World.putObj_heap_other hj
    refine Holds.it_shut (seen := seen ++ [s]) hf ⟨?_, by simp [hit.len], ?_⟩ (hw3.perm (List.Perm.swap _ _ _))
    · rw [List.nodup_append]
      refine ⟨hit.nod, by simp, fun a ha b hb => ?_⟩
      simp only [List.mem_singleton] at hb
      subst hb
      exact fun e => h3 (e ▸ ha)
    · intro j k' s' hj hs
      by_cases hlt : j < done.length
      · rw [List.getElem?_append_left hlt] at hj
        rw [List.getElem?_append_left (by rw [hit.len]; exact hlt)] at hs
        exact hit.at_ j k' s' hj hs
      · have hj2 : j = done.length := by
          have := (List.getElem?_eq_some_iff.1 hj).1
          simp at this; omega
        subst hj2
        rw [List.getElem?_append_right (by omega)] at hj
        rw [List.getElem?_append_right (by rw [hit.len]; omega), hit.len] at hs
        simp at hj hs
        subst hj hs
        exact ⟨m, v, h1, h2⟩
theorem run_entry {P : Program} {κ : Type} {enc : κ → Value} {es : List (κ × Value)} {bs : List Nat} {clock b i : Nat} {done : List κ} {k : κ} {v : Value} {seen : List Nat} {w : World} (hf : MapFit es bs clock) (hit : ItFit es bs (done ++ [k]) seen)
    (hb : w.heap[b]? = some (.map (rawEs enc es bs).toArray clock)) (hi : w.heap[i]? = some (.mapIter (some b) clock seen.toArray clock)) (hv : (k, v) ∈ es) :
    (Instr.entry (.pointer (some ⟨i, 0, none⟩))).run P w = .ok (.tuple #[enc k, v]) w := by
  have hgi : (getObj i).run P w = .ok (.mapIter (some b) clock seen.toArray clock) w := by simp [getObj, Sem.run, hi]
  have hgb := run_getObj_map (P := P) hb
  have hlen : seen.length = done.length + 1 := by rw [hit.len]; simp
  have hlast : done.length < seen.length := by omega
  obtain ⟨m, v', h1, h2⟩ := hit.at_ done.length k seen[done.length] (by simp) (List.getElem?_eq_getElem hlast)
  have hvv : v' = v := by
    have h3 := alook_mem_unique hf.keys (List.mem_of_getElem? h1) hv
    exact h3
  subst hvv
  have hback : seen.toArray.back? = some seen[done.length] := by
    rw [List.back?_toArray, List.getLast?_eq_getElem?, hlen, Nat.add_sub_cancel]
    exact List.getElem?_eq_getElem hlast
  have hfind : (rawEs enc es bs).toArray.find? (fun x => x.born == seen[done.length]) = some ⟨enc k, v', seen[done.length]⟩ := by
    obtain ⟨s, hs, hr⟩ := rawEs_at (enc := enc) hf.len h1
    rw [h2] at hs
    cases hs
    rw [List.find?_toArray]
    refine find_unique (List.mem_of_getElem? hr) (by simp) fun y hy hyb => ?_
    obtain ⟨m2, k2, v2, h4, h5, h6⟩ := mem_raw hy
    have hyb' : y.born = seen[done.length] := by simpa using hyb
    have : m2 = m := by
      rw [hyb'] at h5
      exact (List.getElem?_inj (List.getElem?_eq_some_iff.1 h5).1 hf.nod).1 (h5.trans h2.symm)
    subst this
    rw [h1] at h4
    simp only [Option.some.injEq, Prod.mk.injEq] at h4
    rw [h6, hyb', ← h4.1, ← h4.2]
  simp only [Instr.entry, Sem.run_bind, hgi, Result.andThen_ok, hback, hgb, bne_self_eq_false, Bool.false_eq_true, if_false, Sem.run_pure, hfind]
theorem Rdo.entryMap {P : Program} {κ : Type} {enc : κ → Value} {ty : TypeId} {x : Operand} {e : Env} {l : List HP} {b i : Nat} {es : List (κ × Value)} {done : List κ} {k : κ} {v : Value}
    (hx : evl e x = some (.pointer (some ⟨i, 0, none⟩))) (hv : (k, v) ∈ es) : Rdo P e (mapItA enc b i es (done ++ [k]) :: l) (.entry x) ty (.tuple #[enc k, v]) := by
  intro G w a n dst pos after g hl he
  obtain ⟨bs, clock, seen, hf, hit, hh⟩ := hl.it_open
  have hb := blk_sees hh
  have hi := blk_sees (hh.perm (List.Perm.swap _ _ _))
  simp [execOp, he.eval hx, run_entry hf hit hb hi hv]
abbrev FH := Nat → Option Obj
def frz (r : Res) : FH := fun b => match r b with | some (false, o) => some o | _ => none
def FLe (h h' : FH) : Prop := ∀ b o, h b = some o → h' b = some o
def Mono (Φ : FH → Prop) : Prop := ∀ h h', FLe h h' → Φ h → Φ h'
def fz (Φ : FH → Prop) : HP := fun r => Φ (frz r)
theorem frz_some {r : Res} {b : Nat} {o : Obj} : frz r b = some o ↔ r b = some (false, o) := by
  unfold frz
  cases h : r b with
  | none => simp
  | some x => obtain ⟨c, p⟩ := x; cases c <;> simp
theorem dup_fz (Φ : FH → Prop) : Dup (fz Φ) := fun r h => by
  refine ⟨fun b => (frz r b).map fun o => (false, o), fun b => ?_, ?_⟩
  · show J1 ((frz r b).map fun o => (false, o)) (r b) (r b)
    cases hr : frz r b with
    | none => exact .r _
    | some o => rw [frz_some.1 hr]; exact .f o
  · have : frz (fun b => (frz r b).map fun o => (false, o)) = frz r := by
      funext b
      show (match (frz r b).map (fun o => (false, o)) with | some (false, o) => some o | _ => none) = frz r b
      cases frz r b <;> rfl
    unfold fz
    rw [this]
    exact h
theorem FLe.join_left {r s t : Res} (h : Join r s t) : FLe (frz r) (frz t) := fun b o hb => frz_some.2 (h.left (frz_some.1 hb))
theorem FLe.join_right {r s t : Res} (h : Join r s t) : FLe (frz s) (frz t) := FLe.join_left h.comm
section
variable {l : List HP} {F : Res} {w : World}
theorem Holds.fz_imp {Φ Ψ : FH → Prop} (h : ∀ g, Φ g → Ψ g) (hl : Holds (fz Φ :: l) F w) : Holds (fz Ψ :: l) F w := hl.imp fun r hr => h _ hr
theorem Holds.fz_and {Φ Ψ : FH → Prop} (hΦ : Mono Φ) (hΨ : Mono Ψ) (hl : Holds (fz Φ :: fz Ψ :: l) F w) : Holds (fz (fun g => Φ g ∧ Ψ g) :: l) F w := by
  have h1 : Holds (starH [fz Φ, fz Ψ] :: l) F w := Holds.shut_star (l := [fz Φ, fz Ψ]) hl
  refine h1.imp ?_
  intro r hr
  unfold starH at hr
  obtain ⟨a, b, hj, h1, c, d, hj2, h2, _⟩ := hr
  exact ⟨hΦ _ _ (FLe.join_left hj) h1, hΨ _ _ (fun x o hx => FLe.join_right hj x o (FLe.join_left hj2 x o hx)) h2⟩
theorem Holds.fz_dup {Φ : FH → Prop} (hl : Holds (fz Φ :: l) F w) : Holds (fz Φ :: fz Φ :: l) F w := hl.dup (dup_fz Φ)
theorem Holds.fz_also {Φ Ψ : FH → Prop} (h : ∀ g, Φ g → Ψ g) (hl : Holds (fz Φ :: l) F w) : Holds (fz Ψ :: fz Φ :: l) F w := hl.fz_dup.fz_imp h
theorem Holds.fz_sees {Φ : FH → Prop} (hl : Holds (fz Φ :: l) F w) : ∃ g, Φ g ∧ ∀ b o, g b = some o → w.heap[b]? = some o := by
  obtain ⟨r, hr, hs⟩ := hl.sees
  exact ⟨frz r, hr, fun b o hb => hs b _ (frz_some.1 hb)⟩
theorem Holds.fz_fact {Φ : FH → Prop} {φ : Prop} (h : ∀ g, Φ g → φ) (hl : Holds (fz Φ :: l) F w) : φ := hl.fact fun r hr => h _ hr
theorem Holds.freeze_fz {b : Nat} {o : Obj} {Φ : FH → Prop} (h : ∀ g : FH, g b = some o → Φ g) (hl : Holds (blk b o :: l) F w) : Holds (fz Φ :: l) F w :=
  hl.freeze.imp fun r hr => h _ (frz_some.2 (by unfold ice at hr; exact hr))
theorem Holds.fz_true {Φ : FH → Prop} (h : ∀ g, Φ g) (hl : Holds l F w) : Holds (fz Φ :: l) F w := by
  have := Holds.shut_pure (φ := True) trivial hl
  exact this.imp fun r _ => h _
end
def CellsAt (g : FH) (b off : Nat) (cs : List Value) : Prop := ∃ arr t fr, g b = some (.cells arr t fr) ∧ ∀ j v, cs[j]? = some v → arr[off + j]? = some v
theorem CellsAt.mono (b off : Nat) (cs : List Value) : Mono fun g => CellsAt g b off cs := fun _ _ hle ⟨arr, t, fr, h, hc⟩ => ⟨arr, t, fr, hle _ _ h, hc⟩
theorem CellsAt.sub {g : FH} {b off : Nat} {pre cs post : List Value} (h : CellsAt g b off (pre ++ (cs ++ post))) : CellsAt g b (off + pre.length) cs := by
  obtain ⟨arr, t, fr, h, hc⟩ := h
  refine ⟨arr, t, fr, h, fun j v hj => ?_⟩
  have := hc (pre.length + j) v (by
    rw [List.getElem?_append_right (by omega), Nat.add_sub_cancel_left, List.getElem?_append_left (List.getElem?_eq_some_iff.1 hj).1]
    exact hj)
  rwa [← Nat.add_assoc] at this
def icel (b off : Nat) (cs : List Value) : HP := fz fun g => CellsAt g b off cs
theorem icel_sees {l : List HP} {F : Res} {w : World} {b off : Nat} {cs : List Value} (h : Holds (icel b off cs :: l) F w) (j : Nat) (v : Value) (hj : cs[j]? = some v) : w.cell? ⟨b, off + j, none⟩ = some v := by
  obtain ⟨g, ⟨arr, t, fr, hb, hc⟩, hw⟩ := Holds.fz_sees h
  have := hw b _ hb
  simp [World.cell?, this, hc j v hj]
theorem Lds.ione {P : Program} {l : List HP} {b off o : Nat} {t : TypeId} {cs : List Value} {v : Value} [ha : AG P t false] (hv : cs[o]? = some v) : Lds P (icel b off cs :: l) ⟨b, off + o, none⟩ t v := by
  unfold Lds
  intro F w hl
  have := icel_sees hl o v hv
  simp [Instr.loadAt, Instr.sureAddr, loadVar, ha.run, this]
theorem Lds.ione0 {P : Program} {l : List HP} {b off : Nat} {t : TypeId} {cs : List Value} {v : Value} [ha : AG P t false] : Lds P (icel b off (v :: cs) :: l) ⟨b, off, none⟩ t v := by
  have := Lds.ione (P := P) (l := l) (b := b) (off := off) (o := 0) (t := t) (cs := v :: cs) (v := v) rfl
  simpa using this
theorem Lds.iall {P : Program} {l : List HP} {b off n : Nat} {t : TypeId} {cs : List Value} [ha : AG P t true] [hz : SZ P t n] (hn : cs.length = n) : Lds P (icel b off cs :: l) ⟨b, off, none⟩ t (.agg cs.toArray) := by
  unfold Lds
  intro F w hl
  have := run_loadCells_list (P := P) w ⟨b, off, none⟩ cs (fun j v hj => by rw [addr_add]; exact icel_sees hl j v hj)
  rw [hn] at this
  simp [Instr.loadAt, Instr.sureAddr, loadVar, ha.run, hz.run, this]
def RdRow (g : FH) (sz : Nat) (v : Value) (n : Nat) (xs : List Value) : Prop :=
  xs.length = n * sz ∧ ∃ a cap, v = .slice a n cap ∧ (n = 0 ∨ ∃ b o, a = some ⟨b, o, none⟩ ∧ CellsAt g b o xs ∧ n ≤ cap)
theorem RdRow.mono (sz : Nat) (v : Value) (n : Nat) (xs : List Value) : Mono fun g => RdRow g sz v n xs := by
  rintro g g' hle ⟨hl, a, cap, hv, h⟩
  refine ⟨hl, a, cap, hv, ?_⟩
  rcases h with h | ⟨b, o, ha, hc⟩
  · exact .inl h
  · exact .inr ⟨b, o, ha, CellsAt.mono b o xs g g' hle hc.1, hc.2⟩
theorem RdRow.nil (g : FH) (sz : Nat) (a : Option Addr) (cap : Nat) : RdRow g sz (.slice a 0 cap) 0 [] := ⟨by simp, a, cap, rfl, .inl rfl⟩
theorem Src.frozen {P : Program} {l : List HP} {sz n : Nat} {v : Value} {xs : List Value} : Src P (fz (fun g => RdRow g sz v n xs) :: l) sz v n xs := by
  unfold Src
  intro F w hl
  obtain ⟨g, ⟨hxl, a, cap, rfl, h⟩, hw⟩ := Holds.fz_sees hl
  refine ⟨by simp [Builtin.lenOf], ?_⟩
  rcases h with rfl | ⟨b, o, rfl, ⟨arr, t, fr, hb, hc⟩, -⟩
  · have : xs = [] := List.eq_nil_of_length_eq_zero (by simpa using hxl)
    subst this
    cases a <;> simp [Builtin.firstCells, loadCells, loadCellsFrom]
  · refine run_firstCells_some w sz n ⟨b, o, none⟩ n cap xs hxl fun j u hj => ?_
    rw [addr_add]
    simp [World.cell?, hw b _ hb, hc j u hj]
theorem Holds.freeze_row {l : List HP} {F : Res} {w : World} {t : TypeId} {sz n : Nat} {v : Value} {xs : List Value} (h : Holds (rowA t sz v n xs :: l) F w) : Holds (fz (fun g => RdRow g sz v n xs) :: l) F w := by
  have key : (∃ b o cap cur, v = .slice (some ⟨b, o, none⟩) n cap ∧ o + cap * sz ≤ cur.size ∧ n ≤ cap ∧ (cur.toList.drop o).take (n * sz) = xs ∧ xs.length = n * sz ∧ Holds (blk b (.cells cur t (0, 0)) :: l) F w) ∨ (v = .slice none 0 0 ∧ n = 0 ∧ xs = []) := by
    unfold Holds at h
    obtain ⟨r, tt, ⟨ra, rc, hj1, hrow, hC⟩, hj2, hsat⟩ := h
    unfold rowA at hrow
    obtain ⟨hxl, hrow⟩ := hrow
    rcases hrow with ⟨rfl, rfl⟩ | ⟨b, o, cap, cur, rfl, hb, hkc, hsz, htake⟩
    · exact .inr ⟨rfl, rfl, List.eq_nil_of_length_eq_zero (by simpa using hxl)⟩
    · refine .inl ⟨b, o, cap, cur, rfl, hsz, hkc, htake, hxl, ?_⟩
      unfold Holds
      exact ⟨r, tt, ⟨ra, rc, hj1, by unfold blk; exact hb, hC⟩, hj2, hsat⟩
  rcases key with ⟨b, o, cap, cur, rfl, hsz, hkc, htake, hxl, hb⟩ | ⟨rfl, rfl, rfl⟩
  · refine Holds.freeze_fz (fun g hg => ⟨hxl, _, cap, rfl, .inr ⟨b, o, rfl, ⟨cur, t, (0, 0), hg, fun j v hj => ?_⟩, hkc⟩⟩) hb
    have hj' : j < n * sz := by have := (List.getElem?_eq_some_iff.1 hj).1; omega
    rw [← htake, List.getElem?_take, if_pos hj', List.getElem?_drop] at hj
    simpa using hj
  · exact Holds.fz_true (fun g => RdRow.nil g sz none 0) h.drop
theorem Gh.ice {l rest : List HP} {t : TypeId} {sz n : Nat} {v : Value} {xs : List Value} (hp : Pk l (rowA t sz v n xs) rest) : Gh l (fz (fun g => RdRow g sz v n xs) :: rest) := by
  unfold Gh
  intro F w hl
  unfold Pk at hp
  exact (hl.perm hp).freeze_row
inductive All2 {α β : Type} (R : α → β → Prop) : List α → List β → Prop where
  | nil : All2 R [] []
  | cons {a : α} {b : β} {els : List α} {bs : List β} (h : R a b) (t : All2 R els bs) : All2 R (a :: els) (b :: bs)
theorem All2.mono {α β : Type} {R S : α → β → Prop} (hrs : ∀ a b, R a b → S a b) {els : List α} {bs : List β} (h : All2 R els bs) : All2 S els bs := by
  induction h with
  | nil => exact .nil
  | cons h _ ih => exact .cons (hrs _ _ h) ih
theorem All2.append {α β : Type} {R : α → β → Prop} {els els' : List α} {bs bs' : List β} (h : All2 R els bs) (h' : All2 R els' bs') : All2 R (els ++ els') (bs ++ bs') := by
  induction h with
  | nil => exact h'
  | cons h _ ih => exact .cons h ih
theorem flatten_length {css : List (List Value)} {sz : Nat} (h : ∀ c ∈ css, c.length = sz) : css.flatten.length = css.length * sz := by
  induction css with
  | nil => simp
  | cons c css ih =>
    have h1 := h c (by simp)
    have h2 := ih fun x hx => h x (by simp [hx])
    simp [h1, h2, Nat.add_mul, Nat.add_comm]
def RdSl {α : Type} (R : FH → List Value → α → Prop) (sz : Nat) (g : FH) (v : Value) (els : List α) : Prop :=
  ∃ css, RdRow g sz v els.length css.flatten ∧ (∀ c ∈ css, c.length = sz) ∧ All2 (R g) css els
theorem Trip.top {P : Program} {f : FuncId} {args : List Value} {W : World} {Φ : FH → Prop} {post : Value → List HP → Prop} (hΦ : Φ fun b => W.heap[b]?) (hp : ∀ v l, post v l → v = .bool true) (ht : Trip P f args [fz Φ] post) :
    Calls P f args.toArray W fun e w' => e = .returned (.bool true) ∧ Below W.heap.size W w' := by
  have hF : frz (fun b => (W.heap[b]?).map fun o => (false, o)) = fun b => W.heap[b]? := by
    funext b
    unfold frz
    cases h : W.heap[b]? <;> simp [h]
  have hold : Holds [fz Φ] (fun b => (W.heap[b]?).map fun o => (false, o)) W := by
    unfold Holds
    refine ⟨fun b => (W.heap[b]?).map fun o => (false, o), fun b => (W.heap[b]?).map fun o => (false, o), ⟨_, fun _ => none, fun b => .l _, ?_, trivial⟩, fun b => ?_, fun b x hb => ?_⟩
    · unfold fz
      rw [hF]
      exact hΦ
    · show J1 ((W.heap[b]?).map _) ((W.heap[b]?).map _) ((W.heap[b]?).map _)
      cases W.heap[b]? with
      | none => exact .l _
      | some o => exact .f o
    · cases hw : W.heap[b]? with
      | none => simp [hw] at hb
      | some o => simp [hw] at hb; subst hb; rfl
  refine (ht.use _ W hold).mono ?_
  rintro e w' ⟨v, l, rfl, hpost, hl, hx⟩
  refine ⟨by rw [hp v l hpost], hx.1, hx.2.1, hx.2.2.1, hx.2.2.2, fun k hk => ?_⟩
  have := hl.satF k (false, W.heap[k]) (by simp [hk])
  rw [this]
  simp [hk]
section
variable {P : Program} {e : Env} {C : List HP} {ty : TypeId}
theorem Rdo.eqslnil {x y : Operand} {a : Option Addr} {n c : Nat} {t u e' : TypeId} [h : EL P t e'] (hx : evl e x = some (.slice a n c)) (hy : evl e y = some (.slice none 0 0)) : Rdo P e C (.binOp .eql t x y u) ty (.bool a.isNone) := by
  unfold Rdo
  intro G w a' n' dst pos after g hl' he
  simp [execOp, he.eval hx, he.eval hy, eqGuard_at_slice, binOp, run_equal_slice_nil w t e' a n c h.pf]
theorem Rdo.eqs {x y : Operand} {p q : ByteArray} {t u : TypeId} (hx : evl e x = some (.string p)) (hy : evl e y = some (.string q)) : Rdo P e C (.binOp .eql t x y u) ty (.bool (p.toList == q.toList)) := by
  unfold Rdo
  intro G w a' n' dst pos after g hl' he
  simp [execOp, he.eval hx, he.eval hy, eqGuard_at_string, binOp, Op.stringOp]
theorem Rdo.min {x y : Operand} {t t' : TypeId} {k : IntKind} {p q : Int} (hx : evl e x = some (.int k p)) (hy : evl e y = some (.int k q)) :
    Rdo P e C (.call { callee := .builtin .min, args := [x, y].toArray, argTypes := [t, t'].toArray }) ty (.int k (if q < p then q else p)) := by
  unfold Rdo
  intro G w a' n dst pos after g hl' he
  simp [execOp, resolve, invoke, builtin, he.eval hx, he.eval hy, run_min_int2]
theorem Rdo.max {x y : Operand} {t t' : TypeId} {k : IntKind} {p q : Int} (hx : evl e x = some (.int k p)) (hy : evl e y = some (.int k q)) :
    Rdo P e C (.call { callee := .builtin .max, args := [x, y].toArray, argTypes := [t, t'].toArray }) ty (.int k (if q > p then q else p)) := by
  unfold Rdo
  intro G w a' n dst pos after g hl' he
  simp [execOp, resolve, invoke, builtin, he.eval hx, he.eval hy, run_max_int2]
theorem Rdo.and {x y : Operand} {xt yt : TypeId} {k : IntKind} {p q : Int} (hx : evl e x = some (.int k p)) (hy : evl e y = some (.int k q)) : Rdo P e C (.binOp .and xt x y yt) ty (.int k (bits .and k p q)) := by
  unfold Rdo
  intro G w a n dst pos after g hl he
  simp [execOp, he.eval hx, he.eval hy, eqGuard_and, binOp_and, intBits_and]
theorem Rdo.or {x y : Operand} {xt yt : TypeId} {k : IntKind} {p q : Int} (hx : evl e x = some (.int k p)) (hy : evl e y = some (.int k q)) : Rdo P e C (.binOp .or xt x y yt) ty (.int k (bits .or k p q)) := by
  unfold Rdo
  intro G w a n dst pos after g hl he
  simp [execOp, he.eval hx, he.eval hy, eqGuard_or, binOp_or, intBits_or]
theorem Rdo.xor {x y : Operand} {xt yt : TypeId} {k : IntKind} {p q : Int} (hx : evl e x = some (.int k p)) (hy : evl e y = some (.int k q)) : Rdo P e C (.binOp .xor xt x y yt) ty (.int k (bits .xor k p q)) := by
  unfold Rdo
  intro G w a n dst pos after g hl he
  simp [execOp, he.eval hx, he.eval hy, eqGuard_xor, binOp_xor, intBits_xor]
theorem Rdo.rem {x y : Operand} {xt yt : TypeId} {k : IntKind} {p q : Int} (hx : evl e x = some (.int k p)) (hy : evl e y = some (.int k q)) (hq : q ≠ 0) : Rdo P e C (.binOp .rem xt x y yt) ty (.int k (p.tmod q)) := by
  unfold Rdo
  intro G w a n dst pos after g hl he
  simp [execOp, he.eval hx, he.eval hy, eqGuard_rem, binOp_rem, Op.intDiv, hq]
theorem Rdo.quo {x y : Operand} {xt yt : TypeId} {k : IntKind} {p q : Int} (hx : evl e x = some (.int k p)) (hy : evl e y = some (.int k q)) (hq : q ≠ 0) : Rdo P e C (.binOp .quo xt x y yt) ty (.int k (k.wrap (p.tdiv q))) := by
  unfold Rdo
  intro G w a n dst pos after g hl he
  simp [execOp, he.eval hx, he.eval hy, eqGuard_quo, binOp_quo, Op.intDiv, hq]
theorem Rdo.convInt {x : Operand} {src dst : TypeId} {k k' : IntKind} {p : Int} [hs : IK P src k'] [hd : IK P dst k] (hx : evl e x = some (.int k' p)) : Rdo P e C (.convert src dst x) ty (.int k (k.wrap p)) := by
  unfold Rdo
  intro G w a n d pos after g hl he
  simp [execOp, he.eval hx, convert, run_underlying hs.pf, run_underlying hd.pf, Conv.intToInt]
def u8c (b : UInt8) : Value := .int .u8 (b.toNat : Int)
def bytesC (bs : List UInt8) : List Value := bs.map u8c
theorem foldl_bytes (bs : List UInt8) : ∀ s : ByteArray, (bs.map fun b : UInt8 => (b.toNat : Int)).foldl (fun r n => r.push (UInt8.ofNat n.toNat)) s = ⟨s.data ++ bs.toArray⟩ := by
  induction bs with
  | nil => intro s; simp
  | cons b bs ih =>
    intro s
    simp only [List.map_cons, List.foldl_cons]
    rw [ih]
    simp [ByteArray.push, Array.append_assoc]
theorem Rdo.bytesStr {x : Operand} {ad : Option Addr} {cap : Nat} {src dst e' : TypeId} {n : Nat} {bs : List UInt8} [hs : EL P src e'] [hk : IK P e' .u8] [hd : ST P dst] (hx : evl e x = some (.slice ad n cap)) (hsrc : Src P C 1 (.slice ad n cap) n (bytesC bs)) :
    Rdo P e C (.convert src dst x) ty (.string ⟨bs.toArray⟩) := by
  unfold Rdo
  intro G w a m d pos after g hl he
  unfold Src at hsrc
  obtain ⟨h1, h2⟩ := hsrc G w hl
  have h3 : (convert src dst (.slice ad n cap)).run P w = .ok (.string ⟨bs.toArray⟩) w := by
    rw [run_convert_bytes_string w src dst e' ad n cap hs.pf hk.pf hd.pf]
    cases ad with
    | none =>
      simp [Builtin.firstCells] at h2
      have : bs = [] := by simpa [bytesC] using h2.symm
      subst this
      simp [Conv.bytesToString]
      rfl
    | some ad =>
      simp only [Builtin.firstCells, Nat.mul_one] at h2
      have h4 := run_bytesToString (P := P) w ad n cap (bs.map fun b : UInt8 => (b.toNat : Int)) (by rw [h2]; simp [bytesC, u8c, Function.comp_def])
      rw [h4, foldl_bytes]
      simp
  simp [execOp, he.eval hx, h3]
end
theorem GhE.part {l rest : List HP} {α : Type} {Φ : FH → Prop} {φ : α → Prop} {Ψ : α → FH → Prop} (hp : Pk l (Go.Proofs.YtomijhgicennbaaGreat.fz Φ) rest) (h : ∀ g, Φ g → ∃ x, φ x ∧ Ψ x g) : GhE l φ (fun x => Go.Proofs.YtomijhgicennbaaGreat.fz (Ψ x) :: rest) := by
  unfold GhE
  intro F w hl
  unfold Pk at hp
  have h1 : Holds (exH (fun x : α => Go.Proofs.YtomijhgicennbaaGreat.fz fun g => φ x ∧ Ψ x g) :: rest) F w := (hl.perm hp).imp fun r hr => by
    unfold Go.Proofs.YtomijhgicennbaaGreat.fz at hr
    obtain ⟨x, h2⟩ := h _ hr
    unfold exH Go.Proofs.YtomijhgicennbaaGreat.fz
    exact ⟨x, h2⟩
  obtain ⟨x, h3⟩ := h1.open_ex
  exact ⟨x, h3.fz_fact fun g hg => hg.1, h3.fz_imp fun g hg => hg.2⟩
theorem Gh.fz2 {l rest : List HP} {Φ Ψ : FH → Prop} (hp : Pk l (Go.Proofs.YtomijhgicennbaaGreat.fz fun g => Φ g ∧ Ψ g) rest) : Gh l (Go.Proofs.YtomijhgicennbaaGreat.fz Φ :: Go.Proofs.YtomijhgicennbaaGreat.fz Ψ :: rest) := by
  unfold Gh
  intro F w hl
  unfold Pk at hp
  have h1 := ((hl.perm hp).fz_dup).fz_imp (Ψ := Φ) fun g hg => hg.1
  exact ((h1.perm (List.Perm.swap _ _ _)).fz_imp (Ψ := Ψ) fun g hg => hg.2).perm (List.Perm.swap _ _ _)
theorem Gh.fzAnd {l rest rest' : List HP} {Φ Ψ : FH → Prop} (hΦ : Mono Φ) (hΨ : Mono Ψ) (hp : Pk l (Go.Proofs.YtomijhgicennbaaGreat.fz Φ) rest) (hp' : Pk rest (Go.Proofs.YtomijhgicennbaaGreat.fz Ψ) rest') : Gh l ((Go.Proofs.YtomijhgicennbaaGreat.fz fun g => Φ g ∧ Ψ g) :: rest') := by
  unfold Gh
  intro F w hl
  unfold Pk at hp hp'
  exact Holds.fz_and hΦ hΨ ((hl.perm hp).perm (List.Perm.cons _ hp'))
theorem Gh.fzImp {l rest : List HP} {Φ Ψ : FH → Prop} (hp : Pk l (Go.Proofs.YtomijhgicennbaaGreat.fz Φ) rest) (h : ∀ g, Φ g → Ψ g) : Gh l (Go.Proofs.YtomijhgicennbaaGreat.fz Ψ :: rest) := by
  unfold Gh
  intro F w hl
  unfold Pk at hp
  exact (hl.perm hp).fz_imp h
theorem Gh.fzAlso {l rest : List HP} {Φ Ψ : FH → Prop} (hp : Pk l (Go.Proofs.YtomijhgicennbaaGreat.fz Φ) rest) (h : ∀ g, Φ g → Ψ g) : Gh l (Go.Proofs.YtomijhgicennbaaGreat.fz Ψ :: Go.Proofs.YtomijhgicennbaaGreat.fz Φ :: rest) := by
  unfold Gh
  intro F w hl
  unfold Pk at hp
  exact (hl.perm hp).fz_also h
theorem Gh.fzTrue {l : List HP} {Φ : FH → Prop} (h : ∀ g, Φ g) : Gh l (Go.Proofs.YtomijhgicennbaaGreat.fz Φ :: l) := by
  unfold Gh
  exact fun F w hl => hl.fz_true h
attribute [irreducible] icel fz
section
variable {K : Env → List HP → Prop} {Q : Exit → Env → List HP → Prop} {e : Env} {l : List HP} {id i : Nat}
theorem Thn.n (h : K e l) : Thn K Q .normal e l := h
theorem Thn.r (h : Q .ret e l) : Thn K Q .ret e l := h
theorem Thn.x (h : Q (.exit i) e l) : Thn K Q (.exit i) e l := h
theorem Blk.n (h : Q .normal e l) : Blk id Q .normal e l := h
theorem Blk.r (h : Q .ret e l) : Blk id Q .ret e l := h
theorem Blk.here (h : Q .normal e l) : Blk id Q (.exit id) e l := by simp only [Blk, beq_self_eq_true, if_true]; exact h
theorem Blk.other (hn : (i == id) = false) (h : Q (.exit i) e l) : Blk id Q (.exit i) e l := by simp only [Blk, hn, Bool.false_eq_true, if_false]; exact h
end
theorem WpL.lst {P : Program} {n : Nat} {ops : Array Oper} {Q : Exit → Env → List HP → Prop} {e : Env} {l l' : List HP} {rest : List Oper} (h : l = l') (k : WpL P n ops Q rest e l') : WpL P n ops Q rest e l := h ▸ k
theorem WpA.lst {P : Program} {n : Nat} {ops : Array Oper} {Q : Exit → Env → List HP → Prop} {e : Env} {l l' C : List HP} {fin : Array Bool} {K : Array Bool → Env → List HP → Prop} {k : Nat} {listed : Array Bool} (h : l = l') (hk : WpA P n ops Q fin K k listed C e l') : WpA P n ops Q fin K k listed C e l := h ▸ hk
theorem WpR.lst {P : Program} {n : Nat} {ops : Array Oper} {Q : Exit → Env → List HP → Prop} {e : Env} {l l' : List HP} {m : Nat} {listed : Array Bool} (h : l = l') (hk : WpR P n ops Q m listed e l') : WpR P n ops Q m listed e l := h ▸ hk
theorem Wp.condK {P : Program} {R : Rnd} {n : Nat} {Q : Exit → Env → List HP → Prop} {e : Env} {l : List HP} {x : Operand} {c d : Code} {b : Bool} (hx : evl e x = some (.bool b)) (h : b = true) (k : Wp P R n c Q e l) : Wp P R n (.cond x c d) Q e l := by subst h; exact Wp.condT hx k
theorem Wp.condL {P : Program} {R : Rnd} {n : Nat} {Q : Exit → Env → List HP → Prop} {e : Env} {l : List HP} {x : Operand} {c d : Code} {b : Bool} (hx : evl e x = some (.bool b)) (h : b = false) (k : Wp P R n d Q e l) : Wp P R n (.cond x c d) Q e l := by subst h; exact Wp.condF hx k
theorem Wp.loopOnce {P : Program} {R : Rnd} {n : Nat} {Q : Exit → Env → List HP → Prop} {e : Env} {l : List HP} {c : Code} (h : Wp P R n c (Thn (fun _ _ => False) Q) e l) : Wp P R n (.loop c) Q e l :=
  Wp.loop (fun _ e' l' => e' = e ∧ l' = l) 0 ⟨rfl, rfl⟩ fun k e' l' ⟨he, hl⟩ => by
    subst he hl
    refine Wp.mono h fun x e' l' hq => ?_
    cases x <;> first | exact hq.elim | exact hq
theorem Gh.perm {l l' : List HP} (h : l.Perm l') : Gh l l' := fun F w hl => hl.perm h
theorem Gh.rfl_ {l : List HP} : Gh l l := fun F w hl => hl
theorem Tk.tail {A k : List HP} : Tk (A ++ k) k A := fun F w h => h.perm List.perm_append_comm
theorem IterOK.perm {P : Program} {gf : FuncId} {cap : List Value} {α : Type} {enc : α → List Value} {see own : List HP} {ks ks' : List α} (hk : ks.Perm ks') (h : IterOK P gf cap enc see own (fun xs => xs.Perm ks)) : IterOK P gf cap enc see own (fun xs => xs.Perm ks') := by
  have : (fun xs : List α => xs.Perm ks) = fun xs => xs.Perm ks' := funext fun xs => propext ⟨fun h => h.trans hk, fun h => h.trans hk.symm⟩
  rwa [this] at h
theorem over_ok {e : Env} {t : Nat} {v v' : Value} (hv : elook e t = some v) (h : v = v') : ∀ i u, elook (eset e t v') i = some u → elook e i = some u := by
  subst h
  intro i u hu
  rw [elook_eset] at hu
  by_cases hi : t = i
  · subst hi; rw [if_pos rfl] at hu; rw [hv]; exact hu
  · rw [if_neg hi] at hu; exact hu
section
variable {P : Program} {n : Nat} {ops : Array Oper} {Q : Exit → Env → List HP → Prop} {e : Env} {l C : List HP} {d : Option Nat} {op : Op} {ty : TypeId} {pos : String} {after : Array Edge} {rest : List Oper} {j t : Nat} {b c : Bool}
theorem WpL.gT (ht : (ops[j]?).bind (·.dst) = some t) (hv : elook e t = some (.bool c)) (h : c = true) (k : WpL P n ops Q (⟨d, op, ty, pos, after, some (j, b)⟩ :: rest) (eset e t (.bool true)) l) : WpL P n ops Q (⟨d, op, ty, pos, after, some (j, b)⟩ :: rest) e l :=
  WpL.env (over_ok hv (by rw [h])) k
theorem WpL.gF (ht : (ops[j]?).bind (·.dst) = some t) (hv : elook e t = some (.bool c)) (h : c = false) (k : WpL P n ops Q (⟨d, op, ty, pos, after, some (j, b)⟩ :: rest) (eset e t (.bool false)) l) : WpL P n ops Q (⟨d, op, ty, pos, after, some (j, b)⟩ :: rest) e l :=
  WpL.env (over_ok hv (by rw [h])) k
variable {fin : Array Bool} {K : Array Bool → Env → List HP → Prop} {k : Nat} {listed : Array Bool}
theorem WpA.env {e' : Env} (hs : ∀ i v, elook e' i = some v → elook e i = some v) (h : WpA P n ops Q fin K k listed C e' l) : WpA P n ops Q fin K k listed C e l :=
  fun rC F G w0 w a ds hC hj hl hx he => h rC F G w0 w a ds hC hj hl hx (he.weaken hs)
end
theorem WpA.tT {P : Program} {n : Nat} {ops : Array Oper} {Q : Exit → Env → List HP → Prop} {e : Env} {l C : List HP} {fin : Array Bool} {K : Array Bool → Env → List HP → Prop} {k : Nat} {listed : Array Bool} (t : Nat) {c : Bool} (hv : elook e t = some (.bool c))
    (h : c = true) (k1 : WpA P n ops Q fin K k listed C (eset e t (.bool true)) l) : WpA P n ops Q fin K k listed C e l := WpA.env (over_ok hv (by rw [h])) k1
theorem WpA.tF {P : Program} {n : Nat} {ops : Array Oper} {Q : Exit → Env → List HP → Prop} {e : Env} {l C : List HP} {fin : Array Bool} {K : Array Bool → Env → List HP → Prop} {k : Nat} {listed : Array Bool} (t : Nat) {c : Bool} (hv : elook e t = some (.bool c))
    (h : c = false) (k1 : WpA P n ops Q fin K k listed C (eset e t (.bool false)) l) : WpA P n ops Q fin K k listed C e l := WpA.env (over_ok hv (by rw [h])) k1
theorem readyIn_all {ops : Array Oper} {listed : Array Bool} : readyIn ops (Array.replicate ops.size true) listed = Region.ready .any ops listed := by
  refine List.filter_eq_self.2 fun i hi => ?_
  obtain ⟨_, oi, hoi, _⟩ := mem_ready.1 hi
  have := (Array.getElem?_eq_some_iff.1 hoi).1
  simp [this]
theorem wpAnyJ_all {P : Program} {ops : Array Oper} {Q : Exit → Act → World → Prop} : ∀ (k : Nat) (listed : Array Bool) (a : Act) (w : World),
    wpAnyIn Fence.wide 0 P .any ops Q k listed a w ↔ wpAnyJ P ops (Array.replicate ops.size true) (fun _ => True) Q (fun _ a w => Q .normal a w) k listed a w
  | 0, listed, a, w => by simp only [wpAnyIn, wpAnyJ, readyIn_all, true_and]
  | k + 1, listed, a, w => by
    simp only [wpAnyIn, wpAnyJ, readyIn_all, true_and]
    exact ⟨fun h => ⟨h.1, fun i hi => wpOpIn_mono (fun a' w' h' => (wpAnyJ_all k _ a' w').1 h') (h.2 i hi)⟩, fun h => ⟨h.1, fun i hi => wpOpIn_mono (fun a' w' h' => (wpAnyJ_all k _ a' w').2 h') (h.2 i hi)⟩⟩
section
variable {P : Program} {n : Nat} {ops : Array Oper} {Q : Exit → Env → List HP → Prop} {e : Env} {l : List HP} {m : Nat} {listed : Array Bool}
theorem WpR.env {e' : Env} (hs : ∀ i v, elook e' i = some v → elook e i = some v) (h : WpR P n ops Q m listed e' l) : WpR P n ops Q m listed e l :=
  fun F w a ds hl he => h F w a ds hl (he.weaken hs)
theorem WpR.take_ {i d : Nat} {op : Op} {ty : TypeId} {pos : String} {after : Array Edge} {g : Option (Nat × Bool)} {v : Value} (hi : ops[i]? = some ⟨some d, op, ty, pos, after, g⟩)
    (hsel : Region.noSelect ops = true) (hfree : Region.free .any ops listed i = true) (hr : (Region.ready .any ops listed).contains i = true)
    (hw : ∀ a, EnvAt n e a → (Region.wanted ⟨some d, op, ty, pos, after, g⟩ (yielded ops a.tmps) = true ∧ ∀ w, (execOp a.eval ⟨some d, op, ty, pos, after, g⟩).run P w = .ok (.value v) w) ∨ (Region.wanted ⟨some d, op, ty, pos, after, g⟩ (yielded ops a.tmps) = false ∧ v = undef))
    (hd : Nat.blt d n = true) (h : WpR P n ops Q m (listed.setIfInBounds i true) (eset e d v) l) : WpR P n ops Q (m + 1) listed e l := by
  intro F w a ds hl he
  refine (wpAnyJ_all _ _ _ _).2 ?_
  have hfi : (Array.replicate ops.size true).getD i false = true := by
    have := (Array.getElem?_eq_some_iff.1 hi).1
    simp [this]
  refine wpAnyJ_first hi hfi hsel (fun c a w hq => absurd hq.1 (by simp [calmX])) m listed a w (Region.free_spec hi hfree) (by simpa using hr) ?_ ((wpAnyJ_all _ _ _ _).1 (h F w _ ds hl (he.put v hd)))
  rcases hw a he.toEnvAt with ⟨h1, h2⟩ | h1
  · exact .inl ⟨h1, fun w _ => h2 w⟩
  · exact .inr h1
theorem Rdo.any {C : List HP} {op : Op} {ty : TypeId} {v : Value} (hC : C = []) (h : Rdo P e C op ty v) (a : Act) (he : EnvAt n e a) (dst : Option Tmp) (pos : String) (after : Array Edge) (g : Option (Nat × Bool)) (w : World) : (execOp a.eval ⟨dst, op, ty, pos, after, g⟩).run P w = .ok (.value v) w := by
  subst hC
  refine h (fun _ => none) w a n dst pos after g ?_ he
  exact ⟨fun _ => none, fun _ => none, trivial, fun b => .l _, fun b x hb => by cases hb⟩
theorem WpR.take {i d : Nat} {op : Op} {ty : TypeId} {pos : String} {after : Array Edge} {v : Value} (hi : ops[i]? = some ⟨some d, op, ty, pos, after, none⟩)
    (hsel : Region.noSelect ops = true) (hfree : Region.free .any ops listed i = true) (hr : (Region.ready .any ops listed).contains i = true)
    (hv : Rdo P e [] op ty v) (hd : Nat.blt d n = true) (h : WpR P n ops Q m (listed.setIfInBounds i true) (eset e d v) l) : WpR P n ops Q (m + 1) listed e l :=
  WpR.take_ hi hsel hfree hr (fun a he => .inl ⟨by simp [Region.wanted], fun w => Rdo.any rfl hv a he _ _ _ _ w⟩) hd h
theorem WpR.want {i d j t : Nat} {b c : Bool} {op : Op} {ty : TypeId} {pos : String} {after : Array Edge} {v : Value} (hi : ops[i]? = some ⟨some d, op, ty, pos, after, some (j, b)⟩) (ht : (ops[j]?).bind (·.dst) = some t) (hc : elook e t = some (.bool c)) (hb : c = b)
    (hsel : Region.noSelect ops = true) (hfree : Region.free .any ops listed i = true) (hr : (Region.ready .any ops listed).contains i = true)
    (hv : Rdo P e [] op ty v) (hd : Nat.blt d n = true) (h : WpR P n ops Q m (listed.setIfInBounds i true) (eset e d v) l) : WpR P n ops Q (m + 1) listed e l :=
  WpR.take_ hi hsel hfree hr (fun a he => .inl ⟨by simp [Region.wanted, yielded, ht, he.at_ t _ hc, hb], fun w => Rdo.any rfl hv a he _ _ _ _ w⟩) hd h
theorem WpR.pass {i d j t : Nat} {b c : Bool} {op : Op} {ty : TypeId} {pos : String} {after : Array Edge} (hi : ops[i]? = some ⟨some d, op, ty, pos, after, some (j, b)⟩) (ht : (ops[j]?).bind (·.dst) = some t) (hc : elook e t = some (.bool c)) (hb : c = !b)
    (hsel : Region.noSelect ops = true) (hfree : Region.free .any ops listed i = true) (hr : (Region.ready .any ops listed).contains i = true) (hd : Nat.blt d n = true)
    (h : WpR P n ops Q m (listed.setIfInBounds i true) (eset e d undef) l) : WpR P n ops Q (m + 1) listed e l :=
  WpR.take_ hi hsel hfree hr (fun a he => .inr ⟨by subst hb; simp [Region.wanted, yielded, ht, he.at_ t _ hc], rfl⟩) hd h
theorem WpR.one {i : Nat} {d : Option Nat} {op : Op} {ty : TypeId} {pos : String} {after : Array Edge} (hi : ops[i]? = some ⟨d, op, ty, pos, after, none⟩) (hr : Region.ready .any ops listed = [i])
    (h : Stp P n ⟨d, op, ty, pos, after, none⟩ e l (fun e' l' => WpR P n ops Q m (listed.setIfInBounds i true) e' l')) : WpR P n ops Q (m + 1) listed e l := by
  intro F w a ds hl he
  refine ⟨by rw [hr]; simp, fun j hj => ?_⟩
  rw [hr, List.mem_singleton] at hj
  subst hj
  unfold wpOpIn
  simp only [hi]
  rw [if_pos (by simp [Region.wanted])]
  refine ⟨fun _ _ => trivial, h F w a ds hl he _ _ ?_⟩
  intro e' l' a' w' he' hl' hx' hq
  exact wpAny_Q (fun x a w hh => SPost.mono hx' (fun _ _ _ h => h) hh) _ _ _ _ (hq F w' a' ds hl' he')
theorem WpR.oneG {i j t : Nat} {b c : Bool} {d : Option Nat} {op : Op} {ty : TypeId} {pos : String} {after : Array Edge} (hi : ops[i]? = some ⟨d, op, ty, pos, after, some (j, b)⟩) (ht : (ops[j]?).bind (·.dst) = some t) (hc : elook e t = some (.bool c)) (hb : c = b) (hr : Region.ready .any ops listed = [i])
    (h : Stp P n ⟨d, op, ty, pos, after, some (j, b)⟩ e l (fun e' l' => WpR P n ops Q m (listed.setIfInBounds i true) e' l')) : WpR P n ops Q (m + 1) listed e l := by
  intro F w a ds hl he
  refine ⟨by rw [hr]; simp, fun j hj => ?_⟩
  rw [hr, List.mem_singleton] at hj
  subst hj
  unfold wpOpIn
  simp only [hi]
  rw [if_pos (by simp [Region.wanted, yielded, ht, he.at_ t _ hc, hb])]
  refine ⟨fun _ _ => trivial, h F w a ds hl he _ _ ?_⟩
  intro e' l' a' w' he' hl' hx' hq
  exact wpAny_Q (fun x a w hh => SPost.mono hx' (fun _ _ _ h => h) hh) _ _ _ _ (hq F w' a' ds hl' he')
theorem WpR.tT (t : Nat) {c : Bool} (hv : elook e t = some (.bool c)) (h : c = true) (k1 : WpR P n ops Q m listed (eset e t (.bool true)) l) : WpR P n ops Q m listed e l := WpR.env (over_ok hv (by rw [h])) k1
theorem WpR.tF (t : Nat) {c : Bool} (hv : elook e t = some (.bool c)) (h : c = false) (k1 : WpR P n ops Q m listed (eset e t (.bool false)) l) : WpR P n ops Q m listed e l := WpR.env (over_ok hv (by rw [h])) k1
end
def phaseOkL (ops : Array Oper) (fin listed : Array Bool) : Bool :=
  (List.range ops.size).all fun j => fin.getD j false || listed.getD j true || match ops[j]? with
    | some oj => (List.range ops.size).all fun i => !fin.getD i false || listed.getD i true || oj.after.any fun e => Region.binds .any e && e.on == i
    | none => true
theorem phaseOkL_mono {ops : Array Oper} {fin listed : Array Bool} (i : Nat) (h : phaseOkL ops fin listed = true) : phaseOkL ops fin (listed.setIfInBounds i true) = true := by
  have up : ∀ j, listed.getD j true = true → (listed.setIfInBounds i true).getD j true = true := by
    intro j hj
    by_cases hij : i = j
    · subst hij
      rcases Nat.lt_or_ge i listed.size with h' | h'
      · simp [h']
      · simp [Array.getElem?_eq_none h']
    · rw [getD_set_ne true hij]; exact hj
  unfold phaseOkL at h ⊢
  refine List.all_eq_true.2 fun j hj => ?_
  have h1 := List.all_eq_true.1 h j hj
  simp only [Bool.or_eq_true] at h1 ⊢
  rcases h1 with (h1 | h1) | h1
  · exact .inl (.inl h1)
  · exact .inl (.inr (up j h1))
  · right
    cases ho : ops[j]? with
    | none => rfl
    | some oj =>
      rw [ho] at h1
      simp only at h1 ⊢
      refine List.all_eq_true.2 fun q hq => ?_
      have h2 := List.all_eq_true.1 h1 q hq
      simp only [Bool.or_eq_true] at h2 ⊢
      rcases h2 with (h2 | h2) | h2
      · exact .inl (.inl h2)
      · exact .inl (.inr (up q h2))
      · exact .inr h2
theorem wpAny_phaseL {P : Program} {ops : Array Oper} {J : World → Prop} {Q : Exit → Act → World → Prop} {fin : Array Bool} {m : Nat} :
    ∀ (k : Nat) (listed : Array Bool) (a : Act) (w : World), phaseOkL ops fin listed = true → listed.size = ops.size → wpAnyJ P ops fin J Q (wpAnyIn Fence.wide 0 P .any ops Q m) k listed a w → wpAnyIn Fence.wide 0 P .any ops Q (k + m) listed a w := by
  have split : ∀ listed : Array Bool, phaseOkL ops fin listed = true → listed.size = ops.size → readyIn ops fin listed = [] ∨ Region.ready .any ops listed = readyIn ops fin listed := by
    intro listed hph hsz
    by_cases hall : ∀ j ∈ Region.ready .any ops listed, fin.getD j false = true
    · exact .inr (List.filter_eq_self.2 hall).symm
    · left
      obtain ⟨j, hj⟩ := Classical.not_forall.1 hall
      obtain ⟨hj, hjf⟩ := Classical.not_imp.1 hj
      have hjf' : fin.getD j false = false := by simpa using hjf
      obtain ⟨hjun, oj, hoj, hdep⟩ := mem_ready.1 hj
      refine List.filter_eq_nil_iff.2 fun i hi hfi => ?_
      obtain ⟨hiun, oi, hoi, _⟩ := mem_ready.1 hi
      have hjlt : j < ops.size := (Array.getElem?_eq_some_iff.1 hoj).1
      have hilt : i < ops.size := (Array.getElem?_eq_some_iff.1 hoi).1
      unfold phaseOkL at hph
      have h1 := List.all_eq_true.1 hph j (List.mem_range.2 hjlt)
      rw [hjf', Bool.false_or, hjun, Bool.false_or, hoj] at h1
      have h2 := List.all_eq_true.1 h1 i (List.mem_range.2 hilt)
      rw [hfi, Bool.not_true, Bool.false_or, hiun, Bool.false_or] at h2
      obtain ⟨e, he, hb⟩ := Array.any_eq_true'.1 h2
      simp only [Bool.and_eq_true, beq_iff_eq] at hb
      have h3 := hdep e he hb.1
      rw [hb.2] at h3
      have hl : i < listed.size := by omega
      simp [hl] at hiun h3
      rw [hiun] at h3
      cases h3
  intro k
  induction k with
  | zero =>
    intro listed a w hph hsz h
    rw [Nat.zero_add]
    exact h.2.2
  | succ k ih =>
    intro listed a w hph hsz h
    rcases split listed hph hsz with h0 | h0
    · exact wpAny_fuel_le (h.2.1 h0) (k + 1)
    · by_cases hn : readyIn ops fin listed = []
      · exact wpAny_fuel_le (h.2.1 hn) (k + 1)
      · rw [Nat.add_right_comm]
        refine ⟨fun hr => absurd (h0 ▸ hr) hn, fun i hi => ?_⟩
        rw [h0] at hi
        exact wpOpIn_mono (fun a' w' h' => ih _ a' w' (phaseOkL_mono i hph) (by simpa using hsz) h') (h.2.2 i hi)
theorem WpR.phaseL {P : Program} {n : Nat} {ops : Array Oper} {Q : Exit → Env → List HP → Prop} {e : Env} {l : List HP} {m : Nat} {listed : Array Bool} (fin : Array Bool) (k : Nat) (C : List HP) {l' : List HP} (hsz : listed.size = ops.size) (hph : phaseOkL ops fin listed = true) (ht : Tk l C l')
    (h : WpA P n ops Q fin (fun listed e l => WpR P n ops Q m listed e (C ++ l)) k listed C e l') : WpR P n ops Q (k + m) listed e l := by
  intro F w a ds hl he
  obtain ⟨rC, G, hC, hj, hl'⟩ := (ht F w hl).to_parts
  refine wpAny_phaseL (J := fun w => Sat w G) k listed a w hph hsz (wpAnyJ_K (fun _ _ _ h => h) ?_ _ _ _ _ (h rC F G w w a ds hC hj hl' (Ext.refl w) he))
  rintro li a' w' ⟨e', l'', he', hl'', hx, hK⟩
  exact wpAny_Q (fun x a w hq => SPost.mono hx (fun _ _ _ h => h) hq) _ _ _ _ (hK F w' a' ds (Holds.of_parts hC hj hl'') he')
def KeepsJ (P : Program) (J : World → Prop) (o : Oper) (a : Act) : Prop := o.guard = none ∧ ∀ w, J w → ∃ v w', (execOp a.eval o).run P w = .ok (.value v) w' ∧ J w'
theorem wpOp_keepsJ {P : Program} {J : World → Prop} {ops : Array Oper} {Q : Exit → Act → World → Prop} {j : Nat} {oj : Oper} (hj : ops[j]? = some oj) {K : Act → World → Prop} {a : Act} {w : World} (hk : KeepsJ P J oj a) (hJ : J w)
    (h : wpOpIn Fence.wide 0 P ops Q j K a w) : wpOpIn Fence.wide 0 P ops Q j (fun a' w' => K a' w' ∧ J w') a w := by
  unfold wpOpIn at h ⊢
  simp only [hj] at h ⊢
  have hw : Region.wanted oj (yielded ops a.tmps) = true := by simp [Region.wanted, hk.1]
  rw [if_pos hw] at h ⊢
  unfold Oper.wpIn at h ⊢
  refine ⟨h.1, ?_⟩
  have h2 := h.2
  obtain ⟨v, w', hr, hJ'⟩ := hk.2 w hJ
  change oj.uponIn Fence.wide 0 P a _ Q ((execOp a.eval oj).run P w) at h2
  show oj.uponIn Fence.wide 0 P a _ Q ((execOp a.eval oj).run P w)
  rw [hr] at h2 ⊢
  exact ⟨h2, hJ'⟩
theorem KeepsJ.keep {P : Program} {ops : Array Oper} {J : World → Prop} {oi oj : Oper} {a : Act} (hy : KeepsJ P J oi a) (hap : oi.apart ops oj = true) (hs : ∀ cs b, oi.op ≠ .select cs b) (u : Value) (ds : List Deferred) :
    KeepsJ P J oi (({ a with defers := ds } : Act).put oj.dst u) := by
  obtain ⟨_, _, h3⟩ := Oper.apart_spec hap
  have e1 : execOp (({ a with defers := ds } : Act).put oj.dst u).eval oi = execOp a.eval oi := (execOp_put (ops := ops) oi hs { a with defers := ds } oj.dst u h3).trans rfl
  exact ⟨hy.1, by rw [e1]; exact hy.2⟩
def pullOk (ops : Array Oper) (listed : Array Bool) (i : Nat) (H : List Nat) : Bool :=
  (List.range ops.size).all fun k => k == i || listed.getD k true || H.contains k || match ops[k]? with
    | some o => o.after.any fun e => Region.binds .any e && !(listed.getD e.on true) && (e.on == i || !(H.contains e.on))
    | none => true
def FreeU (ops : Array Oper) (listed : Array Bool) (i : Nat) (oi : Oper) : Prop :=
  ∀ j oj, ops[j]? = some oj → j ≠ i → listed.getD j true = false → (∀ e ∈ oj.after, Region.binds .any e = true → e.on ≠ i) → oi.apart ops oj = true
theorem FreeU.list {ops : Array Oper} {listed : Array Bool} {i : Nat} {oi : Oper} (h : FreeU ops listed i oi) {j : Nat} (hj : listed.getD j true = false) : FreeU ops (listed.setIfInBounds j true) i oi := fun k ok hk hki hun hno => by
  refine h k ok hk hki ?_ hno
  by_cases hjk : j = k
  · subst hjk; exact hj
  · rwa [getD_set_ne true hjk] at hun
theorem unl {listed : Array Bool} {i : Nat} (h : listed.getD i true = false) : ¬ listed.getD i false = true := by
  rcases Nat.lt_or_ge i listed.size with h' | h'
  · simp [h'] at h ⊢; exact h
  · simp [Array.getElem?_eq_none h'] at h
theorem wpAny_pull {P : Program} {ops : Array Oper} {J : World → Prop} {Q : Exit → Act → World → Prop} {i : Nat} {oi : Oper} {v : Value} (hi : ops[i]? = some oi)
    (hsel : Region.noSelect ops = true) (hQ : ∀ c a w, Q (.panic c) (a.put oi.dst v) w → Q (.panic c) a w) (H : List Nat) (hiH : H.contains i = false) :
    ∀ (m : Nat) (listed : Array Bool) (a : Act) (w : World), pullOk ops listed i H = true → FreeU ops listed i oi →
      (∀ k ok, H.contains k = true → ops[k]? = some ok → listed.getD k true = false → FreeU ops listed k ok ∧ KeepsJ P J ok a) →
      i ∈ Region.ready .any ops listed → J w → YieldsJ P ops J oi v a →
      wpAnyIn Fence.wide 0 P .any ops Q m (listed.setIfInBounds i true) (a.put oi.dst v) w → wpAnyIn Fence.wide 0 P .any ops Q (m + 1) listed a w := by
  have hs := Region.noSelect_spec hsel
  have self : ∀ (k : Nat) (listed : Array Bool) (a : Act) (w : World), J w → YieldsJ P ops J oi v a → wpAnyIn Fence.wide 0 P .any ops Q k (listed.setIfInBounds i true) (a.put oi.dst v) w →
      wpOpIn Fence.wide 0 P ops Q i (wpAnyIn Fence.wide 0 P .any ops Q k (listed.setIfInBounds i true)) a w := by
    intro k listed a w hJ hy h
    unfold wpOpIn
    simp only [hi]
    rcases hy with ⟨hw, hr⟩ | ⟨hw, rfl⟩
    · rw [if_pos hw]
      refine ⟨fun _ _ => trivial, ?_⟩
      show oi.uponIn Fence.wide 0 P a _ Q ((execOp a.eval oi).run P w)
      rw [hr w hJ]
      exact h
    · rw [if_neg (by simp [hw])]
      exact ⟨fun _ _ => trivial, h⟩
  intro m
  induction m with
  | zero =>
    intro listed a w hpo hfree hH hr hJ hy G
    refine ⟨fun h0 => absurd hr (by rw [h0]; simp), fun j hj => ?_⟩
    by_cases hji : j = i
    · subst hji; exact self 0 listed a w hJ hy G
    · exact absurd (ready_mono hj hji) (by rw [G.1]; simp)
  | succ m ih =>
    intro listed a w hpo hfree hH hr hJ hy G
    refine ⟨fun h0 => absurd hr (by rw [h0]; simp), fun j hj => ?_⟩
    by_cases hji : j = i
    · subst hji; exact self (m + 1) listed a w hJ hy G
    · have h1 := G.2 j (ready_mono hj hji)
      obtain ⟨hjun, oj, hoj, hall⟩ := mem_ready.1 hj
      have hiun := (mem_ready.1 hr).1
      have hnot : ∀ k, listed.getD k true = false → ∀ e ∈ oj.after, Region.binds .any e = true → e.on ≠ k := fun k hk e he hb heq => unl hk (heq ▸ hall e he hb)
      have hjH : H.contains j = true := by
        have h2 := List.all_eq_true.1 hpo j (List.mem_range.2 (Array.getElem?_eq_some_iff.1 hoj).1)
        simp only [hoj, Bool.or_eq_true, beq_iff_eq, hji, hjun, Bool.false_eq_true, false_or] at h2
        rcases h2 with h2 | h2
        · exact h2
        · obtain ⟨e, he, h3⟩ := Array.any_eq_true'.1 h2
          simp only [Bool.and_eq_true, Bool.not_eq_true'] at h3
          exact absurd (hall e he h3.1.1) (unl h3.1.2)
      obtain ⟨hjf, hjk⟩ := hH j oj hjH hoj hjun
      have hap := hfree j oj hoj hji hjun (hnot i hiun)
      let oi' : Oper := { oi with op := .move (.const v) }
      have hlook : ∀ t, t ∈ oi'.looksAt ops → t ∈ oi.looksAt ops := by
        intro t ht
        simp only [Oper.looksAt, oi', Op.operands, List.mem_append] at ht ⊢
        rcases ht with ht | ht
        · simp at ht
        · exact .inr ht
      have hap' : oi'.apart ops oj = true := by
        obtain ⟨a1, a2, a3⟩ := Oper.apart_spec hap
        unfold Oper.apart
        simp only [Bool.and_eq_true]
        constructor
        · cases hd : oi.dst with
          | none => simp [oi', hd]
          | some d => have x1 := a1 d hd; have x2 := a2 d hd; simp [oi', hd, x1, x2]
        · cases hd : oj.dst with
          | none => rfl
          | some d =>
            have x3 := a3 d hd
            simp only [Bool.not_eq_true']
            exact Bool.eq_false_iff.2 fun hc => x3 (hlook d (by simpa using hc))
      have hy' : YieldsFenced P ops oi' v a := by
        refine ⟨?_, fun w => rfl⟩
        rcases hy with ⟨hw, _⟩ | ⟨hw, hv⟩
        · exact .inl ⟨hw, fun w => by simp [oi', execOp, Act.eval]⟩
        · exact .inr ⟨hw, hv⟩
      have h2 := wpOpIn_put (oi := oi') rfl hoj hap' (fun cs b => by simp [oi']) (fun cs b => hs j oj cs b hoj) hQ hy' h1
      have h3 := wpOp_keepsJ hoj hjk hJ (wpOp_shape hoj h2)
      refine wpOpIn_mono (fun a' w' h4 => ?_) h3
      obtain ⟨⟨⟨u, ds, rfl⟩, _, h5⟩, hJ'⟩ := h4
      refine ih (listed.setIfInBounds j true) _ w' ?_ (hfree.list hjun) ?_ (ready_mono hr (Ne.symm hji)) hJ' (hy.keep hap (fun cs b => hs i oi cs b hi) u ds) ?_
      · refine List.all_eq_true.2 fun k hk => ?_
        have h6 := List.all_eq_true.1 hpo k hk
        have up : ∀ x, listed.getD x true = true → (listed.setIfInBounds j true).getD x true = true := by
          intro x hx
          by_cases hxj : j = x
          · subst hxj; rw [hx] at hjun; cases hjun
          · rw [getD_set_ne true hxj]; exact hx
        simp only [Bool.or_eq_true] at h6 ⊢
        rcases h6 with ((h6 | h6) | h6) | h6
        · exact .inl (.inl (.inl h6))
        · exact .inl (.inl (.inr (up k h6)))
        · exact .inl (.inr h6)
        · right
          cases hok : ops[k]? with
          | none => rfl
          | some ok =>
            rw [hok] at h6
            obtain ⟨e, he, h7⟩ := Array.any_eq_true'.1 h6
            refine Array.any_eq_true'.2 ⟨e, he, ?_⟩
            simp only [Bool.and_eq_true, Bool.not_eq_true', Bool.or_eq_true, beq_iff_eq] at h7 ⊢
            obtain ⟨⟨h8, h9⟩, h10⟩ := h7
            have hne : j ≠ e.on := by
              rintro rfl
              rcases h10 with h10 | h10
              · exact hji h10
              · rw [hjH] at h10; cases h10
            exact ⟨⟨h8, by rw [getD_set_ne true hne]; exact h9⟩, h10⟩
      · intro k ok hkH hok hkun
        have hjk' : j ≠ k := by
          rintro rfl
          have := (Array.getElem?_eq_some_iff.1 hoj).1
          rcases Nat.lt_or_ge j listed.size with h' | h'
          · simp [h'] at hkun
          · simp [Array.getElem?_eq_none h'] at hjun
        have hkun' : listed.getD k true = false := by rwa [getD_set_ne true hjk'] at hkun
        obtain ⟨k1, k2⟩ := hH k ok hkH hok hkun'
        exact ⟨k1.list hjun, k2.keep (k1 j oj hoj hjk' hjun (hnot k hkun')) (fun cs b => hs k ok cs b hok) u ds⟩
      · rw [Array.setIfInBounds_comm _ _ hji]
        exact h5
section
variable {P : Program} {n : Nat} {ops : Array Oper} {Q : Exit → Env → List HP → Prop} {e : Env} {l : List HP} {m : Nat} {listed : Array Bool}
inductive Harm (P : Program) (n : Nat) (ops : Array Oper) (e : Env) (C : List HP) : List Nat → Prop where
  | nil : Harm P n ops e C []
  | rd {k : Nat} {H : List Nat} {d : Option Nat} {op : Op} {ty : TypeId} {pos : String} {after : Array Edge} {v : Value} (hi : ops[k]? = some ⟨d, op, ty, pos, after, none⟩) (hv : Rdo P e C op ty v) (h : Harm P n ops e C H) : Harm P n ops e C (k :: H)
  | al {k : Nat} {H : List Nat} {d : Option Nat} {t ty : TypeId} {pos : String} {after : Array Edge} {zs : List Value} (hi : ops[k]? = some ⟨d, .alloc t, ty, pos, after, none⟩) (hz : ZV P t zs) (h : Harm P n ops e C H) : Harm P n ops e C (k :: H)
  | mm {k : Nat} {H : List Nat} {d : Option Nat} {t ty : TypeId} {pos : String} {after : Array Edge} (hi : ops[k]? = some ⟨d, .makeMap t none, ty, pos, after, none⟩) (h : Harm P n ops e C H) : Harm P n ops e C (k :: H)
theorem Harm.spec {C : List HP} {H : List Nat} (h : Harm P n ops e C H) {a : Act} (he : EnvAt n e a) {k : Nat} {ok : Oper} (hk : H.contains k = true) (ho : ops[k]? = some ok) :
    KeepsJ P (fun w => ∃ G, Holds C G w) ok a := by
  induction h with
  | nil => simp at hk
  | @rd k' H' d op ty pos after v hi hv _ ih =>
    by_cases hkk : k = k'
    · subst hkk
      rw [hi] at ho
      cases ho
      exact ⟨rfl, fun w ⟨G, hG⟩ => ⟨v, w, hv G w a n _ _ _ _ hG he, G, hG⟩⟩
    · exact ih (by simpa [hkk] using hk)
  | @al k' H' d t ty pos after zs hi hz _ ih =>
    by_cases hkk : k = k'
    · subst hkk
      rw [hi] at ho
      cases ho
      refine ⟨rfl, fun w ⟨G, hG⟩ => ?_⟩
      have h := hz.pf
      cases hin : P.info? t with
      | none => rw [hin] at h; cases h
      | some i =>
        rw [hin] at h
        simp only [Option.bind_some] at h
        cases hzz : i.zero with
        | none => rw [hzz] at h; cases h
        | some z =>
          rw [hzz] at h
          simp only [Option.map_some, Option.some.injEq] at h
          simp only [execOp, Instr.alloc, zeroValue, typeInfo, hin, hzz, newVar, newRow, h, Sem.run_bind, run_program, Result.andThen_ok, Sem.run_pure, run_newObj, World.alloc_eq]
          refine ⟨_, _, rfl, ?_⟩
          obtain ⟨G', h1, _⟩ := (Holds.frameR (l1 := [_]) (hG.alloc _))
          exact ⟨G', h1⟩
    · exact ih (by simpa [hkk] using hk)
  | @mm k' H' d t ty pos after hi _ ih =>
    by_cases hkk : k = k'
    · subst hkk
      rw [hi] at ho
      cases ho
      refine ⟨rfl, fun w ⟨G, hG⟩ => ?_⟩
      simp only [execOp, Instr.makeMap, Option.map_none, Sem.run_bind, Sem.run_pure, Result.andThen_ok, run_newObj, World.alloc_eq]
      refine ⟨_, _, rfl, ?_⟩
      obtain ⟨G', h1, _⟩ := (Holds.frameR (l1 := [_]) (hG.alloc _))
      exact ⟨G', h1⟩
    · exact ih (by simpa [hkk] using hk)
theorem WpR.load {i d : Nat} {op : Op} {ty : TypeId} {pos : String} {after : Array Edge} {v : Value} {C rest : List HP} (H : List Nat) (hi : ops[i]? = some ⟨some d, op, ty, pos, after, none⟩)
    (hsel : Region.noSelect ops = true) (hfree : Region.free .any ops listed i = true) (hr : (Region.ready .any ops listed).contains i = true)
    (hp : pullOk ops listed i H = true) (hHf : (H.all fun k => Region.free .any ops listed k) = true) (hiH : H.contains i = false) (ht : Tk l C rest) (hH : Harm P n ops e C H)
    (hv : Rdo P e C op ty v) (hd : Nat.blt d n = true) (h : WpR P n ops Q m (listed.setIfInBounds i true) (eset e d v) l) : WpR P n ops Q (m + 1) listed e l := by
  intro F w a ds hl he
  obtain ⟨G, hG, _⟩ := (ht F w hl).frame
  refine wpAny_pull (J := fun w => ∃ G, Holds C G w) hi hsel (fun c a w hq => absurd hq.1 (by simp [calmX])) H hiH m listed a w hp (Region.free_spec hi hfree) ?_ (by simpa using hr) ⟨G, hG⟩ ?_ (h F w _ ds hl (he.put v hd))
  · intro k ok hk hok hun
    exact ⟨Region.free_spec hok (List.all_eq_true.1 hHf k (by simpa using hk)), hH.spec he.toEnvAt hk hok⟩
  · exact .inl ⟨by simp [Region.wanted], fun w ⟨G, hG⟩ => hv G w a n _ _ _ _ hG he.toEnvAt⟩
class MK (P : Program) (e : Env) (mo : Op) (V : outParam (Nat → Value)) (A : outParam (Nat → HP)) : Prop where
  stp : ∀ {n d : Nat} {ty : TypeId} {pos : String} {after : Array Edge} {l : List HP} {Φ : Env → List HP → Prop}, Nat.blt d n = true → (∀ nb, Φ (eset e d (V nb)) (A nb :: l)) → Stp P n ⟨some d, mo, ty, pos, after, none⟩ e l Φ
instance {P : Program} {e : Env} {t : TypeId} {zs : List Value} [ZV P t zs] : MK P e (.alloc t) (fun nb => .pointer (some ⟨nb, 0, none⟩)) (fun nb => cel nb t zs) := ⟨fun hd h => Stp.alloc hd h⟩
def Pend (P : Program) (n : Nat) (ops : Array Oper) (Q : Exit → Env → List HP → Prop) (m : Nat) (listed : Array Bool) (e : Env) (l : List HP) (i d : Nat) (V : Nat → Value) (A : Nat → HP) : Prop :=
  WpR P n ops Q (m + 1) listed e l ∧ ∀ nb, WpR P n ops Q m (listed.setIfInBounds i true) (eset e d (V nb)) (A nb :: l)
variable {i d : Nat} {mo : Op} {V : Nat → Value} {A : Nat → HP}
theorem Pend.start {ty : TypeId} {pos : String} {after : Array Edge} [hz : MK P e mo V A] (hi : ops[i]? = some ⟨some d, mo, ty, pos, after, none⟩) (h : Pend P n ops Q m listed e l i d V A) : WpR P n ops Q (m + 1) listed e l := h.1
theorem Pend.lst {l' : List HP} (h : l = l') (k : Pend P n ops Q m listed e l' i d V A) : Pend P n ops Q m listed e l i d V A := h ▸ k
theorem Pend.made {ty : TypeId} {pos : String} {after : Array Edge} [hz : MK P e mo V A] (hi : ops[i]? = some ⟨some d, mo, ty, pos, after, none⟩) (hr : Region.ready .any ops listed = [i]) (hd : Nat.blt d n = true)
    (h : ∀ nb, WpR P n ops Q m (listed.setIfInBounds i true) (eset e d (V nb)) (A nb :: l)) : Pend P n ops Q m listed e l i d V A := ⟨WpR.one hi hr (hz.stp hd h), h⟩
theorem look_off {e : Env} {d : Nat} {x : Value} (hd : elook e d = none) : ∀ i v, elook e i = some v → elook (eset e d x) i = some v := by
  intro i v hv
  rw [elook_eset, if_neg (by rintro rfl; rw [hd] at hv; cases hv)]
  exact hv
theorem Pend.take {j dj : Nat} {op : Op} {ty : TypeId} {pos : String} {after : Array Edge} {v : Value} (hj : ops[j]? = some ⟨some dj, op, ty, pos, after, none⟩)
    (hsel : Region.noSelect ops = true) (hf : (Region.free .any ops listed j && Region.free .any ops (listed.setIfInBounds i true) j) = true)
    (hr : ((Region.ready .any ops listed).contains j && (Region.ready .any ops (listed.setIfInBounds i true)).contains j) = true) (hne : (i == j || d == dj) = false) (hde : elook e d = none)
    (hv : Rdo P e [] op ty v) (hd : Nat.blt dj n = true) (h : Pend P n ops Q m (listed.setIfInBounds j true) (eset e dj v) l i d V A) : Pend P n ops Q (m + 1) listed e l i d V A := by
  simp only [Bool.and_eq_true] at hf hr
  simp only [Bool.or_eq_false_iff, beq_eq_false_iff_ne] at hne
  refine ⟨WpR.take hj hsel hf.1 hr.1 hv hd h.1, fun nb => WpR.take hj hsel hf.2 hr.2 (fun G w a n dst pos after g hl he => hv G w a n dst pos after g hl ⟨he.size, fun i v hv => he.at_ i v (look_off hde i v hv)⟩) hd ?_⟩
  rw [Array.setIfInBounds_comm _ _ hne.1]
  refine WpR.env (fun k u hu => ?_) (h.2 nb)
  rw [elook_eset, elook_eset] at hu ⊢
  by_cases h1 : d = k
  · subst h1
    rw [if_neg (Ne.symm hne.2)]
    simpa using hu
  · by_cases h2 : dj = k
    · subst h2
      simpa [h1] using hu
    · simpa [h1, h2] using hu
theorem Pend.one {j : Nat} {dj : Option Nat} {op : Op} {ty ty' : TypeId} {pos pos' : String} {after after' : Array Edge} [hz : MK P e mo V A] (hi : ops[i]? = some ⟨some d, mo, ty', pos', after', none⟩) (hj : ops[j]? = some ⟨dj, op, ty, pos, after, none⟩)
    (hr : ((Region.ready .any ops listed).all fun k => Nat.beq k i || Nat.beq k j) = true) (hr0 : (Region.ready .any ops listed).contains j = true) (hr2 : Region.ready .any ops (listed.setIfInBounds i true) = [j]) (hne : (i == j) = false) (hnd : dj ≠ some d) (hde : elook e d = none) (hd : Nat.blt d n = true)
    (h : Stp P n ⟨dj, op, ty, pos, after, none⟩ e l (fun e' l' => Pend P n ops Q m (listed.setIfInBounds j true) e' l' i d V A)) : Pend P n ops Q (m + 1) listed e l i d V A := by
  have hij : i ≠ j := beq_eq_false_iff_ne.1 hne
  have step : ∀ F w a ds, Holds l F w → EnvOk n ds e a → ∀ Q0, wpOpIn Fence.wide 0 P ops Q0 j (fun a' w' => ∃ e' l', EnvOk n ds e' a' ∧ Holds l' F w' ∧ Ext w w' ∧ Pend P n ops Q m (listed.setIfInBounds j true) e' l' i d V A) a w := by
    intro F w a ds hl he Q0
    unfold wpOpIn
    simp only [hj]
    rw [if_pos (by simp [Region.wanted])]
    exact ⟨fun _ _ => trivial, h F w a ds hl he _ _ fun e' l' a' w' he' hl' hx' hq => ⟨e', l', he', hl', hx', hq⟩⟩
  have hB : ∀ nb, WpR P n ops Q (m + 1) (listed.setIfInBounds i true) (eset e d (V nb)) (A nb :: l) := by
    intro nb F w a ds hl he
    obtain ⟨G, h1, h2⟩ := Holds.frameR (l1 := [A nb]) (l2 := l) hl
    refine ⟨by rw [hr2]; simp, fun j' hj' => ?_⟩
    rw [hr2, List.mem_singleton] at hj'
    subst hj'
    have h3 := wpOp_shape hj (step G w a ds h1 (he.weaken (look_off hde)) (SPost n ds F w Q))
    refine wpOpIn_mono (fun a' w' h4 => ?_) h3
    obtain ⟨⟨u, ds', rfl⟩, e', l', k1, k2, k3, k4⟩ := h4
    have henv : EnvOk n ds (eset e' d (V nb)) (({ a with defers := ds' } : Act).put dj u) := by
      refine ⟨⟨k1.size, fun k v hv => ?_⟩, k1.defers⟩
      rw [elook_eset] at hv
      by_cases hk : d = k
      · subst hk
        rw [if_pos rfl] at hv
        cases hv
        have h5 := he.at_ d (V nb) (by rw [elook_eset, if_pos rfl])
        cases dj with
        | none => exact h5
        | some x =>
          have hx : x ≠ d := fun hh => hnd (by rw [hh])
          simp only [Act.put]
          rw [Array.getElem?_setIfInBounds_ne hx]
          exact h5
      · rw [if_neg hk] at hv
        exact k1.at_ k v hv
    rw [Array.setIfInBounds_comm _ _ hij]
    exact wpAny_Q (fun x a w hq => SPost.mono k3 (fun _ _ _ h => h) hq) _ _ _ _ (k4.2 nb F w' _ ds (h2 _ _ k2) henv)
  refine ⟨fun F w a ds hl he => ⟨fun h0 => absurd hr0 (by rw [h0]; simp), fun k hk => ?_⟩, hB⟩
  have hkk := List.all_eq_true.1 hr k hk
  simp only [Bool.or_eq_true, Nat.beq_eq] at hkk
  rcases hkk with rfl | rfl
  · have h6 : Stp P n ⟨some d, mo, ty', pos', after', none⟩ e l (fun e' l' => WpR P n ops Q (m + 1) (listed.setIfInBounds k true) e' l') := hz.stp hd hB
    unfold wpOpIn
    simp only [hi]
    rw [if_pos (by simp [Region.wanted])]
    refine ⟨fun _ _ => trivial, h6 F w a ds hl he _ _ ?_⟩
    intro e' l' a' w' he' hl' hx' hq
    exact wpAny_Q (fun x a w hh => SPost.mono hx' (fun _ _ _ h => h) hh) _ _ _ _ (hq F w' a' ds hl' he')
  · refine wpOpIn_mono (fun a' w' h4 => ?_) (step F w a ds hl he (SPost n ds F w Q))
    obtain ⟨e', l', k1, k2, k3, k4⟩ := h4
    exact wpAny_Q (fun x a w hh => SPost.mono k3 (fun _ _ _ h => h) hh) _ _ _ _ (k4.1 F w' a' ds k2 k1)
end
section
variable {P : Program} {n : Nat} {ops : Array Oper} {Q : Exit → Env → List HP → Prop} {e : Env} {l C : List HP} {fin : Array Bool} {K : Array Bool → Env → List HP → Prop} {k : Nat} {listed : Array Bool}
def PendA (P : Program) (n : Nat) (ops : Array Oper) (Q : Exit → Env → List HP → Prop) (fin : Array Bool) (K : Array Bool → Env → List HP → Prop) (k : Nat) (listed : Array Bool) (C : List HP) (e : Env) (l : List HP) (i d : Nat) (V : Nat → Value) (A : Nat → HP) : Prop :=
  WpA P n ops Q fin K (k + 1) listed C e l ∧ ∀ nb, WpA P n ops Q fin K k (listed.setIfInBounds i true) C (eset e d (V nb)) (A nb :: l)
variable {i d : Nat} {mo : Op} {V : Nat → Value} {A : Nat → HP}
theorem PendA.start {ty : TypeId} {pos : String} {after : Array Edge} [hz : MK P e mo V A] (hi : ops[i]? = some ⟨some d, mo, ty, pos, after, none⟩) (h : PendA P n ops Q fin K k listed C e l i d V A) : WpA P n ops Q fin K (k + 1) listed C e l := h.1
theorem PendA.lst {l' : List HP} (h : l = l') (hk : PendA P n ops Q fin K k listed C e l' i d V A) : PendA P n ops Q fin K k listed C e l i d V A := h ▸ hk
theorem PendA.made {ty : TypeId} {pos : String} {after : Array Edge} [hz : MK P e mo V A] (hi : ops[i]? = some ⟨some d, mo, ty, pos, after, none⟩) (hr : readyIn ops fin listed = [i]) (hd : Nat.blt d n = true)
    (h : ∀ nb, WpA P n ops Q fin K k (listed.setIfInBounds i true) C (eset e d (V nb)) (A nb :: l)) : PendA P n ops Q fin K k listed C e l i d V A := ⟨WpA.one hi hr (hz.stp hd h), h⟩
theorem PendA.one {j : Nat} {dj : Option Nat} {op : Op} {ty ty' : TypeId} {pos pos' : String} {after after' : Array Edge} [hz : MK P e mo V A] (hi : ops[i]? = some ⟨some d, mo, ty', pos', after', none⟩) (hj : ops[j]? = some ⟨dj, op, ty, pos, after, none⟩)
    (hr : ((readyIn ops fin listed).all fun k => Nat.beq k i || Nat.beq k j) = true) (hr0 : (readyIn ops fin listed).contains j = true) (hr2 : readyIn ops fin (listed.setIfInBounds i true) = [j]) (hne : (i == j) = false) (hnd : dj ≠ some d) (hde : elook e d = none) (hd : Nat.blt d n = true)
    (h : Stp P n ⟨dj, op, ty, pos, after, none⟩ e l (fun e' l' => PendA P n ops Q fin K k (listed.setIfInBounds j true) C e' l' i d V A)) : PendA P n ops Q fin K (k + 1) listed C e l i d V A := by
  have hij : i ≠ j := beq_eq_false_iff_ne.1 hne
  have step : ∀ G w a ds, Holds l G w → EnvOk n ds e a → ∀ Q0, wpOpIn Fence.wide 0 P ops Q0 j (fun a' w' => ∃ e' l', EnvOk n ds e' a' ∧ Holds l' G w' ∧ Ext w w' ∧ PendA P n ops Q fin K k (listed.setIfInBounds j true) C e' l' i d V A) a w := by
    intro G w a ds hl he Q0
    unfold wpOpIn
    simp only [hj]
    rw [if_pos (by simp [Region.wanted])]
    exact ⟨fun _ _ => trivial, h G w a ds hl he _ _ fun e' l' a' w' he' hl' hx' hq => ⟨e', l', he', hl', hx', hq⟩⟩
  have hB : ∀ nb, WpA P n ops Q fin K (k + 1) (listed.setIfInBounds i true) C (eset e d (V nb)) (A nb :: l) := by
    intro nb rC F G w0 w a ds hC hjn hl hx he
    obtain ⟨G', h1, h2⟩ := Holds.frameR (l1 := [A nb]) (l2 := l) hl
    refine ⟨hl.satF, by rw [hr2]; simp, fun j' hj' => ?_⟩
    rw [hr2, List.mem_singleton] at hj'
    subst hj'
    have h3 := wpOp_shape hj (step G' w a ds h1 (he.weaken (look_off hde)) (SPost n ds F w0 Q))
    refine wpOpIn_mono (fun a' w' h4 => ?_) h3
    obtain ⟨⟨u, ds', rfl⟩, e', l', k1, k2, k3, k4⟩ := h4
    have henv : EnvOk n ds (eset e' d (V nb)) (({ a with defers := ds' } : Act).put dj u) := by
      refine ⟨⟨k1.size, fun k v hv => ?_⟩, k1.defers⟩
      rw [elook_eset] at hv
      by_cases hk : d = k
      · subst hk
        rw [if_pos rfl] at hv
        cases hv
        have h5 := he.at_ d (V nb) (by rw [elook_eset, if_pos rfl])
        cases dj with
        | none => exact h5
        | some x =>
          have hx : x ≠ d := fun hh => hnd (by rw [hh])
          simp only [Act.put]
          rw [Array.getElem?_setIfInBounds_ne hx]
          exact h5
      · rw [if_neg hk] at hv
        exact k1.at_ k v hv
    rw [Array.setIfInBounds_comm _ _ hij]
    exact k4.2 nb rC F G w0 w' _ ds hC hjn (h2 _ _ k2) (hx.trans k3) henv
  refine ⟨fun rC F G w0 w a ds hC hjn hl hx he => ⟨hl.satF, fun h0 => absurd hr0 (by rw [h0]; simp), fun q hq => ?_⟩, hB⟩
  have hkk := List.all_eq_true.1 hr q hq
  simp only [Bool.or_eq_true, Nat.beq_eq] at hkk
  rcases hkk with rfl | rfl
  · have h6 : Stp P n ⟨some d, mo, ty', pos', after', none⟩ e l (fun e' l' => WpA P n ops Q fin K (k + 1) (listed.setIfInBounds q true) C e' l') := hz.stp hd hB
    unfold wpOpIn
    simp only [hi]
    rw [if_pos (by simp [Region.wanted])]
    refine ⟨fun _ _ => trivial, h6 G w a ds hl he _ _ ?_⟩
    intro e' l' a' w' he' hl' hx' hq
    exact hq rC F G w0 w' a' ds hC hjn hl' (hx.trans hx') he'
  · refine wpOpIn_mono (fun a' w' h4 => ?_) (step G w a ds hl he (SPost n ds F w0 Q))
    obtain ⟨e', l', k1, k2, k3, k4⟩ := h4
    exact k4.1 rC F G w0 w' a' ds hC hjn k2 (hx.trans k3) k1
end
inductive LPut : List Value → Nat → List Value → List Value → Prop where
  | nil (cs : List Value) : LPut cs 0 [] cs
  | here {v c : Value} {vs cs cs' : List Value} (h : LPut cs 0 vs cs') : LPut (c :: cs) 0 (v :: vs) (v :: cs')
  | next {o : Nat} {c : Value} {vs cs cs' : List Value} (h : LPut cs o vs cs') : LPut (c :: cs) (o + 1) vs (c :: cs')
theorem LPut.spec {cs vs cs' : List Value} {o : Nat} (h : LPut cs o vs cs') : o + vs.length ≤ cs.length ∧ lput cs o vs = cs' := by
  induction h with
  | nil cs => exact ⟨by simp, lput_nil cs 0⟩
  | here h ih => obtain ⟨h1, h2⟩ := ih; exact ⟨by simp at h1 ⊢; omega, by simp [lput, h2]⟩
  | next h ih =>
    rename_i o c vs cs cs'
    obtain ⟨h1, h2⟩ := ih
    refine ⟨by simp at h1 ⊢; omega, ?_⟩
    cases vs with
    | nil => rw [lput_nil] at h2 ⊢; rw [h2]
    | cons v vs => simp [lput, h2]
theorem Sts.lp {P : Program} {l : List HP} {b off : Nat} {t : TypeId} {cs vs cs' : List Value} (h : LPut cs off vs cs') (hone : oneCells vs) : Sts P (cel b t cs :: l) ⟨b, off, none⟩ vs (cel b t cs' :: l) := by
  obtain ⟨h1, h2⟩ := h.spec
  rw [← h2]
  exact Sts.here hone h1
theorem oneCells1 {v : Value} (h : v.oneCell' = true) : oneCells [v] := fun x hx => by simp at hx; subst hx; exact h
section
variable {P : Program} {e : Env} {C : List HP} {ty : TypeId}
theorem Rdo.fieldAddr0 {x : Operand} {b s f o n : Nat} [h : FO P s f o n] (hx : evl e x = some (.pointer (some ⟨b, 0, none⟩))) : Rdo P e C (.fieldAddr s x f) ty (.pointer (some ⟨b, o, none⟩)) := by
  have := Rdo.fieldAddr (P := P) (C := C) (ty := ty) (h := h) hx
  rwa [Nat.zero_add] at this
theorem Rdo.succ {x y : Operand} {xt yt : TypeId} {p : Nat} (hx : evl e x = some (.int .i64 (p : Int))) (hy : evl e y = some (.int .i64 1)) (h : p < 9223372036854775807) : Rdo P e C (.binOp .add xt x y yt) ty (.int .i64 ((p + 1 : Nat) : Int)) := by
  have := Rdo.add64 (P := P) (C := C) (xt := xt) (yt := yt) (ty := ty) hx hy (by omega)
  rwa [show (p : Int) + 1 = ((p + 1 : Nat) : Int) by omega] at this
theorem Rdo.pred {x y : Operand} {xt yt : TypeId} {p : Nat} (hx : evl e x = some (.int .i64 ((p + 1 : Nat) : Int))) (hy : evl e y = some (.int .i64 1)) (h : p < 9223372036854775807) : Rdo P e C (.binOp .sub xt x y yt) ty (.int .i64 (p : Int)) := by
  have := Rdo.sub64 (P := P) (C := C) (xt := xt) (yt := yt) (ty := ty) hx hy (by omega)
  rwa [show ((p + 1 : Nat) : Int) - 1 = (p : Int) by omega] at this
theorem Rdo.addE {x y : Operand} {xt yt : TypeId} {p q r : Int} (hx : evl e x = some (.int .i64 p)) (hy : evl e y = some (.int .i64 q)) (h : p + q = r) (hr : -9223372036854775808 ≤ r ∧ r ≤ 9223372036854775807) : Rdo P e C (.binOp .add xt x y yt) ty (.int .i64 r) := by
  subst h; exact Rdo.add64 hx hy hr
theorem Rdo.subE {x y : Operand} {xt yt : TypeId} {p q r : Int} (hx : evl e x = some (.int .i64 p)) (hy : evl e y = some (.int .i64 q)) (h : p - q = r) (hr : -9223372036854775808 ≤ r ∧ r ≤ 9223372036854775807) : Rdo P e C (.binOp .sub xt x y yt) ty (.int .i64 r) := by
  subst h; exact Rdo.sub64 hx hy hr
theorem Rdo.indexStr {x y : Operand} {t : TypeId} {k : IntKind} {s : ByteArray} {i : Nat} {b : UInt8} [h : ST P t] (hx : evl e x = some (.string s)) (hy : evl e y = some (.int k i)) (hb : s[i]? = some b) : Rdo P e C (.index t x y) ty (.int .u8 b.toNat) := by
  have key : ∀ w, (Instr.index t (.string s) (.int k i)).run P w = .ok (.int .u8 b.toNat) w := by
    intro w
    have h0 : (0 : Int) ≤ (i : Int) := by omega
    simp [Instr.index, asIntOf, run_underlying h.pf, h0, hb]
  unfold Rdo
  intro G w a n' dst pos after g hl he
  simp [execOp, he.eval hx, he.eval hy, key]
end
inductive VC : Value → List Value → Prop where
  | ag (cs : List Value) : VC (.agg cs.toArray) cs
  | i (k : IntKind) (n : Int) : VC (.int k n) [.int k n]
  | b (x : Bool) : VC (.bool x) [.bool x]
  | s (x : ByteArray) : VC (.string x) [.string x]
  | p (x : Option Addr) : VC (.pointer x) [.pointer x]
  | sl (x : Option Addr) (n c : Nat) : VC (.slice x n c) [.slice x n c]
  | m (x : Option Nat) : VC (.map x) [.map x]
  | f (x : Fn) (a b : Array Value) : VC (.func x a b) [.func x a b]
  | nf : VC .nilFunc [.nilFunc]
  | ni : VC .nilIface [.nilIface]
  | one {v : Value} (h : v.oneCell' = true) : VC v [v]
theorem VC.cells {v : Value} {vs : List Value} (h : VC v vs) : v.cells = vs.toArray := by
  cases h with
  | one h => cases v <;> first | rfl | (simp [Value.oneCell'] at h)
  | _ => rfl
inductive BldL (P : Program) (t : TypeId) (e : Env) : List (Nat × Operand) → List Value → List Value → Prop where
  | nil (cs : List Value) : BldL P t e [] cs cs
  | cons {f : Nat} {x : Operand} {r : List (Nat × Operand)} {cs cs1 cs' vs : List Value} {v : Value} {o n : Nat} [h : FO P t f o n] (hx : evl e x = some v) (hv : VC v vs) (hn : vs.length = n) (hp : LPut cs o vs cs1)
      (hr : BldL P t e r cs1 cs') : BldL P t e ((f, x) :: r) cs cs'
theorem BldL.bld {P : Program} {t : TypeId} {e : Env} : ∀ {ps : List (Nat × Operand)} {cs cs' : List Value}, BldL P t e ps cs cs' → Bld P t e ps cs cs'
  | _, _, _, .nil cs => .nil cs
  | _, _, _, .cons (h := h) hx hv hn hp hr => by
    obtain ⟨h1, h2⟩ := hp.spec
    refine .cons h hx hv.cells hn (by rw [← hn]; exact Nat.ble_eq_true_of_le h1) ?_
    rw [h2]
    exact BldL.bld hr
theorem Rdo.bld {P : Program} {e : Env} {C : List HP} {t ty : TypeId} {ps : List (Nat × Operand)} {zs zs' cs : List Value} [hz : ZV P t zs] [hf : FS P t] (hzz : zs = zs') (hb : BldL P t e ps zs' cs) :
    Rdo P e C (.build t ps.toArray) ty (.agg cs.toArray) := by
  subst hzz
  exact Rdo.build hb.bld
theorem Stp.boxV {P : Program} {n d : Nat} {x : Operand} {t ty : TypeId} {pos : String} {after : Array Edge} {g : Option (Nat × Bool)} {e : Env} {l : List HP} {Φ : Env → List HP → Prop} {v : Value} {vs : List Value}
    (hx : evl e x = some v) (hv : VC v vs) (hd : Nat.blt d n = true) (hk : ∀ b, Φ (eset e d (.pointer (some ⟨b, 0, none⟩))) (cel b t vs :: l)) :
    Stp P n ⟨some d, .box t x, ty, pos, after, g⟩ e l Φ := Stp.box hx hv.cells hd hk
theorem Stp.storeV {P : Program} {n : Nat} {x y : Operand} {t ty : TypeId} {pos : String} {after : Array Edge} {g : Option (Nat × Bool)} {e : Env} {l l' : List HP} {Φ : Env → List HP → Prop} {a : Addr} {v : Value} {vs : List Value} {z : Nat}
    [hz : SZ P t z] (hx : evl e x = some (.pointer (some a))) (hy : evl e y = some v) (hv : VC v vs) (hn : vs.length = z) (hs : Sts P l a vs l') (hk : Φ e l') :
    Stp P n ⟨none, .store t x y, ty, pos, after, g⟩ e l Φ := Stp.store hx hy hv.cells hn hs hk
inductive VCs (sz : Nat) : List Value → List Value → Prop where
  | nil : VCs sz [] []
  | cons {v : Value} {r vs cs : List Value} (h : VC v vs) (hl : vs.length = sz) (t : VCs sz r cs) : VCs sz (v :: r) (vs ++ cs)
theorem VCs.spec {sz : Nat} {vs cs : List Value} (h : VCs sz vs cs) : (∀ v ∈ vs, v.cells.size = sz) ∧ (vs.map fun v => v.cells.toList).flatten = cs := by
  induction h with
  | nil => simp
  | cons h hl t ih =>
    have hc := h.cells
    refine ⟨fun v hv => ?_, by simp [hc, ih.2]⟩
    rcases List.mem_cons.1 hv with rfl | hv
    · rw [hc]; simpa using hl
    · exact ih.1 v hv
theorem Stp.sliceV {P : Program} {n d : Nat} {t ty e' sz : Nat} {pos : String} {after : Array Edge} {g : Option (Nat × Bool)} {e : Env} {l : List HP} {Φ : Env → List HP → Prop} {k : Nat} {ps : List (Nat × Operand)} {vs : List Value} {zs cs cs' : List Value}
    [ht : EL P t e'] [hz : SZ P e' sz] [hzv : ZV P e' zs] (hx : evls e (ps.map (·.2)) = some vs) (hi : ps.map (·.1) = List.range k) (hv : VCs sz vs cs) (hcs : cs = cs')
    (hsmall : Nat.ble (k * sz) 16777216 = true) (hd : Nat.blt d n = true) (hk : ∀ b, Φ (eset e d (.slice (some ⟨b, 0, none⟩) k k)) (cel b e' cs' :: l)) :
    Stp P n ⟨some d, .buildSlice t k ps.toArray, ty, pos, after, g⟩ e l Φ := by
  subst hcs
  exact Stp.slice hx hi hv.spec.1 hv.spec.2 (Nat.le_of_ble_eq_true hsmall) hd hk
theorem Stp.appendP {P : Program} {n d : Nat} {x y : Operand} {t xt ty e' sz by_ : Nat} {zs : List Value} {pos : String} {after : Array Edge} {g : Option (Nat × Bool)} {e : Env} {l C : List HP} {Φ : Env → List HP → Prop}
    {v u : Value} {k m : Nat} {xs news : List Value} [ht : EL P t e'] [hz : SZ P e' sz] [hby : BY P e' by_] [hzv : ZV P e' zs] [hni : NI P xt]
    (hx : evl e x = some v) (hy : evl e y = some u) (hp : Pk l (rowA e' sz v k xs) C) (hs : Src P C sz u m news) (hnl : news.length = m * sz) (hone : oneCells news) (hbytes : (k + m) * by_ ≤ 140737488355328) (h63 : k + m ≤ 9223372036854775807) (hd : Nat.blt d n = true) (hzl : zs.length = sz)
    (hk : ∀ a' c', Φ (eset e d (.slice a' (k + m) c')) (rowA e' sz (.slice a' (k + m) c') (k + m) (xs ++ news) :: C)) :
    Stp P n ⟨some d, .call { callee := .builtin .append, args := [x, y].toArray, argTypes := [t, xt].toArray }, ty, pos, after, g⟩ e l Φ :=
  Stp.gh (Gh.front hp) (Stp.append hx hy hs hnl hone hbytes h63 hd hzl hk)
theorem Stp.appendN {P : Program} {n d : Nat} {x y : Operand} {t xt ty e' sz by_ : Nat} {zs : List Value} {pos : String} {after : Array Edge} {g : Option (Nat × Bool)} {e : Env} {C : List HP} {Φ : Env → List HP → Prop}
    {u : Value} {m : Nat} {news : List Value} [ht : EL P t e'] [hz : SZ P e' sz] [hby : BY P e' by_] [hzv : ZV P e' zs] [hni : NI P xt]
    (hx : evl e x = some (.slice none 0 0)) (hy : evl e y = some u) (hs : Src P C sz u m news) (hnl : news.length = m * sz) (hone : oneCells news) (hbytes : m * by_ ≤ 140737488355328) (h63 : m ≤ 9223372036854775807) (hd : Nat.blt d n = true) (hzl : zs.length = sz)
    (hk : ∀ a' c', Φ (eset e d (.slice a' m c')) (rowA e' sz (.slice a' m c') m news :: C)) :
    Stp P n ⟨some d, .call { callee := .builtin .append, args := [x, y].toArray, argTypes := [t, xt].toArray }, ty, pos, after, g⟩ e C Φ :=
  Stp.gh (Gh.nil e' sz) (Stp.append0 hx hy hs hnl hone hbytes h63 hd hzl hk)
theorem Gh.frame {l l' : List HP} (A : List HP) (h : Gh l l') : Gh (A ++ l) (A ++ l') := fun F w hl => by
  obtain ⟨G, h1, h2⟩ := Holds.frameR hl
  exact h2 _ _ (h G w h1)
theorem Gh.frameL {l l' : List HP} (A : List HP) (h : Gh l l') : Gh (l ++ A) (l' ++ A) := fun F w hl => by
  obtain ⟨G, h1, h2⟩ := Holds.frame hl
  exact h2 _ _ (h G w h1)
attribute [irreducible] Gh GhE Rdo Stp WpL Wp WpR WpA Pend PendA Lds Sts Tk Pk Src Trip TripV cel ice blk rowA pureH exH starH Holds mapA mapItA Mps
end Go.Proofs.YtomijhgicennbaaGreat
namespace Go.Proofs.YtomijhgicennbaaGreat
open Go
set_option maxHeartbeats 4000000
set_option linter.unusedSimpArgs false
set_option linter.unusedVariables false
section
variable {P : Program} {R : Rnd} {n : Nat} {ops : Array Oper} {Q : Exit → Env → List HP → Prop} {e : Env} {l : List HP} {m : Nat} {listed : Array Bool} {i d : Nat} {op : Go.Op} {ty : TypeId} {pos : String} {after : Array Edge} {v : Value}
theorem Gk {l l' rest : List HP} (h : Tk l l' rest := by repeat (first | exact Tk.nil | apply Tk.cons (by repeat (first | exact Pk.here | apply Pk.next)))) : Gh l l' := Gh.tk h
theorem Qt (hi : ops[i]? = some ⟨some d, op, ty, pos, after, none⟩) (hv : Rdo P e [] op ty v) (h : WpR P n ops Q m (listed.setIfInBounds i true) (eset e d v) l)
    (h1 : Region.noSelect ops = true := by kernel_rfl) (h2 : Region.free .any ops listed i = true := by kernel_rfl) (h3 : (Region.ready .any ops listed).contains i = true := by kernel_rfl) (hd : Nat.blt d n = true := by rfl) : WpR P n ops Q (m + 1) listed e l :=
  WpR.take hi h1 h2 h3 hv hd h
theorem At {C : List HP} {fin : Array Bool} {K : Array Bool → Env → List HP → Prop} {k : Nat} (hi : ops[i]? = some ⟨some d, op, ty, pos, after, none⟩) (hv : Rdo P e C op ty v) (h : WpA P n ops Q fin K k (listed.setIfInBounds i true) C (eset e d v) l)
    (h0 : fin.getD i false = true := by rfl) (h1 : Region.noSelect ops = true := by kernel_rfl) (h2 : Region.free .any ops listed i = true := by kernel_rfl) (h3 : (Region.ready .any ops listed).contains i = true := by kernel_rfl) (hd : Nat.blt d n = true := by rfl) : WpA P n ops Q fin K (k + 1) listed C e l :=
  WpA.take hi h0 h1 h2 h3 hv hd h
theorem Qp {j t : Nat} {b c : Bool} (hi : ops[i]? = some ⟨some d, op, ty, pos, after, some (j, b)⟩) (ht : (ops[j]?).bind (·.dst) = some t) (hc : elook e t = some (.bool c)) (h : WpR P n ops Q m (listed.setIfInBounds i true) (eset e d undef) l)
    (hb : c = !b := by rfl) (h1 : Region.noSelect ops = true := by kernel_rfl) (h2 : Region.free .any ops listed i = true := by kernel_rfl) (h3 : (Region.ready .any ops listed).contains i = true := by kernel_rfl) (hd : Nat.blt d n = true := by rfl) : WpR P n ops Q (m + 1) listed e l :=
  WpR.pass hi ht hc hb h1 h2 h3 hd h
theorem Qw {j t : Nat} {b c : Bool} (hi : ops[i]? = some ⟨some d, op, ty, pos, after, some (j, b)⟩) (ht : (ops[j]?).bind (·.dst) = some t) (hc : elook e t = some (.bool c)) (hv : Rdo P e [] op ty v) (h : WpR P n ops Q m (listed.setIfInBounds i true) (eset e d v) l)
    (hb : c = b := by rfl) (h1 : Region.noSelect ops = true := by kernel_rfl) (h2 : Region.free .any ops listed i = true := by kernel_rfl) (h3 : (Region.ready .any ops listed).contains i = true := by kernel_rfl) (hd : Nat.blt d n = true := by rfl) : WpR P n ops Q (m + 1) listed e l :=
  WpR.want hi ht hc hb h1 h2 h3 hv hd h
theorem Aw {C : List HP} {fin : Array Bool} {K : Array Bool → Env → List HP → Prop} {k j t : Nat} {b c : Bool} (hi : ops[i]? = some ⟨some d, op, ty, pos, after, some (j, b)⟩) (ht : (ops[j]?).bind (·.dst) = some t) (hc : elook e t = some (.bool c)) (hv : Rdo P e C op ty v) (h : WpA P n ops Q fin K k (listed.setIfInBounds i true) C (eset e d v) l)
    (hb : c = b := by rfl) (h0 : fin.getD i false = true := by rfl) (h1 : Region.noSelect ops = true := by kernel_rfl) (h2 : Region.free .any ops listed i = true := by kernel_rfl) (h3 : (Region.ready .any ops listed).contains i = true := by kernel_rfl) (hd : Nat.blt d n = true := by rfl) : WpA P n ops Q fin K (k + 1) listed C e l :=
  WpA.want hi ht hc hb h0 h1 h2 h3 hv hd h
theorem Ls {rest : List Oper} (hv : Rdo P e l op ty v) (h : WpL P n ops Q rest (eset e d v) l) (hd : Nat.blt d n = true := by rfl) : WpL P n ops Q (⟨some d, op, ty, pos, after, none⟩ :: rest) e l := WpL.step (Stp.rd hv hd h)
theorem Lw {rest : List Oper} {j t : Nat} {b c : Bool} (ht : (ops[j]?).bind (·.dst) = some t) (hc : elook e t = some (.bool c)) (hv : Rdo P e l op ty v) (h : WpL P n ops Q rest (eset e d v) l) (hb : c = b := by rfl) (hd : Nat.blt d n = true := by rfl) : WpL P n ops Q (⟨some d, op, ty, pos, after, some (j, b)⟩ :: rest) e l := WpL.want ht hc hb (Stp.rd hv hd h)
theorem Lp {rest : List Oper} {j t : Nat} {b c : Bool} (ht : (ops[j]?).bind (·.dst) = some t) (hc : elook e t = some (.bool c)) (h : WpL P n ops Q rest (eset e d undef) l) (hb : c = !b := by rfl) (hd : Nat.blt d n = true := by rfl) : WpL P n ops Q (⟨some d, op, ty, pos, after, some (j, b)⟩ :: rest) e l := WpL.pass ht hc hb hd h
theorem cL {x : Operand} {c d : Code} {b : Bool} (hx : evl e x = some (.bool b)) (h : Wp P R n d Q e l) (hb : b = false := by first | rfl | assumption | (simp only [decide_eq_true_eq, decide_eq_false_iff_not, Bool.not_eq_true', Bool.not_eq_false', List.length_cons, List.length_nil]; first | assumption | omega) | (simp <;> done) | (simp <;> omega)) : Wp P R n (.cond x c d) Q e l := Wp.condL hx hb h
theorem cK {x : Operand} {c d : Code} {b : Bool} (hx : evl e x = some (.bool b)) (h : Wp P R n c Q e l) (hb : b = true := by first | rfl | assumption | (simp only [decide_eq_true_eq, decide_eq_false_iff_not, Bool.not_eq_true', Bool.not_eq_false', List.length_cons, List.length_nil]; first | assumption | omega) | (simp <;> done) | (simp <;> omega)) : Wp P R n (.cond x c d) Q e l := Wp.condK hx hb h
theorem Lg {rest : List Oper} {o : Option Nat} {j t : Nat} {b c : Bool} (ht : (ops[j]?).bind (·.dst) = some t) (hc : elook e t = some (.bool c)) (h : WpL P n ops Q (⟨o, op, ty, pos, after, some (j, b)⟩ :: rest) (eset e t (.bool true)) l) (hb : c = true := by first | rfl | assumption | (simp only [decide_eq_true_eq, decide_eq_false_iff_not, Bool.not_eq_true', Bool.not_eq_false', List.length_cons, List.length_nil]; first | assumption | omega) | (simp <;> done) | (simp <;> omega)) : WpL P n ops Q (⟨o, op, ty, pos, after, some (j, b)⟩ :: rest) e l := WpL.gT ht hc hb h
theorem Lf {rest : List Oper} {o : Option Nat} {j t : Nat} {b c : Bool} (ht : (ops[j]?).bind (·.dst) = some t) (hc : elook e t = some (.bool c)) (h : WpL P n ops Q (⟨o, op, ty, pos, after, some (j, b)⟩ :: rest) (eset e t (.bool false)) l) (hb : c = false := by first | rfl | assumption | (simp only [decide_eq_true_eq, decide_eq_false_iff_not, Bool.not_eq_true', Bool.not_eq_false', List.length_cons, List.length_nil]; first | assumption | omega) | (simp <;> done) | (simp <;> omega)) : WpL P n ops Q (⟨o, op, ty, pos, after, some (j, b)⟩ :: rest) e l := WpL.gF ht hc hb h
theorem Ll {l' : List HP} {rest : List Oper} (h : WpL P n ops Q rest e l') (hl : l = l' := by simp only [List.cons_append, List.nil_append]; exact rfl) : WpL P n ops Q rest e l := WpL.lst hl h
theorem Ql {l' : List HP} (h : WpR P n ops Q m listed e l') (hl : l = l' := by simp only [List.cons_append, List.nil_append]; exact rfl) : WpR P n ops Q m listed e l := WpR.lst hl h
theorem St {x y : Operand} {t z : Nat} {g : Option (Nat × Bool)} {l' : List HP} {Φ : Env → List HP → Prop} {a : Addr} {vs : List Value} [SZ P t z] (hx : evl e x = some (.pointer (some a))) (hy : evl e y = some v) (hv : VC v vs) (h : Φ e l') (hz : vs.length = z := by first | rfl | assumption | (simp <;> done))
    (hs : Sts P l a vs l' := by repeat (first | (apply Sts.all; (focus (first | rfl | assumption | (simp <;> done))); (focus (first | exact oneCells1 rfl | assumption | exact oneCells1 (by assumption) | ((repeat (first | assumption | exact oneCells_nil | exact oneCells_bytesC _ | (apply oneCells_cons; (focus (first | rfl | assumption))) | apply oneCells_append)); done) | (simp [oneCells, Value.oneCell'] <;> done)))) | (apply Sts.lp (by repeat (first | exact LPut.nil _ | (refine LPut.seg ?_; first | assumption | (simp <;> done)) | (refine LPut.segEnd ?_; first | assumption | (simp <;> done)) | (with_reducible apply LPut.here) | apply LPut.hereL | apply LPut.here | (apply LPut.over32; focus (first | assumption | (simp <;> done))) | (with_reducible apply LPut.next) | apply LPut.nextL | apply LPut.next)); (focus (first | exact oneCells1 rfl | assumption | exact oneCells1 (by assumption) | ((repeat (first | assumption | exact oneCells_nil | exact oneCells_bytesC _ | (apply oneCells_cons; (focus (first | rfl | assumption))) | apply oneCells_append)); done) | (simp [oneCells, Value.oneCell'] <;> done)))) | (refine Sts.rowV (by first | assumption | omega | (simp <;> omega))) | (refine Sts.row1 (by first | assumption | omega | (simp <;> omega)) (by first | rfl | assumption)) | (refine Sts.rowF (by first | omega | (simp <;> omega)) (by first | rfl | assumption)) | (refine Sts.rowP (by assumption) (by first | rfl | assumption | (simp <;> done)) (by rfl) (by (first | exact oneCells1 rfl | assumption | exact oneCells1 (by assumption) | ((repeat (first | assumption | exact oneCells_nil | exact oneCells_bytesC _ | (apply oneCells_cons; (focus (first | rfl | assumption))) | apply oneCells_append)); done) | (simp [oneCells, Value.oneCell'] <;> done)))) | apply Sts.next)) :
    Stp P n ⟨none, .store t x y, ty, pos, after, g⟩ e l Φ := Stp.storeV hx hy hv hz hs h
theorem Sl {p : HP} {l' : List HP} {a : Addr} {vs : List Value} (h : Sts P l a vs l') : Sts P (p :: l) a vs (p :: l') := Sts.next h
theorem Sp {b off : Nat} {t : TypeId} {cs vs cs' : List Value} (hone : oneCells vs) (h : LPut cs off vs cs' := by repeat (first | exact LPut.nil _ | (refine LPut.seg ?_; first | assumption | (simp <;> done)) | (refine LPut.segEnd ?_; first | assumption | (simp <;> done)) | (with_reducible apply LPut.here) | apply LPut.hereL | apply LPut.here | (apply LPut.over32; focus (first | assumption | (simp <;> done))) | (with_reducible apply LPut.next) | apply LPut.nextL | apply LPut.next)) : Sts P (cel b t cs :: l) ⟨b, off, none⟩ vs (cel b t cs' :: l) := Sts.lp h hone
theorem Qo {o : Option Nat} (hi : ops[i]? = some ⟨o, op, ty, pos, after, none⟩) (h : Stp P n ⟨o, op, ty, pos, after, none⟩ e l (fun e' l' => WpR P n ops Q m (listed.setIfInBounds i true) e' l')) (hr : Region.ready .any ops listed = [i] := by kernel_rfl) : WpR P n ops Q (m + 1) listed e l := WpR.one hi hr h
theorem Sc {f : FuncId} {xs : List Operand} {vs : List Value} {ats : Array TypeId} {g : Option (Nat × Bool)} {pre rest : List HP} {Φ : Env → List HP → Prop} {post : Value → List HP → Prop} (ht : Trip P f vs pre post) (hx : evls e xs = some vs) (h : ∀ (v : Value) (l' : List HP), post v l' → Φ (eset e d v) (l' ++ rest))
    (hc : callable P f = true := by kernel_rfl) (hk : Tk l pre rest := by repeat (first | exact Tk.nil | apply Tk.cons (by repeat (first | exact Pk.here | apply Pk.next)))) (hd : Nat.blt d n = true := by rfl) : Stp P n ⟨some d, .call { callee := .value (.func f), args := xs.toArray, argTypes := ats }, ty, pos, after, g⟩ e l Φ := Stp.call ht hc hx hk hd h
theorem Ws {c d : Code} (h : Wp P R n c (Thn (Wp P R n d Q) Q) e l) : Wp P R n (c.seq d) Q e l := Wp.seq h
theorem Wr {id : Nat} {os : List Oper} (h : WpL P n os.toArray Q os e l) (hR : okReg R os.toArray = true := by rfl) : Wp P R n (.region id os.toArray false) Q e l := Wp.region h hR
theorem Wsr {id : Nat} {os : List Oper} {d : Code} (h : WpL P n os.toArray (Thn (Wp P R n d Q) Q) os e l) (hR : okReg R os.toArray = true := by rfl) : Wp P R n ((Code.region id os.toArray false).seq d) Q e l := Wp.seq (Wp.region h hR)
theorem Ln (h : Q .normal e l) : WpL P n ops Q [] e l := WpL.nil h
theorem Lnt {K : Env → List HP → Prop} {Q' : Exit → Env → List HP → Prop} (h : K e l) : WpL P n ops (Thn K Q') [] e l := WpL.nil (Thn.n h)
theorem Rt {rs : List ResultVar} {post : Value → List HP → Prop} {l' rest : List HP} {vs : List Value} (hr : ResV P e l rs vs) (hp : post (packed vs) l') (hg : Tk l l' rest := by repeat (first | exact Tk.nil | apply Tk.cons (by repeat (first | exact Pk.here | apply Pk.next)))) : RetQ P rs post .ret e l := Ret.now hr (Gh.tk hg) hp
theorem Ld {t z b : Nat} {t' : TypeId} {cs : List Value} [AG P t true] [SZ P t z] (hn : cs.length = z := by first | rfl | assumption | (simp <;> fail)) : Lds P (cel b t' cs :: l) ⟨b, 0, none⟩ t (.agg cs.toArray) := Lds.all hn
theorem Li {t z b off : Nat} {cs : List Value} [AG P t true] [SZ P t z] (hn : cs.length = z := by first | rfl | assumption | (simp <;> fail)) : Lds P (icel b off cs :: l) ⟨b, off, none⟩ t (.agg cs.toArray) := Lds.iall hn
end
end Go.Proofs.YtomijhgicennbaaGreat
namespace Go.Proofs.YtomijhgicennbaaGreat
open Go
set_option maxHeartbeats 4000000
set_option linter.unusedSimpArgs false
set_option linter.unusedVariables false
abbrev vi (n : Int) : Value := .int .i64 n
abbrev vb (b : Bool) : Value := .bool b
abbrev vnil : Value := .slice none 0 0
abbrev vp (b off : Nat) : Value := .pointer (some ⟨b, off, none⟩)
/-- Cells of an owned row are overwritten. -/
theorem Sts.rowP {P : Program} {l : List HP} {t : TypeId} {sz n cap b o off : Nat} {xs pre old post vs : List Value} (hx : xs = pre ++ (old ++ post)) (hp : pre.length = off) (hl : vs.length = old.length) (hone : oneCells vs) :
    Sts P (rowA t sz (.slice (some ⟨b, o, none⟩) n cap) n xs :: l) ⟨b, o + off, none⟩ vs (rowA t sz (.slice (some ⟨b, o, none⟩) n cap) n (pre ++ (vs ++ post)) :: l) := by
  unfold Sts
  intro F w hh
  obtain ⟨⟨A, B⟩, ⟨h1, h2, h3, h4⟩, h5⟩ := (GhE.rowOpen Pk.here).use hh
  simp only at h2 h4 h5
  subst hx
  have e1 : A ++ ((pre ++ (old ++ post)) ++ B) = (A ++ pre) ++ (old ++ (post ++ B)) := by simp
  have e2 : (A ++ pre) ++ (vs ++ (post ++ B)) = A ++ ((pre ++ (vs ++ post)) ++ B) := by simp
  rw [e1] at h5
  have hs := Sts.piece (P := P) (l := l) (b := b) (off := o + off) (t := t) (A := A ++ pre) (old := old) (B := post ++ B) hone (by simp; omega) hl
  unfold Sts at hs
  obtain ⟨w', hr, hh', hx'⟩ := hs F w h5
  rw [e2] at hh'
  refine ⟨w', hr, (Gh.rowShut (sz := sz) (n := n) (cap := cap) (o := o) Pk.here (by simp at h1 ⊢; omega) h2 h3 (by simp at h4 ⊢; omega)).use hh', hx'⟩
theorem Sts.row1 {P : Program} {l : List HP} {t : TypeId} {n cap b o i : Nat} {xs : List Value} {v : Value} (hi : i < xs.length) (hone : v.oneCell' = true) :
    Sts P (rowA t 1 (.slice (some ⟨b, o, none⟩) n cap) n xs :: l) ⟨b, o + i * 1, none⟩ [v] (rowA t 1 (.slice (some ⟨b, o, none⟩) n cap) n (xs.set i v) :: l) := by
  have h := Sts.rowP (P := P) (l := l) (t := t) (sz := 1) (n := n) (cap := cap) (b := b) (o := o) (off := i * 1) (xs := xs) (pre := xs.take i) (old := [xs[i]]) (post := xs.drop (i + 1)) (vs := [v])
    (by simp) (by simp; omega) rfl (oneCells1 hone)
  rwa [show xs.take i ++ ([v] ++ xs.drop (i + 1)) = xs.set i v by rw [List.set_eq_take_append_cons_drop, if_pos hi]; simp] at h
/-- A string of bytes. -/
abbrev vs (l : List UInt8) : Value := .string ⟨l.toArray⟩
theorem toList_vs (l : List UInt8) : (⟨l.toArray⟩ : ByteArray).toList = l := by rw [ByteArray.toList_eq]
theorem beq_list (l m : List UInt8) : (l == m) = decide (l = m) := by
  by_cases h : l = m
  · simp [h]
  · simp [h]
section
variable {P : Program} {e : Env} {C : List HP} {t ty : TypeId} {x y lo hi : Operand} {k : IntKind} {l m : List UInt8}
theorem Rdo.eqVs {u : TypeId} (hx : evl e x = some (vs l)) (hy : evl e y = some (vs m)) : Rdo P e C (.binOp .eql t x y u) ty (.bool (decide (l = m))) := by
  have := Rdo.eqs (P := P) (C := C) (ty := ty) (t := t) (u := u) hx hy
  rw [toList_vs, toList_vs] at this
  rwa [beq_list] at this
end
end Go.Proofs.YtomijhgicennbaaGreat
