/- The data of the program's plain types, and their cells. -/
import Derived.Test.YtmeaekcengmfbaaRd
import Derived.Test.YtmeaekcengmfbaaTy
import Derived.DeepKeys
set_option linter.unusedSimpArgs false
set_option linter.unusedVariables false
namespace Go.Proofs.Ytmeaekcengmfbaa
open Go

/-- A digest: 32 bytes. -/
structure Hash where
  l : List UInt8
  h : l.length = 32
  deriving DecidableEq

structure Vote where
  kind : Int
  slot : Int
  view : Int
  sum : Hash
  from_ : Int
  tag : Hash
  deriving DecidableEq

structure Msg where
  kind : Int
  from_ : Int
  to : Int
  slot : Int
  view : Int
  value : List UInt8
  votes : List Vote
  tag : Hash
  deriving DecidableEq

def hash0 : Hash := ⟨List.replicate 32 0, by simp⟩
def msg0 : Msg := ⟨0, 0, 0, 0, 0, [], [], hash0⟩

abbrev vi (n : Int) : Value := .int .i64 n
abbrev vb (b : Bool) : Value := .bool b
abbrev vnil : Value := .slice none 0 0
abbrev vp (b off : Nat) : Value := .pointer (some ⟨b, off, none⟩)
def hc (h : Hash) : List Value := bytesC h.l
def voteC (v : Vote) : List Value := [vi v.kind, vi v.slot, vi v.view] ++ (hc v.sum ++ (vi v.from_ :: hc v.tag))
def msgC (k f t s v : Int) (sv vv : Value) (h : Hash) : List Value := [vi k, vi f, vi t, vi s, vi v, sv, vv] ++ hc h

theorem hc_length (h : Hash) : (hc h).length = 32 := by simp [hc, bytesC, h.h]
theorem voteC_length (v : Vote) : (voteC v).length = 68 := by simp [voteC, hc_length]
theorem msgC_length (k f t s v : Int) (sv vv : Value) (h : Hash) : (msgC k f t s v sv vv h).length = 39 := by simp [msgC, hc_length]

attribute [simp] hc_length voteC_length msgC_length

theorem u8c_inj {a b : UInt8} (h : u8c a = u8c b) : a = b := by
  simp only [u8c, Value.int.injEq, true_and] at h
  exact UInt8.toNat_inj.1 (by omega)
theorem bytesC_inj : ∀ {a b : List UInt8}, bytesC a = bytesC b → a = b
  | [], [], _ => rfl
  | [], _ :: _, h => by simp [bytesC] at h
  | _ :: _, [], h => by simp [bytesC] at h
  | x :: a, y :: b, h => by
    simp only [bytesC, List.map_cons, List.cons.injEq] at h
    obtain ⟨h1, h2⟩ := h
    have e1 := u8c_inj h1
    have e2 := bytesC_inj (a := a) (b := b) (by simpa [bytesC] using h2)
    rw [e1, e2]
theorem hc_inj {a b : Hash} (h : hc a = hc b) : a = b := by
  obtain ⟨a, ha⟩ := a
  obtain ⟨b, hb⟩ := b
  have := bytesC_inj h
  simp only at this
  subst this
  rfl

theorem oneCells_bytesC (bs : List UInt8) : oneCells (bytesC bs) := by
  intro v hv
  obtain ⟨b, _, rfl⟩ := List.mem_map.1 hv
  rfl
theorem oneCells_append {a b : List Value} (ha : oneCells a) (hb : oneCells b) : oneCells (a ++ b) := fun v hv => (List.mem_append.1 hv).elim (ha v) (hb v)
theorem oneCells_cons {a : Value} {b : List Value} (ha : a.oneCell' = true) (hb : oneCells b) : oneCells (a :: b) := fun v hv => by
  cases hv with
  | head => exact ha
  | tail _ h => exact hb v h
theorem oneCells_voteC (v : Vote) : oneCells (voteC v) :=
  oneCells_append (oneCells_cons rfl (oneCells_cons rfl (oneCells_cons rfl oneCells_nil))) (oneCells_append (oneCells_bytesC _) (oneCells_cons rfl (oneCells_bytesC _)))
theorem oneCells_msgC {k f t s v : Int} {sv vv : Value} {h : Hash} (h1 : sv.oneCell' = true) (h2 : vv.oneCell' = true) : oneCells (msgC k f t s v sv vv h) :=
  oneCells_append (oneCells_cons rfl (oneCells_cons rfl (oneCells_cons rfl (oneCells_cons rfl (oneCells_cons rfl (oneCells_cons h1 (oneCells_cons h2 oneCells_nil))))))) (oneCells_bytesC _)
theorem oneCells_lput : ∀ {cs : List Value} {o : Nat} {vs : List Value}, oneCells cs → oneCells vs → oneCells (lput cs o vs)
  | cs, o, [], h, _ => by rw [lput_nil]; exact h
  | [], o, v :: vs, _, _ => by cases o <;> exact oneCells_nil
  | c :: cs, 0, v :: vs, h, k => by
    simp only [lput]
    exact oneCells_cons (k v (by simp)) (oneCells_lput (fun x hx => h x (by simp [hx])) (fun x hx => k x (by simp [hx])))
  | c :: cs, o + 1, v :: vs, h, k => by
    simp only [lput]
    exact oneCells_cons (h c (by simp)) (oneCells_lput (fun x hx => h x (by simp [hx])) k)
theorem oneCells_flatten {css : List (List Value)} (h : ∀ c ∈ css, oneCells c) : oneCells css.flatten := fun v hv => by
  obtain ⟨c, hc, hv⟩ := List.mem_flatten.1 hv
  exact h c hc v hv

@[simp] theorem lput_msgC5 (k f t s v : Int) (sv vv x : Value) (h : Hash) : lput (msgC k f t s v sv vv h) 5 [x] = msgC k f t s v x vv h := by simp [msgC, lput, lput_nil]
@[simp] theorem lput_msgC6 (k f t s v : Int) (sv vv x : Value) (h : Hash) : lput (msgC k f t s v sv vv h) 6 [x] = msgC k f t s v sv x h := by simp [msgC, lput, lput_nil]

/-! ### How they read -/

def RdByte (_ : FH) (cs : List Value) (b : UInt8) : Prop := cs = [u8c b]
def RdInt (_ : FH) (cs : List Value) (n : Int) : Prop := cs = [vi n]
def RdVote (_ : FH) (cs : List Value) (v : Vote) : Prop := cs = voteC v
abbrev RdBytes (g : FH) (v : Value) (bs : List UInt8) : Prop := RdSl RdByte 1 g v bs
abbrev RdVotes (g : FH) (v : Value) (vs : List Vote) : Prop := RdSl RdVote 68 g v vs
def RdMsg (g : FH) (cs : List Value) (m : Msg) : Prop :=
  ∃ sv vv, cs = msgC m.kind m.from_ m.to m.slot m.view sv vv m.tag ∧ RdBytes g sv m.value ∧ RdVotes g vv m.votes
abbrev RdMsgs (g : FH) (v : Value) (ms : List Msg) : Prop := RdSl RdMsg 39 g v ms

theorem RdByte.mono (c : List Value) (a : UInt8) : Mono fun g => RdByte g c a := fun _ _ _ h => h
theorem RdInt.mono (c : List Value) (a : Int) : Mono fun g => RdInt g c a := fun _ _ _ h => h
theorem RdVote.mono (c : List Value) (a : Vote) : Mono fun g => RdVote g c a := fun _ _ _ h => h
theorem RdBytes.mono (v : Value) (bs : List UInt8) : Mono fun g => RdBytes g v bs := RdSl.mono RdByte.mono 1 v bs
theorem RdVotes.mono (v : Value) (vs : List Vote) : Mono fun g => RdVotes g v vs := RdSl.mono RdVote.mono 68 v vs
theorem RdMsg.mono (c : List Value) (m : Msg) : Mono fun g => RdMsg g c m := fun g g' hle ⟨sv, vv, h, h1, h2⟩ => ⟨sv, vv, h, RdBytes.mono sv _ g g' hle h1, RdVotes.mono vv _ g g' hle h2⟩
theorem RdMsgs.mono (v : Value) (ms : List Msg) : Mono fun g => RdMsgs g v ms := RdSl.mono RdMsg.mono 39 v ms

/-- A row whose elements are just given cells. -/
theorem RdSl.of_row {α : Type} {R : FH → List Value → α → Prop} {c : α → List Value} {sz : Nat} (hR : ∀ g a, R g (c a) a) (hl : ∀ a, (c a).length = sz) {g : FH} {v : Value} {els : List α} (h : RdRow g sz v els.length (els.map c).flatten) : RdSl R sz g v els :=
  ⟨els.map c, h, fun x hx => by obtain ⟨a, _, rfl⟩ := List.mem_map.1 hx; exact hl a, by
    clear h
    induction els with
    | nil => exact .nil
    | cons a els ih => exact .cons (hR g a) ih⟩

theorem RdSl.to_row {α : Type} {R : FH → List Value → α → Prop} {c : α → List Value} {sz : Nat} (hR : ∀ g x a, R g x a → x = c a) {g : FH} {v : Value} {els : List α} (h : RdSl R sz g v els) : RdRow g sz v els.length (els.map c).flatten := by
  obtain ⟨css, h1, _, h3⟩ := h
  have : css = els.map c := by
    clear h1
    induction h3 with
    | nil => rfl
    | cons h _ ih => rw [hR _ _ _ h, ih (fun c hc => by rename_i hh; exact hh c (by simp [hc]))]; rfl
  rw [← this]
  exact h1

theorem flatten_single {α : Type} (f : α → Value) (els : List α) : (els.map fun a => [f a]).flatten = els.map f := by
  induction els with
  | nil => rfl
  | cons a els ih => simp [ih]

theorem RdBytes.row {g : FH} {v : Value} {bs : List UInt8} (h : RdBytes g v bs) : RdRow g 1 v bs.length (bytesC bs) := by
  have := RdSl.to_row (c := fun b => [u8c b]) (fun _ _ _ h => h) h
  rwa [flatten_single] at this
theorem RdBytes.of {g : FH} {v : Value} {bs : List UInt8} (h : RdRow g 1 v bs.length (bytesC bs)) : RdBytes g v bs :=
  RdSl.of_row (c := fun b => [u8c b]) (fun _ _ => rfl) (fun _ => rfl) (by rwa [flatten_single])
def votesC (vs : List Vote) : List Value := (vs.map voteC).flatten
theorem votesC_length (vs : List Vote) : (votesC vs).length = vs.length * 68 := by
  unfold votesC
  rw [flatten_length (sz := 68) (by intro c hc; obtain ⟨v, _, rfl⟩ := List.mem_map.1 hc; exact voteC_length v)]
  simp
theorem oneCells_votesC (vs : List Vote) : oneCells (votesC vs) := oneCells_flatten fun c hc => by obtain ⟨v, _, rfl⟩ := List.mem_map.1 hc; exact oneCells_voteC v
theorem bytesC_length (bs : List UInt8) : (bytesC bs).length = bs.length := by simp [bytesC]
attribute [simp] votesC_length bytesC_length
theorem RdVotes.row {g : FH} {v : Value} {vs : List Vote} (h : RdVotes g v vs) : RdRow g 68 v vs.length (votesC vs) := RdSl.to_row (fun _ _ _ h => h) h
theorem RdVotes.of {g : FH} {v : Value} {vs : List Vote} (h : RdRow g 68 v vs.length (votesC vs)) : RdVotes g v vs := RdSl.of_row (c := voteC) (fun _ _ => rfl) voteC_length h

theorem Src.bytes {P : Program} {l : List HP} {v : Value} {bs : List UInt8} : Src P (fz (fun g => RdBytes g v bs) :: l) 1 v bs.length (bytesC bs) := by
  have := Src.frozen (P := P) (l := l) (sz := 1) (n := bs.length) (v := v) (xs := bytesC bs)
  unfold Src at this ⊢
  exact fun F w hl => this F w (hl.fz_imp fun g h => h.row)
theorem Src.votes {P : Program} {l : List HP} {v : Value} {vs : List Vote} : Src P (fz (fun g => RdVotes g v vs) :: l) 68 v vs.length (votesC vs) := by
  have := Src.frozen (P := P) (l := l) (sz := 68) (n := vs.length) (v := v) (xs := votesC vs)
  unfold Src at this ⊢
  exact fun F w hl => this F w (hl.fz_imp fun g h => h.row)

theorem Gh.iceBytes {l rest : List HP} {t : TypeId} {v : Value} {n : Nat} {bs : List UInt8} (hp : Pk l (rowA t 1 v n (bytesC bs)) rest) (hn : n = bs.length) : Gh l (fz (fun g => RdBytes g v bs) :: rest) := by
  subst hn
  have := Gh.ice hp
  unfold Gh at this ⊢
  exact fun F w hl => (this F w hl).fz_imp fun g h => RdBytes.of h
theorem Gh.iceVotes {l rest : List HP} {t : TypeId} {v : Value} {n : Nat} {vs : List Vote} (hp : Pk l (rowA t 68 v n (votesC vs)) rest) (hn : n = vs.length) : Gh l (fz (fun g => RdVotes g v vs) :: rest) := by
  subst hn
  have := Gh.ice hp
  unfold Gh at this ⊢
  exact fun F w hl => (this F w hl).fz_imp fun g h => RdVotes.of h

/-- A message in frozen memory: its cells, its value, its votes. -/
theorem GhE.msg {l rest : List HP} {cs : List Value} {m : Msg} (hp : Pk l (fz (fun g => RdMsg g cs m)) rest) :
    GhE l (fun x : Value × Value => cs = msgC m.kind m.from_ m.to m.slot m.view x.1 x.2 m.tag) (fun x => fz (fun g => RdBytes g x.1 m.value) :: fz (fun g => RdVotes g x.2 m.votes) :: rest) := by
  have h := GhE.part (φ := fun x : Value × Value => cs = msgC m.kind m.from_ m.to m.slot m.view x.1 x.2 m.tag) (Ψ := fun x g => RdBytes g x.1 m.value ∧ RdVotes g x.2 m.votes) hp (fun g ⟨sv, vv, h1, h2, h3⟩ => ⟨(sv, vv), h1, h2, h3⟩)
  refine GhE.mk fun F w hl => ?_
  obtain ⟨x, h1, h2⟩ := h.use hl
  exact ⟨x, h1, (Gh.fz2 (by unfold Pk; exact List.Perm.refl _)).use h2⟩
end Go.Proofs.Ytmeaekcengmfbaa
