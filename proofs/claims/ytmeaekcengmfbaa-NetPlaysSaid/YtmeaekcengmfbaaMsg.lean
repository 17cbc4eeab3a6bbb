/- Digests, votes, messages: data, cells, how they read in frozen memory. -/
import Derived.Test.YtmeaekcengmfbaaCvt
namespace Go.Proofs.Ytmeaekcengmfbaa
open Go
set_option maxHeartbeats 4000000
set_option linter.unusedSimpArgs false
set_option linter.unusedVariables false
set_option maxRecDepth 20000

/-- A digest: 32 bytes. -/
structure Hash where
  l : List UInt8
  h : l.length = 32
  deriving DecidableEq

structure Vote where
  kind : Int
  slot : Int
  view : Int
  sum : Hash
  from_ : Int
  tag : Hash
  deriving DecidableEq

structure Msg where
  kind : Int
  from_ : Int
  to : Int
  slot : Int
  view : Int
  value : List UInt8
  votes : List Vote
  tag : Hash
  deriving DecidableEq

def hash0 : Hash := ⟨List.replicate 32 0, by simp⟩
def msg0 : Msg := ⟨0, 0, 0, 0, 0, [], [], hash0⟩

def hc (h : Hash) : List Value := bytesC h.l
def voteC (v : Vote) : List Value := [vi v.kind, vi v.slot, vi v.view] ++ (hc v.sum ++ (vi v.from_ :: hc v.tag))
def msgC (k f t s v : Int) (sv vv : Value) (h : Hash) : List Value := [vi k, vi f, vi t, vi s, vi v, sv, vv] ++ hc h

theorem hc_length (h : Hash) : (hc h).length = 32 := by simp [hc, bytesC_length, h.h]
theorem voteC_length (v : Vote) : (voteC v).length = 68 := by simp [voteC, hc_length]
theorem msgC_length (k f t s v : Int) (sv vv : Value) (h : Hash) : (msgC k f t s v sv vv h).length = 39 := by simp [msgC, hc_length]
attribute [simp] hc_length voteC_length msgC_length bytesC_length

theorem u8c_inj {a b : UInt8} (h : u8c a = u8c b) : a = b := by
  simp only [u8c, Value.int.injEq, true_and] at h
  exact UInt8.toNat_inj.1 (by omega)
theorem bytesC_inj : ∀ {a b : List UInt8}, bytesC a = bytesC b → a = b
  | [], [], _ => rfl
  | [], _ :: _, h => by simp [bytesC] at h
  | _ :: _, [], h => by simp [bytesC] at h
  | x :: a, y :: b, h => by
    simp only [bytesC, List.map_cons, List.cons.injEq] at h
    obtain ⟨h1, h2⟩ := h
    have e1 := u8c_inj h1
    have e2 := bytesC_inj (a := a) (b := b) (by simpa [bytesC] using h2)
    rw [e1, e2]
theorem hc_inj {a b : Hash} (h : hc a = hc b) : a = b := by
  obtain ⟨a, ha⟩ := a
  obtain ⟨b, hb⟩ := b
  have := bytesC_inj h
  simp only at this
  subst this
  rfl

theorem oneCells_append {a b : List Value} (ha : oneCells a) (hb : oneCells b) : oneCells (a ++ b) := fun v hv => (List.mem_append.1 hv).elim (ha v) (hb v)
theorem oneCells_cons {a : Value} {b : List Value} (ha : a.oneCell' = true) (hb : oneCells b) : oneCells (a :: b) := fun v hv => by
  cases hv with
  | head => exact ha
  | tail _ h => exact hb v h
theorem oneCells_hc (h : Hash) : oneCells (hc h) := oneCells_bytesC _
theorem oneCells_voteC (v : Vote) : oneCells (voteC v) :=
  oneCells_append (oneCells_cons rfl (oneCells_cons rfl (oneCells_cons rfl oneCells_nil))) (oneCells_append (oneCells_bytesC _) (oneCells_cons rfl (oneCells_bytesC _)))
theorem oneCells_msgC {k f t s v : Int} {sv vv : Value} {h : Hash} (h1 : sv.oneCell' = true) (h2 : vv.oneCell' = true) : oneCells (msgC k f t s v sv vv h) :=
  oneCells_append (oneCells_cons rfl (oneCells_cons rfl (oneCells_cons rfl (oneCells_cons rfl (oneCells_cons rfl (oneCells_cons h1 (oneCells_cons h2 oneCells_nil))))))) (oneCells_bytesC _)
theorem oneCells_flatten {css : List (List Value)} (h : ∀ c ∈ css, oneCells c) : oneCells css.flatten := fun v hv => by
  obtain ⟨c, hc, hv⟩ := List.mem_flatten.1 hv
  exact h c hc v hv

theorem msgC_tag {k f t s v : Int} {sv vv : Value} {h : Hash} : msgC k f t s v sv vv h = [vi k, vi f, vi t, vi s, vi v, sv, vv] ++ (hc h ++ []) := by simp [msgC]
theorem voteC_sum {v : Vote} : voteC v = [vi v.kind, vi v.slot, vi v.view] ++ (hc v.sum ++ (vi v.from_ :: hc v.tag)) := rfl
theorem voteC_tag {v : Vote} : voteC v = ([vi v.kind, vi v.slot, vi v.view] ++ (hc v.sum ++ [vi v.from_])) ++ (hc v.tag ++ []) := by simp [voteC]
def votesC (vs : List Vote) : List Value := (vs.map voteC).flatten
theorem votesC_length (vs : List Vote) : (votesC vs).length = vs.length * 68 := by
  unfold votesC
  rw [flatten_length (sz := 68) (by intro c hc; obtain ⟨v, _, rfl⟩ := List.mem_map.1 hc; exact voteC_length v)]
  simp
theorem oneCells_votesC (vs : List Vote) : oneCells (votesC vs) := oneCells_flatten fun c hc => by obtain ⟨v, _, rfl⟩ := List.mem_map.1 hc; exact oneCells_voteC v
attribute [simp] votesC_length

/-! ### How they read -/

abbrev RdVotes (g : FH) (v : Value) (vs : List Vote) : Prop := RdRow g 68 v vs.length (votesC vs)
def RdMsg (g : FH) (cs : List Value) (m : Msg) : Prop :=
  ∃ sv vv, cs = msgC m.kind m.from_ m.to m.slot m.view sv vv m.tag ∧ RdBytes g sv m.value ∧ RdVotes g vv m.votes
abbrev RdMsgs (g : FH) (v : Value) (ms : List Msg) : Prop := RdSl RdMsg 39 g v ms

theorem RdMsg.mono (c : List Value) (m : Msg) : Mono fun g => RdMsg g c m := fun g g' hle ⟨sv, vv, h, h1, h2⟩ => ⟨sv, vv, h, RdRow.mono _ _ _ _ g g' hle h1, RdRow.mono _ _ _ _ g g' hle h2⟩
theorem RdMsgs.mono (v : Value) (ms : List Msg) : Mono fun g => RdMsgs g v ms := RdSl.mono RdMsg.mono 39 v ms
theorem RdRow.shape {g : FH} {sz n : Nat} {v : Value} {xs : List Value} (h : RdRow g sz v n xs) : ∃ a c, v = .slice a n c := by
  obtain ⟨_, a, c, h, _⟩ := h
  exact ⟨a, c, h⟩
theorem shape_votes {v : Value} {vs : List Vote} (r : Res) (h : fz (fun g => RdVotes g v vs) r) : ∃ a c, v = .slice a vs.length c := by unfold fz at h; exact h.shape
theorem shape_msgs {v : Value} {l : List Msg} (r : Res) (h : fz (fun g => RdMsgs g v l) r) : ∃ a c, v = .slice a l.length c := by unfold fz at h; exact RdSl.shape h
theorem nil_votes {n c : Nat} {bs : List Vote} (r : Res) (h : fz (fun g => RdVotes g (.slice none n c) bs) r) : bs = [] := by
  unfold fz at h
  obtain ⟨_, a, c', h2, h3⟩ := h
  simp only [Value.slice.injEq] at h2
  obtain ⟨rfl, rfl, rfl⟩ := h2
  rcases h3 with h3 | ⟨b, o, h3, _⟩
  · exact List.eq_nil_of_length_eq_zero h3
  · cases h3
theorem Gh.noVotes {l : List HP} {a : Option Addr} {c : Nat} : Gh l (fz (fun g => RdVotes g (.slice a 0 c) []) :: l) := Gh.fzTrue fun g => RdRow.nil g 68 a c

/-- The cells of a message whose value and votes are slices. -/
abbrev msgCs (m : Msg) (x : (Option Addr × Nat) × (Option Addr × Nat)) : List Value := msgC m.kind m.from_ m.to m.slot m.view (.slice x.1.1 m.value.length x.1.2) (.slice x.2.1 m.votes.length x.2.2) m.tag
/-- A message in frozen memory: its cells, its value, its votes. -/
theorem GhE.msg {l rest : List HP} {cs : List Value} {m : Msg} (hp : Pk l (fz (fun g => RdMsg g cs m)) rest) :
    GhE l (fun x => cs = msgCs m x) (fun x => fz (fun g => RdBytes g (.slice x.1.1 m.value.length x.1.2) m.value) :: fz (fun g => RdVotes g (.slice x.2.1 m.votes.length x.2.2) m.votes) :: rest) := by
  have h := GhE.part (φ := fun x : (Option Addr × Nat) × (Option Addr × Nat) => cs = msgCs m x) (Ψ := fun x g => RdBytes g (.slice x.1.1 m.value.length x.1.2) m.value ∧ RdVotes g (.slice x.2.1 m.votes.length x.2.2) m.votes) hp (fun g ⟨sv, vv, h1, h2, h3⟩ => by
    obtain ⟨a, c, rfl⟩ := h2.shape
    obtain ⟨a', c', rfl⟩ := h3.shape
    exact ⟨((a, c), (a', c')), h1, h2, h3⟩)
  refine GhE.mk fun F w hl => ?_
  obtain ⟨x, h1, h2⟩ := h.use hl
  exact ⟨x, h1, (Gh.fz2 (by unfold Pk; exact List.Perm.refl _)).use h2⟩
theorem Gh.mkMsg {l rest rest' : List HP} {m : Msg} {sv vv : Value} (h1 : Pk l (fz (fun g => RdBytes g sv m.value)) rest) (h2 : Pk rest (fz (fun g => RdVotes g vv m.votes)) rest') :
    Gh l (fz (fun g => RdMsg g (msgC m.kind m.from_ m.to m.slot m.view sv vv m.tag) m) :: rest') :=
  Gh.trans (Gh.fzAnd (RdRow.mono _ _ _ _) (RdRow.mono _ _ _ _) h1 h2) (Gh.fzImp Pk.here fun g h => ⟨sv, vv, rfl, h.1, h.2⟩)
theorem RdMsg.len {g : FH} {cs : List Value} {m : Msg} (h : RdMsg g cs m) : cs.length = 39 := by obtain ⟨sv, vv, rfl, _⟩ := h; simp
theorem RdMsg.one {g : FH} {cs : List Value} {m : Msg} (h : RdMsg g cs m) : oneCells cs := by
  obtain ⟨sv, vv, rfl, h1, h2⟩ := h
  obtain ⟨a, c, rfl⟩ := h1.shape
  obtain ⟨a', c', rfl⟩ := h2.shape
  exact oneCells_msgC rfl rfl
theorem len_msg {cs : List Value} {m : Msg} (r : Res) (h : fz (fun g => RdMsg g cs m) r) : cs.length = 39 ∧ oneCells cs := by
  unfold fz at h
  exact ⟨h.len, h.one⟩
end Go.Proofs.Ytmeaekcengmfbaa
