/- A client: its data, its memory; how it begins, and numbers operations. -/
import Derived.Test.YtaacdekfeljpeaaDoorHoldpart
import Derived.Test.YtaacdekfeljpeaaDoorTrim
import Derived.Test.YtaacdekfeljpeaaDoorByt
namespace Go.Proofs.YtaacdekfeljpeaaDoor
open Go
set_option maxHeartbeats 4000000
set_option linter.unusedSimpArgs false
set_option linter.unusedVariables false
set_option maxRecDepth 20000

/-- An operation. -/
structure Op where
  kind : Int
  client : Int
  seq : Int
  name : List UInt8
  producer : Int
  epoch : Int
  txn : Int
  part : Int
  commit : Bool
  deriving DecidableEq
abbrev opC (o : Go.Proofs.YtaacdekfeljpeaaDoor.Op) : List Value := [vi o.kind, vi o.client, vi o.seq, vs o.name, vi o.producer, vi o.epoch, vi o.txn, vi o.part, vb o.commit]
abbrev op0 : Go.Proofs.YtaacdekfeljpeaaDoor.Op := ⟨0, 0, 0, [], 0, 0, 0, 0, false⟩

/-- A record. -/
structure Rec where
  producer : Int
  epoch : Int
  txn : Int
  seq : Int
  value : List UInt8
  deriving DecidableEq
abbrev recC (r : Rec) (v : Value) : List Value := [vi r.producer, vi r.epoch, vi r.txn, vi r.seq, v]

/-- What is known of a part. -/
structure PartS where
  begun : Int
  next : Int
  out : Option Rec
abbrev part0 : PartS := ⟨0, 0, none⟩

/-- A client. -/
structure CliS where
  number : Int
  name : List UInt8
  next : Int
  asked : Int
  known : Bool
  producer : Int
  epoch : Int
  last : Int
  opn : Bool
  parts : List PartS
abbrev cliC (c : CliS) (pv : Value) : List Value := [vi c.number, vs c.name, vi c.next, vi c.asked, vb c.known, vi c.producer, vi c.epoch, vi c.last, vb c.opn, pv]
abbrev cliB (b : Nat) (c : CliS) (pv : Value) : HP := cel b 68 (cliC c pv)




def outA (v : Value) : Option Rec → HP
  | none => pureH (v = .pointer none)
  | some r => exH fun x : Nat × Value => starH [pureH (v = vp x.1 0), cel x.1 39 (recC r x.2), fz fun g => RdBytes g x.2 r.value]
def partA (q : Nat) (p : PartS) : HP := exH fun v : Value => starH [cel q 76 [vi p.begun, vi p.next, v], outA v p.out]
def partsA (qs : List Nat) (ps : List PartS) : HP := starH ((qs.zip ps).map fun x => partA x.1 x.2)
def holeA (qs : List Nat) (ps : List PartS) (i : Nat) : HP := starH (((qs.zip ps).eraseIdx i).map fun x => partA x.1 x.2)
/-- The table of parts. -/
def tabE (k : Nat) : List Nat → List (Int × Value)
  | [] => []
  | q :: qs => ((k : Int), vp q 0) :: tabE (k + 1) qs

theorem tabE_append (k : Nat) (qs : List Nat) (q : Nat) : tabE k (qs ++ [q]) = tabE k qs ++ [(((k + qs.length : Nat) : Int), vp q 0)] := by
  induction qs generalizing k with
  | nil => simp [tabE]
  | cons a qs ih => simp [tabE, ih, Nat.add_assoc, Nat.add_comm 1]
theorem tabE_look (k : Nat) (qs : List Nat) (n : Int) : alook (tabE k qs) n = if k ≤ n ∧ n < k + qs.length then (qs[n.toNat - k]?).map fun q => vp q 0 else none := by
  induction qs generalizing k with
  | nil =>
    rw [if_neg (by simp)]
    rfl
  | cons q qs ih =>
    simp only [tabE, alook]
    by_cases h : (k : Int) = n
    · subst h
      rw [if_pos rfl, if_pos (by simp; omega)]
      simp
    · rw [if_neg h, ih]
      by_cases h2 : (k : Int) ≤ n ∧ n < k + (q :: qs).length
      · have h3 : ((k + 1 : Nat) : Int) ≤ n ∧ n < ((k + 1 : Nat) : Int) + qs.length := by simp at h2 ⊢; omega
        rw [if_pos h2, if_pos h3]
        have h4 : n.toNat - k = (n.toNat - (k + 1)) + 1 := by omega
        rw [h4]
        simp
      · rw [if_neg h2, if_neg (by simp at h2 ⊢; omega)]
theorem tabE_set (qs : List Nat) (q : Nat) : aset (tabE 0 qs) (qs.length : Int) (vp q 0) = tabE 0 (qs ++ [q]) := by
  rw [aset_new, tabE_append]
  · simp
  · rw [tabE_look, if_neg (by omega)]
theorem tabE_keys (k : Nat) (qs : List Nat) : (akeys (tabE k qs)).Pairwise (· ≤ ·) := by
  induction qs generalizing k with
  | nil => exact List.Pairwise.nil
  | cons q qs ih =>
    simp only [tabE, akeys, List.map_cons, List.pairwise_cons]
    refine ⟨fun x hx => ?_, ih (k + 1)⟩
    have : alook (tabE (k + 1) qs) x ≠ none := fun h => alook_none.1 h hx
    rw [tabE_look] at this
    by_cases h : ((k + 1 : Nat) : Int) ≤ x ∧ x < ((k + 1 : Nat) : Int) + qs.length
    · omega
    · rw [if_neg h] at this; exact absurd rfl this
theorem tabE_length (k : Nat) (qs : List Nat) : (tabE k qs).length = qs.length := by
  induction qs generalizing k with
  | nil => rfl
  | cons q qs ih => simp [tabE, ih]

theorem Gh.star1 {l : List HP} {A B : List HP} {x : HP} : Gh (starH (A ++ x :: B) :: l) (x :: starH (A ++ B) :: l) := Gh.mk fun F w hl => by
  have h1 := hl.open_star
  have h2 : Holds (x :: ((A ++ B) ++ l)) F w := h1.perm (by simp)
  obtain ⟨G, h3, h4⟩ := Holds.frameR (l1 := [x]) (l2 := (A ++ B) ++ l) h2
  exact h4 _ _ (Holds.shut_star h3)
theorem Gh.star2 {l : List HP} {A B : List HP} {x : HP} : Gh (x :: starH (A ++ B) :: l) (starH (A ++ x :: B) :: l) := Gh.mk fun F w hl => by
  obtain ⟨G, h3, h4⟩ := Holds.frameR (l1 := [x]) (l2 := starH (A ++ B) :: l) hl
  have h2 : Holds ([x] ++ ((A ++ B) ++ l)) F w := h4 _ _ h3.open_star
  exact Holds.shut_star (h2.perm (by simp only [List.cons_append, List.nil_append, List.append_assoc]; exact List.perm_middle.symm))
theorem Gh.starO {l A : List HP} : Gh (starH A :: l) (A ++ l) := Gh.mk fun F w hl => hl.open_star
theorem Gh.starS {l A : List HP} : Gh (A ++ l) (starH A :: l) := Gh.mk fun F w hl => Holds.shut_star hl

theorem zip_split {α β : Type} {qs : List α} {ps : List β} {i : Nat} {q : α} {p : β} (h1 : qs[i]? = some q) (h2 : ps[i]? = some p) : qs.zip ps = (qs.zip ps).take i ++ (q, p) :: (qs.zip ps).drop (i + 1) := by
  have h := zip_at h1 h2
  obtain ⟨hi, he⟩ := List.getElem?_eq_some_iff.1 h
  rw [← he, ← List.drop_eq_getElem_cons hi, List.take_append_drop]
theorem hole_split {α β : Type} {qs : List α} {ps : List β} {i : Nat} : (qs.zip ps).eraseIdx i = (qs.zip ps).take i ++ (qs.zip ps).drop (i + 1) := List.eraseIdx_eq_take_drop_succ _ _

/-- One part is taken out. -/
theorem Gh.part1 {l : List HP} {qs : List Nat} {ps : List PartS} {i : Nat} {q : Nat} {p : PartS} (h1 : qs[i]? = some q) (h2 : ps[i]? = some p) : Gh (partsA qs ps :: l) (partA q p :: holeA qs ps i :: l) := by
  unfold partsA holeA
  rw [hole_split]
  conv => lhs; rw [zip_split h1 h2]
  rw [List.map_append, List.map_append, List.map_cons]
  exact Gh.star1
/-- One part is put back. -/
theorem Gh.part2 {l : List HP} {qs : List Nat} {ps : List PartS} {i : Nat} {q : Nat} {p : PartS} (h1 : qs[i]? = some q) (h2 : i < ps.length) : Gh (partA q p :: holeA qs ps i :: l) (partsA qs (ps.set i p) :: l) := by
  unfold partsA holeA
  have h3 : (ps.set i p)[i]? = some p := by simp [h2]
  have e1 : (qs.zip (ps.set i p)).take i = (qs.zip ps).take i := by
    apply List.ext_getElem?
    intro j
    by_cases hj : j < i
    · simp only [List.getElem?_take, if_pos hj, List.zip, List.getElem?_zipWith, List.getElem?_set_ne (show i ≠ j by omega)]
    · simp only [List.getElem?_take, if_neg hj]
  have e2 : (qs.zip (ps.set i p)).drop (i + 1) = (qs.zip ps).drop (i + 1) := by
    apply List.ext_getElem?
    intro j
    simp only [List.getElem?_drop, List.zip, List.getElem?_zipWith, List.getElem?_set_ne (show i ≠ i + 1 + j by omega)]
  rw [hole_split, zip_split h1 h3, e1, e2, List.map_append, List.map_append, List.map_cons]
  exact Gh.star2
theorem partA_open {l : List HP} {q : Nat} {p : PartS} : GhE (partA q p :: l) (fun _ : Value => True) (fun v => cel q 76 [vi p.begun, vi p.next, v] :: outA v p.out :: l) := by
  unfold partA
  exact GhE.open_ Pk.here
theorem partA_shut {l : List HP} {q : Nat} {p : PartS} {v : Value} : Gh (cel q 76 [vi p.begun, vi p.next, v] :: outA v p.out :: l) (partA q p :: l) := by
  unfold partA
  exact Gh.shut (f := fun v => [cel q 76 [vi p.begun, vi p.next, v], outA v p.out]) v (Tk.cons Pk.here (Tk.cons Pk.here (Tk.mk fun F w h => h)))

/-- A client's memory. -/
structure CliM where
  tb : Nat
  mb : Nat
  qs : List Nat
abbrev cliL (b : Nat) (c : CliS) (m : CliM) : List HP := [cliB b c (vp m.tb 0), cel m.tb 98 [.map (some m.mb)], mapA i64 m.mb (tabE 0 m.qs), partsA m.qs c.parts, pureH (m.qs.length = 4 ∧ c.parts.length = 4)]
def cliA (b : Nat) (c : CliS) : HP := exH fun m : CliM => starH (cliL b c m)

theorem cliA_open {l : List HP} {b : Nat} {c : CliS} : GhE (cliA b c :: l) (fun m : CliM => m.qs.length = 4 ∧ c.parts.length = 4)
    (fun m => cliB b c (vp m.tb 0) :: cel m.tb 98 [.map (some m.mb)] :: mapA i64 m.mb (tabE 0 m.qs) :: partsA m.qs c.parts :: l) := by
  unfold cliA
  refine GhE.mk fun F w hl => ?_
  obtain ⟨m, _, h⟩ := (GhE.open_ (f := cliL b c) Pk.here).use hl
  have h2 : Holds (pureH (m.qs.length = 4 ∧ c.parts.length = 4) :: cliB b c (vp m.tb 0) :: cel m.tb 98 [.map (some m.mb)] :: mapA i64 m.mb (tabE 0 m.qs) :: partsA m.qs c.parts :: l) F w :=
    h.perm (List.perm_middle (l₁ := [_, _, _, _]))
  obtain ⟨h3, h4⟩ := h2.open_pure
  exact ⟨m, h3, h4⟩
theorem cliA_shut {l : List HP} {b : Nat} {c : CliS} (m : CliM) (hq : m.qs.length = 4) (hc : c.parts.length = 4) :
    Gh (cliB b c (vp m.tb 0) :: cel m.tb 98 [.map (some m.mb)] :: mapA i64 m.mb (tabE 0 m.qs) :: partsA m.qs c.parts :: l) (cliA b c :: l) := by
  unfold cliA
  refine Gh.mk fun F w hl => ?_
  have h2 := Holds.shut_pure (φ := m.qs.length = 4 ∧ c.parts.length = 4) ⟨hq, hc⟩ hl
  exact (Gh.shut (f := cliL b c) m (Tk.mk fun F w h => h.perm (List.perm_middle (l₁ := [_, _, _, _])).symm)).use h2
end Go.Proofs.YtaacdekfeljpeaaDoor
