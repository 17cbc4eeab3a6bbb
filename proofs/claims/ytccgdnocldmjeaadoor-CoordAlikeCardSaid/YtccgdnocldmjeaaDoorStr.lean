/- Strings as rows of bytes. Nothing of any program stands here. -/
import Derived.Test.YtccgdnocldmjeaaDoorK
import Derived.Laws.Strings
namespace Go.Proofs.YtccgdnocldmjeaaDoor
open Go
set_option maxHeartbeats 4000000
set_option linter.unusedSimpArgs false
set_option linter.unusedVariables false

abbrev vi (n : Int) : Value := .int .i64 n
abbrev vb (b : Bool) : Value := .bool b
abbrev vnil : Value := .slice none 0 0
abbrev vp (b off : Nat) : Value := .pointer (some ⟨b, off, none⟩)
/-- Cells of an owned row are overwritten. -/
theorem Sts.rowP {P : Program} {l : List HP} {t : TypeId} {sz n cap b o off : Nat} {xs pre old post vs : List Value} (hx : xs = pre ++ (old ++ post)) (hp : pre.length = off) (hl : vs.length = old.length) (hone : oneCells vs) :
    Sts P (rowA t sz (.slice (some ⟨b, o, none⟩) n cap) n xs :: l) ⟨b, o + off, none⟩ vs (rowA t sz (.slice (some ⟨b, o, none⟩) n cap) n (pre ++ (vs ++ post)) :: l) := by
  unfold Sts
  intro F w hh
  obtain ⟨⟨A, B⟩, ⟨h1, h2, h3, h4⟩, h5⟩ := (GhE.rowOpen Pk.here).use hh
  simp only at h2 h4 h5
  subst hx
  have e1 : A ++ ((pre ++ (old ++ post)) ++ B) = (A ++ pre) ++ (old ++ (post ++ B)) := by simp
  have e2 : (A ++ pre) ++ (vs ++ (post ++ B)) = A ++ ((pre ++ (vs ++ post)) ++ B) := by simp
  rw [e1] at h5
  have hs := Sts.piece (P := P) (l := l) (b := b) (off := o + off) (t := t) (A := A ++ pre) (old := old) (B := post ++ B) hone (by simp; omega) hl
  unfold Sts at hs
  obtain ⟨w', hr, hh', hx'⟩ := hs F w h5
  rw [e2] at hh'
  refine ⟨w', hr, (Gh.rowShut (sz := sz) (n := n) (cap := cap) (o := o) Pk.here (by simp at h1 ⊢; omega) h2 h3 (by simp at h4 ⊢; omega)).use hh', hx'⟩

theorem Sts.row1 {P : Program} {l : List HP} {t : TypeId} {n cap b o i : Nat} {xs : List Value} {v : Value} (hi : i < xs.length) (hone : v.oneCell' = true) :
    Sts P (rowA t 1 (.slice (some ⟨b, o, none⟩) n cap) n xs :: l) ⟨b, o + i * 1, none⟩ [v] (rowA t 1 (.slice (some ⟨b, o, none⟩) n cap) n (xs.set i v) :: l) := by
  have h := Sts.rowP (P := P) (l := l) (t := t) (sz := 1) (n := n) (cap := cap) (b := b) (o := o) (off := i * 1) (xs := xs) (pre := xs.take i) (old := [xs[i]]) (post := xs.drop (i + 1)) (vs := [v])
    (by simp) (by simp; omega) rfl (oneCells1 hone)
  rwa [show xs.take i ++ ([v] ++ xs.drop (i + 1)) = xs.set i v by rw [List.set_eq_take_append_cons_drop, if_pos hi]; simp] at h

/-- A string of bytes. -/
abbrev vs (l : List UInt8) : Value := .string ⟨l.toArray⟩
theorem str_bytes (s : ByteArray) : ∃ l : List UInt8, s = ⟨l.toArray⟩ := ⟨s.data.toList, by simp⟩
theorem size_vs (l : List UInt8) : (⟨l.toArray⟩ : ByteArray).size = l.length := by simp [ByteArray.size]
theorem toList_vs (l : List UInt8) : (⟨l.toArray⟩ : ByteArray).toList = l := by rw [ByteArray.toList_eq]
theorem beq_list (l m : List UInt8) : (l == m) = decide (l = m) := by
  by_cases h : l = m
  · simp [h]
  · simp [h]
theorem get_vs (l : List UInt8) (i : Nat) : (⟨l.toArray⟩ : ByteArray)[i]? = l[i]? := by
  by_cases hi : i < l.length
  · have h1 : i < (⟨l.toArray⟩ : ByteArray).size := by simpa [ByteArray.size] using hi
    rw [getElem?_pos (⟨l.toArray⟩ : ByteArray) i h1, getElem?_pos l i hi]
    rfl
  · have h1 : ¬ i < (⟨l.toArray⟩ : ByteArray).size := by simpa [ByteArray.size] using hi
    rw [getElem?_neg (⟨l.toArray⟩ : ByteArray) i h1, getElem?_neg l i hi]

section
variable {P : Program} {e : Env} {C : List HP} {t ty : TypeId} {x y lo hi : Operand} {k : IntKind} {l m : List UInt8}
theorem Rdo.lenVs [h : ST P t] (hx : evl e x = some (vs l)) : Rdo P e C (.call { callee := .builtin .len, args := [x].toArray, argTypes := [t].toArray }) ty (.int .i64 l.length) := by
  have := Rdo.lenString (P := P) (C := C) (ty := ty) (h := h) hx
  rwa [size_vs] at this
theorem Rdo.eqVs {u : TypeId} (hx : evl e x = some (vs l)) (hy : evl e y = some (vs m)) : Rdo P e C (.binOp .eql t x y u) ty (.bool (decide (l = m))) := by
  have := Rdo.eqs (P := P) (C := C) (ty := ty) (t := t) (u := u) hx hy
  rw [toList_vs, toList_vs] at this
  rwa [beq_list] at this
theorem Rdo.neVs {u : TypeId} (hx : evl e x = some (vs l)) (hy : evl e y = some (vs m)) : Rdo P e C (.binOp .neq t x y u) ty (.bool (!decide (l = m))) := by
  have := Rdo.nes (P := P) (C := C) (ty := ty) (t := t) (u := u) hx hy
  rw [toList_vs, toList_vs] at this
  rwa [beq_list] at this
theorem Rdo.indexVs {i : Nat} {b : UInt8} [h : ST P t] (hx : evl e x = some (vs l)) (hy : evl e y = some (.int k i)) (hb : l[i]? = some b) : Rdo P e C (.index t x y) ty (.int .u8 b.toNat) :=
  Rdo.indexStr hx hy (by rw [get_vs]; exact hb)
theorem Rdo.indexVs0 {b : UInt8} [h : ST P t] (hx : evl e x = some (vs l)) (hy : evl e y = some (.int k 0)) (hb : l[0]? = some b) : Rdo P e C (.index t x y) ty (.int .u8 b.toNat) :=
  Rdo.indexVs (i := 0) hx hy hb
theorem Rdo.strFrom [h : ST P t] (hx : evl e x = some (vs l)) (hl : evl e lo = some (.int k (1 : Int))) (h1 : 1 ≤ l.length) : Rdo P e C (.slice t x (some lo) none none) ty (vs (l.drop 1)) := by
  have key : ∀ w, (Instr.slice t (vs l) (some (.int k 1)) none none).run P w = .ok (vs (l.drop 1)) w := by
    intro w
    have := run_slice_string_l w t ⟨l.toArray⟩ h.pf k 1 (by omega) (by rw [size_vs]; omega)
    rw [this]
    congr 2
    ext1
    simp [ByteArray.data_extract, size_vs, ByteArray.size]
    exact List.take_of_length_le (by simp)
  unfold Rdo
  intro G w a n dst pos after g hG he
  simp [execOp, he.eval hx, he.eval hl, run_sliceAt_string w t _ _ _ _ h.pf, key]
theorem Rdo.strTo [h : ST P t] {n : Nat} (hx : evl e x = some (vs l)) (hl : evl e hi = some (.int k (n : Int))) (h1 : n ≤ l.length) : Rdo P e C (.slice t x none (some hi) none) ty (vs (l.take n)) := by
  have key : ∀ w, (Instr.slice t (vs l) none (some (.int k n)) none).run P w = .ok (vs (l.take n)) w := by
    intro w
    have := run_slice_string_h w t ⟨l.toArray⟩ h.pf k n (by omega) (by rw [size_vs]; omega)
    rw [this]
    congr 2
    ext1
    simp [ByteArray.data_extract, size_vs, ByteArray.size]
  unfold Rdo
  intro G w a n' dst pos after g hG he
  simp [execOp, he.eval hx, he.eval hl, run_sliceAt_string w t _ _ _ _ h.pf, key]
end
end Go.Proofs.YtccgdnocldmjeaaDoor
