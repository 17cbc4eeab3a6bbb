/- A string's bytes as new (frozen) memory. Nothing of any program stands here. -/
import Derived.Test.YtccgdnocldmjeaaDoorByt
import Derived.Laws.IdiomStrings
namespace Go.Proofs.YtccgdnocldmjeaaDoor
open Go
set_option maxHeartbeats 4000000
set_option linter.unusedSimpArgs false
set_option linter.unusedVariables false

theorem Stp.strBytes {P : Program} {n d : Nat} {x : Operand} {src dst e' ty : TypeId} {pos : String} {after : Array Edge} {g : Option (Nat × Bool)} {e : Env} {l : List HP} {Φ : Env → List HP → Prop} {s : List UInt8}
    [hs : ST P src] [ht : EL P dst e'] [he' : IK P e' .u8] (hx : evl e x = some (vs s)) (hd : Nat.blt d n = true)
    (hk : ∀ a c, Φ (eset e d (.slice a s.length c)) (fz (fun g => RdBytes g (.slice a s.length c) s) :: l)) :
    Stp P n ⟨some d, .convert src dst x, ty, pos, after, g⟩ e l Φ := by
  unfold Stp
  intro F w a ds hl he K Q0 hK
  have hr := run_bytes_of_string (P := P) w src dst e' ⟨s.toArray⟩ hs.pf ht.pf he'.pf
  rw [size_vs] at hr
  generalize hcap : grownCap w s.length 0 e' = cap at hr
  have hge : s.length ≤ cap := by rw [← hcap]; exact grownCap_ge w s.length 0 e'
  have hcells : (bytesRow ⟨s.toArray⟩ cap).toList = bytesC s ++ List.replicate (cap - s.length) (.int .u8 0) := by
    simp [bytesRow, bytesC, u8c, size_vs]
  have hh : Holds (fz (fun g => RdBytes g (.slice (some ⟨w.heap.size, 0, none⟩) s.length cap) s) :: l) F (w.drew.alloc (.cells (bytesRow ⟨s.toArray⟩ cap) e' ((bytesRow ⟨s.toArray⟩ cap).size, (bytesRow ⟨s.toArray⟩ cap).size + 1))) := by
    have h1 := hl.drew.alloc (.cells (bytesRow ⟨s.toArray⟩ cap) e' ((bytesRow ⟨s.toArray⟩ cap).size, (bytesRow ⟨s.toArray⟩ cap).size + 1))
    refine Holds.freeze_fz (fun g hg => ⟨by simp [bytesC], _, cap, rfl, .inr ⟨_, 0, rfl, _, _, _, hg, fun j v hj => ?_⟩⟩) h1
    rw [Nat.zero_add, ← Array.getElem?_toList, hcells, List.getElem?_append_left (List.getElem?_eq_some_iff.1 hj).1]
    exact hj
  unfold OpW
  have : (execOp a.eval ⟨some d, .convert src dst x, ty, pos, after, g⟩).run P w = .ok (.value (.slice (some ⟨w.heap.size, 0, none⟩) s.length cap)) (w.drew.alloc (.cells (bytesRow ⟨s.toArray⟩ cap) e' ((bytesRow ⟨s.toArray⟩ cap).size, (bytesRow ⟨s.toArray⟩ cap).size + 1))) := by
    simp only [execOp, he.eval hx, Sem.run_bind, hr, Result.andThen_ok, Sem.run_pure]
  rw [this]
  exact hK _ _ _ _ (he.put _ hd) hh ((Ext.drew w).trans (Ext.alloc _ _)) (hk _ _)

/-- Bytes that were written out, as a constant's. -/
theorem Stp.convBytes {P : Program} {n d b m c : Nat} {x : Operand} {t t' e' ty : TypeId} {pos : String} {after : Array Edge} {g : Option (Nat × Bool)} {e : Env} {l rest : List HP} {Φ : Env → List HP → Prop} {cs : List Value}
    [ht : EL P t e'] [he' : IK P e' .u8] (hx : evl e x = some (.slice (some ⟨b, 0, none⟩) m c)) (hd : Nat.blt d n = true) (hp : Pk l (cel b t' cs) rest) (hm : cs.length = m)
    (hk : Φ (eset e d (.slice (some ⟨b, 0, none⟩) m c)) (fz (fun g => RdRow g 1 (.slice (some ⟨b, 0, none⟩) m c) m cs) :: rest)) :
    Stp P n ⟨some d, .convert t t x, ty, pos, after, g⟩ e l Φ := by
  unfold Stp
  intro F w a ds hl he K Q0 hK
  unfold Pk at hp
  have h1 := hl.perm hp
  have hb := cel_sees h1
  have hlt : b < w.heap.size := (Array.getElem?_eq_some_iff.1 hb).1
  have hsh : w.shape? b = some (t', cs.toArray.size) := by
    unfold World.shape?
    rw [hb]
  have hr : (convert t t (.slice (some ⟨b, 0, none⟩) m c)).run P w = .ok (.slice (some ⟨b, 0, none⟩) m c) (w.freeze ⟨b, cs.toArray.size, none⟩ 1) := by
    simp [convert, run_underlying ht.pf, run_underlying he'.pf, markStringish, hsh]
  have hb2 : (w.freeze ⟨b, cs.toArray.size, none⟩ 1).heap[b]? = some (.cells cs.toArray t' (cs.toArray.size, cs.toArray.size + 1)) := by
    unfold World.freeze
    rw [if_neg (by decide)]
    simp only [Array.getElem?_modify]
    rw [hb]
    simp
  have hold : ∀ k, k ≠ b → (w.freeze ⟨b, cs.toArray.size, none⟩ 1).heap[k]? = w.heap[k]? := by
    intro k hk
    unfold World.freeze
    rw [if_neg (by decide)]
    simp only [Array.getElem?_modify]
    rw [if_neg (fun h => hk h.symm)]
  have hh : Holds (fz (fun g => RdRow g 1 (.slice (some ⟨b, 0, none⟩) m c) m cs) :: rest) F (w.freeze ⟨b, cs.toArray.size, none⟩ 1) := by
    refine Holds.freeze_fz (fun g hg => ⟨by simp [hm], _, c, rfl, .inr ⟨b, 0, rfl, _, _, _, hg, fun j v hj => ?_⟩⟩) (Holds.put (by unfold cel at h1; exact h1) hb2 (fun k hk _ => hold k hk))
    simpa using hj
  unfold OpW
  have : (execOp a.eval ⟨some d, .convert t t x, ty, pos, after, g⟩).run P w = .ok (.value (.slice (some ⟨b, 0, none⟩) m c)) (w.freeze ⟨b, cs.toArray.size, none⟩ 1) := by
    simp only [execOp, he.eval hx, Sem.run_bind, hr, Result.andThen_ok, Sem.run_pure]
  rw [this]
  exact hK _ _ _ _ (he.put _ hd) hh ⟨rfl, rfl, rfl, by simp [World.freeze]⟩ hk

/-- An empty slice that is written out. -/
theorem Stp.slice0 {P : Program} {n d t ty e' sz : Nat} {pos : String} {after : Array Edge} {g : Option (Nat × Bool)} {e : Env} {l : List HP} {Φ : Env → List HP → Prop} {zs : List Value} [ht : EL P t e'] [hz : SZ P e' sz] [hzv : ZV P e' zs]
    (hd : Nat.blt d n = true) (hk : ∀ b, Φ (eset e d (.slice (some ⟨b, 0, none⟩) 0 0)) (rowA e' sz (.slice (some ⟨b, 0, none⟩) 0 0) 0 [] :: l)) :
    Stp P n ⟨some d, .buildSlice t 0 (#[] : Array (Nat × Operand)), ty, pos, after, g⟩ e l Φ := by
  have h : Stp P n ⟨some d, .buildSlice t 0 (#[] : Array (Nat × Operand)), ty, pos, after, g⟩ e l (fun e1 l1 => ∃ b, e1 = eset e d (.slice (some ⟨b, 0, none⟩) 0 0) ∧ l1 = cel b e' [] :: l) :=
    Stp.slice (ps := []) (vs := []) (cs := []) (k := 0) rfl rfl (by simp) (by simp) (by omega) hd (fun b => ⟨b, rfl, rfl⟩)
  unfold Stp at h ⊢
  intro F w a ds hl he K Q0 hK
  refine h F w a ds hl he K Q0 ?_
  rintro _ _ _ _ h1 h2 h3 ⟨b, rfl, rfl⟩
  exact hK _ _ _ _ h1 ((Gh.row (n := 0) (sz := sz) Pk.here (by simp)).use h2) h3 (hk b)

theorem Rdo.indexSliceE {P : Program} {e : Env} {C : List HP} {x y : Operand} {b off len cap z : Nat} {i : Nat} {j : Int} {t e' ty : TypeId} {k : IntKind} [h : EL P t e'] [hz : SZ P e' z] (hx : evl e x = some (.slice (some ⟨b, off, none⟩) len cap)) (hy : evl e y = some (.int k j)) (hj : j = (i : Int)) (hi : i < len) :
    Rdo P e C (.indexAddr t x y) ty (.pointer (some ⟨b, off + i * z, none⟩)) := by
  subst hj
  exact Rdo.indexSlice hx hy hi
theorem Rdo.indexArrE {P : Program} {e : Env} {C : List HP} {x y : Operand} {b off len z : Nat} {i : Nat} {j : Int} {t e' ty : TypeId} {k : IntKind} [h : AR P t len e'] [hz : SZ P e' z] (hx : evl e x = some (.pointer (some ⟨b, off, none⟩))) (hy : evl e y = some (.int k j)) (hj : j = (i : Int)) (hi : i < len) :
    Rdo P e C (.indexAddr t x y) ty (.pointer (some ⟨b, off + i * z, none⟩)) := by
  subst hj
  exact Rdo.indexArr hx hy hi
/-- A cell within an element of a row. -/
theorem Lds.rowF {P : Program} {l : List HP} {t ty : TypeId} {sz n cap b o i off : Nat} {xs : List Value} {v : Value} [ha : AG P ty false] (hx : xs[i * sz + off]? = some v) :
    Lds P (rowA t sz (.slice (some ⟨b, o, none⟩) n cap) n xs :: l) ⟨b, o + i * sz + off, none⟩ ty v := by
  unfold Lds
  intro F w hl
  have := row_cell hl (i * sz + off) v hx
  rw [← Nat.add_assoc] at this
  simp [Instr.loadAt, Instr.sureAddr, loadVar, ha.run, this]
/-- An array of nothing. -/
theorem Rdo.bldArr0 {P : Program} {e : Env} {C : List HP} {t ty n e' z : Nat} {zs : List Value} [hz : ZV P t zs] [ha : AR P t n e'] [hs : SZ P e' z] : Rdo P e C (.build t (#[] : Array (Nat × Operand))) ty (.agg zs.toArray) := by
  unfold Rdo
  intro G w a m dst pos after g hl he
  obtain ⟨x, hzr, hzc⟩ := hz.run (w := w)
  simp [execOp, Instr.build, hzr, run_underlying ha.pf, hs.run, hzc, Instr.fill]
/-- Cells out of the middle of a block, as a whole. -/
theorem Lds.cut {P : Program} {l : List HP} {b off n : Nat} {t' t : TypeId} {cs vs : List Value} [ha : AG P t true] [hz : SZ P t n] (hv : (cs.drop off).take n = vs) (hn : vs.length = n) : Lds P (cel b t' cs :: l) ⟨b, off, none⟩ t (.agg vs.toArray) := by
  by_cases ho : off ≤ cs.length
  · refine Lds.part (pre := cs.take off) (post := (cs.drop off).drop n) ?_ (by simp; omega) hn
    rw [← hv, List.take_append_drop, List.take_append_drop]
  · have h0 : vs = [] := by rw [← hv, List.drop_eq_nil_of_le (by omega)]; simp
    subst h0
    simp at hn
    subst hn
    unfold Lds
    intro F w hl
    have := run_loadCells_list (P := P) w ⟨b, off, none⟩ [] (fun j v hj => by simp at hj)
    simp only [List.length_nil] at this
    simp [Instr.loadAt, Instr.sureAddr, loadVar, ha.run, hz.run, this]
/-- A guard that was itself not wanted: not wanted. -/
theorem WpL.passU {P : Program} {n : Nat} {ops : Array Oper} {Q : Exit → Env → List HP → Prop} {e : Env} {l : List HP} {d : Nat} {op : Op} {ty : TypeId} {pos : String} {after : Array Edge} {rest : List Oper} {j t : Nat} {b : Bool}
    (ht : (ops[j]?).bind (·.dst) = some t) (hv : elook e t = some undef) (hd : Nat.blt d n = true)
    (h : WpL P n ops Q rest (eset e d undef) l) : WpL P n ops Q (⟨some d, op, ty, pos, after, some (j, b)⟩ :: rest) e l := by
  unfold WpL at h ⊢
  intro F w a ds hl he
  have hy : yielded ops a.tmps j = none := by simp [yielded, ht, he.at_ t _ hv, undef]
  unfold wpListIn
  rw [if_neg (by simp [Region.wanted, hy])]
  exact h F w _ ds hl (he.put undef hd)
theorem WpR.passU {P : Program} {n : Nat} {ops : Array Oper} {Q : Exit → Env → List HP → Prop} {e : Env} {l : List HP} {m : Nat} {listed : Array Bool} {i d j t : Nat} {b : Bool} {op : Op} {ty : TypeId} {pos : String} {after : Array Edge} (hi : ops[i]? = some ⟨some d, op, ty, pos, after, some (j, b)⟩) (ht : (ops[j]?).bind (·.dst) = some t) (hc : elook e t = some undef)
    (hsel : Region.noSelect ops = true) (hfree : Region.free .any ops listed i = true) (hr : (Region.ready .any ops listed).contains i = true) (hd : Nat.blt d n = true)
    (h : WpR P n ops Q m (listed.setIfInBounds i true) (eset e d undef) l) : WpR P n ops Q (m + 1) listed e l :=
  WpR.take_ hi hsel hfree hr (fun a he => .inr ⟨by simp [Region.wanted, yielded, ht, he.at_ t _ hc, undef], rfl⟩) hd h
/-- append onto an empty row of one's own. -/
theorem Stp.append0P {P : Program} {n d : Nat} {x y : Operand} {t xt ty e' sz by_ : Nat} {zs : List Value} {pos : String} {after : Array Edge} {g : Option (Nat × Bool)} {e : Env} {l C : List HP} {Φ : Env → List HP → Prop}
    {v u : Value} {m : Nat} {news : List Value} [ht : EL P t e'] [hz : SZ P e' sz] [hby : BY P e' by_] [hzv : ZV P e' zs] [hni : NI P xt]
    (hx : evl e x = some v) (hy : evl e y = some u) (hp : Pk l (rowA e' sz v 0 []) C) (hs : Src P C sz u m news) (hnl : news.length = m * sz) (hone : oneCells news) (hbytes : m * by_ ≤ 140737488355328) (h63 : m ≤ 9223372036854775807) (hd : Nat.blt d n = true) (hzl : zs.length = sz)
    (hk : ∀ a' c', Φ (eset e d (.slice a' m c')) (rowA e' sz (.slice a' m c') m news :: C)) :
    Stp P n ⟨some d, .call { callee := .builtin .append, args := [x, y].toArray, argTypes := [t, xt].toArray }, ty, pos, after, g⟩ e l Φ :=
  Stp.gh (Gh.front hp) (Stp.append0 hx hy hs hnl hone hbytes h63 hd hzl hk)

/-- A triple out of another one; what the memory shows behind the call may be told as well. -/
theorem Trip.viaG {P : Program} {f : FuncId} {args : List Value} {l pre rest : List HP} {post post' : Value → List HP → Prop} (h : Trip P f args pre post) (hp : Tk l pre rest)
    (hk : ∀ v l', post v l' → ∀ F w, Holds (l' ++ rest) F w → ∃ l'', post' v l'' ∧ Holds l'' F w) : Trip P f args l post' := by
  unfold Trip
  intro F w hl
  obtain ⟨G, h1, h2⟩ := (hp.use hl).frame
  refine (h.use G w h1).mono ?_
  rintro e w' ⟨v, l', he, hpo, hl', hx⟩
  obtain ⟨l'', h3, h4⟩ := hk v l' hpo F w' (h2 l' w' hl')
  exact ⟨v, l'', he, h3, h4, hx⟩
end Go.Proofs.YtccgdnocldmjeaaDoor
