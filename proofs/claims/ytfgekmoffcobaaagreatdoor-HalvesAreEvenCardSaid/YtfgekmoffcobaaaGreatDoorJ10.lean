/- J10: data with depth: what is read behind headers; rows that are ours no more; calls that hand facts back. No program in sight. -/
import Derived.Test.YtfgekmoffcobaaaGreatDoorJ9
namespace Go.J
open Go Go.RowKit
/-- a located slice: its header, and its located elements -/
structure SL (α : Type) where
  s : SV
  xs : List α
/-- how a located datum lies in memory, what it stands for, on what memory it leans -/
structure Dat (αL α : Type) where
  R : Rep αL
  er : αL → α
  ok : αL → World → Prop
def OkS {αL α : Type} (D : Dat αL α) (xs : List αL) (w : World) : Prop := ∀ e, e ∈ xs → D.ok e w
/-- located elements and those that they stand for -/
def LkS {αL α : Type} (D : Dat αL α) (xl : List αL) (xs : List α) (w : World) : Prop := xl.map D.er = xs ∧ OkS D xl w
def repSL (α : Type) (T : TypeId) : Rep (SL α) := ⟨T, 1, 24, fun x => [x.s.v], fun _ => rfl, fun x u hu => by simp only [List.mem_cons, List.mem_nil_iff, or_false] at hu; rcases hu with rfl; rfl, by decide⟩
/-- slices of plain elements, as elements -/
def datSP {α : Type} (T : TypeId) (R : Rep α) : Dat (SL α) (List α) := ⟨repSL α T, fun x => x.xs, fun x w => RdS R x.s.v x.xs w⟩
/-- slices of elements with depth, as elements -/
def datS {αL α : Type} (T : TypeId) (D : Dat αL α) : Dat (SL αL) (List α) := ⟨repSL αL T, fun x => x.xs.map D.er, fun x w => RdS D.R x.s.v x.xs w ∧ OkS D x.xs w⟩
section
variable {αL α : Type} {D : Dat αL α} {xl yl : List αL} {xs ys qs : List α} {w : World}
theorem LkS.nil : LkS D [] [] w := ⟨rfl, fun e he => by cases he⟩
theorem OkS.app (h1 : OkS D xl w) (h2 : OkS D yl w) : OkS D (xl ++ yl) w := fun e he => by
  rcases List.mem_append.1 he with h | h
  · exact h1 e h
  · exact h2 e h
theorem LkS.app {by_ : Nat} (hq : appM by_ xs ys = some qs) (h1 : LkS D xl xs w) (h2 : LkS D yl ys w) : LkS D (xl ++ yl) qs w := by
  obtain ⟨rfl, -⟩ := appM_spec hq
  exact ⟨by rw [List.map_append, h1.1, h2.1], h1.2.app h2.2⟩
theorem LkS.one {el : αL} {e : α} (h1 : D.er el = e) (h2 : D.ok el w) : LkS D [el] [e] w := ⟨by simp [h1], fun x hx => by simp at hx; subst hx; exact h2⟩
theorem LkS.cons {el : αL} {e : α} (h1 : D.er el = e) (h2 : D.ok el w) (h : LkS D xl xs w) : LkS D (el :: xl) (e :: xs) w := ⟨by simp [h1, h.1], fun x hx => by
  rcases List.mem_cons.1 hx with h3 | h3
  · subst h3; exact h2
  · exact h.2 x h3⟩
theorem LkS.len (h : LkS D xl xs w) : xl.length = xs.length := by rw [← h.1, List.length_map]
theorem map_get {i : Nat} {e : α} (hE : xl.map D.er = xs) (h : xs[i]? = some e) : ∃ el, xl[i]? = some el ∧ D.er el = e := by
  subst hE
  rw [List.getElem?_map] at h
  cases hx : xl[i]? with
  | none => rw [hx] at h; cases h
  | some el => rw [hx] at h; cases h; exact ⟨el, rfl, rfl⟩
theorem map_getI {i : Int} {e : α} (hE : xl.map D.er = xs) (h : getI xs i = some e) : ∃ el, getI xl i = some el ∧ D.er el = e := by
  unfold getI at h ⊢
  split at h
  · rename_i h0
    rw [if_pos h0]
    exact map_get hE h
  · cases h
theorem LkS.at_ {i : Nat} {el : αL} (h : LkS D xl xs w) (hi : xl[i]? = some el) : D.ok el w := h.2 el (List.mem_of_getElem? hi)
theorem LkS.set {i : Nat} {el : αL} {e : α} (h : LkS D xl xs w) (h1 : D.er el = e) (h2 : D.ok el w) : LkS D (xl.set i el) (xs.set i e) w := by
  refine ⟨by rw [← h.1, List.map_set, h1], fun x hx => ?_⟩
  rcases List.mem_or_eq_of_mem_set hx with h3 | h3
  · exact h.2 x h3
  · subst h3; exact h2
theorem LkS.cut {a b : Int} (hq : sliceI xs a b = some qs) (h : LkS D xl xs w) : ∃ ql, sliceI xl a b = some ql ∧ LkS D ql qs w := by
  obtain ⟨p, q, rfl, rfl, hpq, hq, rfl⟩ := sliceI_spec hq
  have hl := h.len
  refine ⟨(xl.drop p).take (q - p), ?_, by rw [← h.1, List.map_take, List.map_drop], fun e he => h.2 e (List.mem_of_mem_drop (List.mem_of_mem_take he))⟩
  unfold sliceI
  rw [if_pos (by omega)]
  simp
end
section
variable {P : Program} {Rp : Post} {K : List Lay} {N : NN} {l : Fr} {ops : Array Oper} {rest : List Oper} {d : Nat} {ty : Nat} {pos : String} {af : Array Edge}
variable {w0 : World} {M : List Nat} {A : Nat → Prop} {es rs : List Ent} {α : Type} {R : Rep α} {v : Value} {xs : List α} {F : World → Prop} {p : Prop} {c : Code} {k : Nat}
/-- a row of ours that is turned no more -/
theorem r_fz (k : Nat) (hk : pick1 es k = some (.row R v xs, rs)) (h : LJ P Rp ops rest K N l (Sat w0 M A (.ro (RdS R v xs) :: rs))) : LJ P Rp ops rest K N l (Sat w0 M A es) := fun a w hf hw => h a w hf (hw.freeze hk)
theorem cj_fz (k : Nat) (hk : pick1 es k = some (.row R v xs, rs)) (h : CJ P Rp c K N l (Sat w0 M A (.ro (RdS R v xs) :: rs))) : CJ P Rp c K N l (Sat w0 M A es) := fun a w hf hw => h a w hf (hw.freeze hk)
theorem nj_fz (k : Nat) (hk : pick1 es k = some (.row R v xs, rs)) (h : NJ P Rp K N l (Sat w0 M A (.ro (RdS R v xs) :: rs))) : NJ P Rp K N l (Sat w0 M A es) := fun a w hf hw => h a w hf (hw.freeze hk)
/-- one more fact, of those that last -/
theorem r_fact (hF : FactRo es F) (h : LJ P Rp ops rest K N l (Sat w0 M A (.ro F :: es))) : LJ P Rp ops rest K N l (Sat w0 M A es) := fun a w hf hw => h a w hf (hw.add_ro (hF.stays hw))
theorem cj_fact (hF : FactRo es F) (h : CJ P Rp c K N l (Sat w0 M A (.ro F :: es))) : CJ P Rp c K N l (Sat w0 M A es) := fun a w hf hw => h a w hf (hw.add_ro (hF.stays hw))
theorem nj_fact (hF : FactRo es F) (h : NJ P Rp K N l (Sat w0 M A (.ro F :: es))) : NJ P Rp K N l (Sat w0 M A es) := fun a w hf hw => h a w hf (hw.add_ro (hF.stays hw))
/-- what a fact says beside memory -/
theorem r_pure (hF : FactAt es F) (hp : ∀ w, F w → p) (h : p → LJ P Rp ops rest K N l (Sat w0 M A es)) : LJ P Rp ops rest K N l (Sat w0 M A es) := fun a w hf hw => h (hp w (hF.get hw)) a w hf hw
theorem cj_pure (hF : FactAt es F) (hp : ∀ w, F w → p) (h : p → CJ P Rp c K N l (Sat w0 M A es)) : CJ P Rp c K N l (Sat w0 M A es) := fun a w hf hw => h (hp w (hF.get hw)) a w hf hw
theorem nj_pure (hF : FactAt es F) (hp : ∀ w, F w → p) (h : p → NJ P Rp K N l (Sat w0 M A es)) : NJ P Rp K N l (Sat w0 M A es) := fun a w hf hw => h (hp w (hF.get hw)) a w hf hw
/-- a call that hands facts back -/
theorem r_callN {f : FuncId} {cc : Operand} {as : List Operand} {ats : Array TypeId} {cv avs : List Value} {xs : List Ent} {fs : List (World → Prop)} {X : Type} {V : X → Value} {post : X → List Ent} (ks : List Nat)
    (hcf : ∀ args w, (callFunc f args).run P w = .ok (.enter f args) w) (hc : ev l cc = some (.func (.func f) #[] cv.toArray)) (ha : evA l as = some avs)
    (hctr : Ctr P f (avs ++ cv).toArray xs fs V post) (hp : picks ks es = some (xs, rs)) (hxs : noRo xs = true) (hfs : FactsRo rs fs) (hd : Nat.blt d N.n = true)
    (h : ∀ x, LJ P Rp ops rest K N ((d, V x) :: l) (Sat w0 M A (post x ++ rs))) :
    LJ P Rp ops (⟨some d, .call { callee := .value cc, args := as.toArray, argTypes := ats }, ty, pos, af, none⟩ :: rest) K N l (Sat w0 M A es) := by
  intro a w hf hw
  refine wpList_plain rfl fun K' hK => ?_
  unfold Oper.wp
  have h1 := hf.evA ha
  have : (execOp a.eval ⟨some d, .call { callee := .value cc, args := as.toArray, argTypes := ats }, ty, pos, af, none⟩).run P w = .ok (.enter f (avs ++ cv).toArray) w := by
    simp [execOp, resolve, Deferred.ofValue, hf.ev hc, invoke, hcf, ← h1]
  rw [this]
  refine (hctr.useN hw hp hxs hfs).mono ?_
  rintro e w' ⟨q, rfl, hq⟩
  exact hK _ _ (h q _ _ (hf.put hd _) hq)
/-- calls whose result nobody takes -/
theorem r_call0 {f : FuncId} {cc : Operand} {as : List Operand} {ats : Array TypeId} {cv avs : List Value} {xs : List Ent} {fs : List (World → Prop)} {X : Type} {V : X → Value} {post : X → List Ent} (ks : List Nat)
    (hcf : ∀ args w, (callFunc f args).run P w = .ok (.enter f args) w) (hc : ev l cc = some (.func (.func f) #[] cv.toArray)) (ha : evA l as = some avs)
    (hctr : Ctr P f (avs ++ cv).toArray xs fs V post) (hp : picks ks es = some (xs, rs)) (hxs : noRo xs = true) (hfs : Facts rs fs) (hpost : ∀ x, noRo (post x) = true)
    (h : ∀ x, LJ P Rp ops rest K N l (Sat w0 M A (post x ++ rs))) :
    LJ P Rp ops (⟨none, .call { callee := .value cc, args := as.toArray, argTypes := ats }, ty, pos, af, none⟩ :: rest) K N l (Sat w0 M A es) := by
  intro a w hf hw
  refine wpList_plain rfl fun K' hK => ?_
  unfold Oper.wp
  have h1 := hf.evA ha
  have : (execOp a.eval ⟨none, .call { callee := .value cc, args := as.toArray, argTypes := ats }, ty, pos, af, none⟩).run P w = .ok (.enter f (avs ++ cv).toArray) w := by
    simp [execOp, resolve, Deferred.ofValue, hf.ev hc, invoke, hcf, ← h1]
  rw [this]
  refine (hctr.use hw hp hxs hfs hpost).mono ?_
  rintro e w' ⟨q, rfl, hq⟩
  exact hK _ _ (h q _ _ hf hq)
end
end Go.J
