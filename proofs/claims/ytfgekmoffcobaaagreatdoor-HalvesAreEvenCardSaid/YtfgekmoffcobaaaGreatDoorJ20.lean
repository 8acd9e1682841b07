/- J20: strings.Builder: what it holds as an entry of ours; append of a string; a string over bytes. No program in sight. -/
import Derived.Test.YtfgekmoffcobaaaGreatDoorJ19
import Derived.Lib.AppendStr
import Derived.Lib.UnsafeStr
namespace Go.J
open Go Go.RowKit
set_option linter.unusedSimpArgs false
/-- bytes in memory -/
def RB (T : TypeId) : Rep UInt8 := ⟨T, 1, 1, fun u => [.int .u8 u.toNat], fun _ => rfl, fun x u hu => by simp only [List.mem_singleton] at hu; subst hu; rfl, by decide⟩
theorem RB_cells (T : TypeId) (l : List UInt8) : (RB T).cells l = l.map fun b => Value.int .u8 b.toNat := by
  show l.flatMap (fun u => [Value.int .u8 u.toNat]) = _
  rw [List.map_eq_flatMap]
theorem RB_str (T : TypeId) (s : ByteArray) : (RB T).cells s.data.toList = Lib.strCells s := RB_cells T _
/-- a builder in block b: its bytes are l, s is the header of their row -/
def bldO (Tb T8 : TypeId) (b : Nat) (s : SV) (l : List UInt8) : OW := {
  ks := b :: s.v.ownBlock.toList
  ok := fun w => (b :: s.v.ownBlock.toList).Nodup ∧ (∃ q, (q = none ∨ q = some ⟨b, 0, none⟩) ∧ w.heap[b]? = some (.cells [.pointer q, s.v].toArray Tb (0, 0))) ∧ w.ownsRow 0 T8 1 s.v l.length ((RB T8).cells l) ∧ (l = [] → s = nilS) ∧ (l ≠ [] → s.a ≠ none)
  stay := fun {w w'} h hk => by
    refine ⟨hk.1, ?_, ?_, hk.2.2.2⟩
    · obtain ⟨q, h1, h2⟩ := hk.2.1
      exact ⟨q, h1, (h b (List.mem_cons_self ..)).trans h2⟩
    · exact Ent.okx_of_block (e := .row (RB T8) s.v l) (w := w) hk.2.2.1 (fun k hk => h k (List.mem_cons_of_mem _ hk))
  lt := fun {w} hk k hkm => by
    rcases List.mem_cons.1 hkm with rfl | h
    · obtain ⟨q, -, h2⟩ := hk.2.1
      exact (Array.getElem?_eq_some_iff.1 h2).1
    · exact Ent.okx_lt (e := .row (RB T8) s.v l) (w := w) hk.2.2.1 h }
section
variable {w0 w : World} {M : List Nat} {A : Nat → Prop} {es : List Ent} {Tb T8 b : Nat} {s : SV} {l : List UInt8}
/-- the same blocks, told otherwise -/
theorem Sat.recast {e : Ent} {fs : List Ent} (h : Sat w0 M A (e :: es) w) (hk : keys fs = e.kl) (hok : ∀ f, f ∈ fs → f.okx w) (hro : noRo fs = true) : Sat w0 M A (fs ++ es) w := by
  have hkk : keys (fs ++ es) = keys (e :: es) := by rw [keys_append, keys_cons, hk]
  refine ⟨h.chg, h.dis, by rw [hkk]; exact h.nodup, fun k hm => h.fresh k (by rw [← hkk]; exact hm), fun f hf => ?_, fun f hf => ?_⟩
  · rcases List.mem_append.1 hf with h1 | h1
    · exact hok f h1
    · exact h.okx f (List.mem_cons_of_mem _ h1)
  · rcases List.mem_append.1 hf with h1 | h1
    · cases f with
      | ro F => exact (noRo_mem hro h1).elim
      | box b T cs => trivial
      | row R v xs => trivial
      | obj o => trivial
    · rw [hkk]; exact h.okr f (List.mem_cons_of_mem _ h1)
theorem Sat.cast1 {fs : List Ent} {e : Ent} (h : Sat w0 M A (fs ++ es) w) (hk : keys fs = e.kl) (hok : e.okx w) (hro : ∀ F, e ≠ .ro F) : Sat w0 M A (e :: es) w := by
  have hkk : keys (e :: es) = keys (fs ++ es) := by rw [keys_append, keys_cons, hk]
  refine ⟨h.chg, h.dis, by rw [hkk]; exact h.nodup, fun k hm => h.fresh k (by rw [← hkk]; exact hm), fun f hf => ?_, fun f hf => ?_⟩
  · rcases List.mem_cons.1 hf with h1 | h1
    · subst h1; exact hok
    · exact h.okx f (List.mem_append_right _ h1)
  · rcases List.mem_cons.1 hf with h1 | h1
    · subst h1
      cases f with
      | ro F => exact (hro F rfl).elim
      | box b T cs => trivial
      | row R v xs => trivial
      | obj o => trivial
    · rw [hkk]; exact h.okr f (List.mem_append_right _ h1)
theorem Sat.openB (h : Sat w0 M A (.obj (bldO Tb T8 b s l) :: es) w) : ∃ q, (q = none ∨ q = some ⟨b, 0, none⟩) ∧ (l = [] → s = nilS) ∧ (l ≠ [] → s.a ≠ none) ∧ Sat w0 M A (.box b Tb [.pointer q, s.v] :: .row (RB T8) s.v l :: es) w := by
  obtain ⟨h1, ⟨q, h2, h3⟩, h4, h5, h6⟩ : (bldO Tb T8 b s l).ok w := h.okx _ (List.mem_cons_self ..)
  refine ⟨q, h2, h5, h6, h.recast (fs := [.box b Tb [.pointer q, s.v], .row (RB T8) s.v l]) (by simp [keys, Ent.kl, bldO]) (fun f hf => ?_) rfl⟩
  simp only [List.mem_cons, List.not_mem_nil, or_false] at hf
  rcases hf with rfl | rfl
  · exact h3
  · exact h4
theorem Sat.closeB {q : Option Addr} (h : Sat w0 M A (.box b Tb [.pointer q, s.v] :: .row (RB T8) s.v l :: es) w) (hq : q = none ∨ q = some ⟨b, 0, none⟩) (h1 : l = [] → s = nilS) (h2 : l ≠ [] → s.a ≠ none) : Sat w0 M A (.obj (bldO Tb T8 b s l) :: es) w := by
  have hnd := h.nodup
  rw [keys_cons, keys_cons, ← List.append_assoc] at hnd
  have hnd1 := (List.nodup_append.1 hnd).1
  refine h.cast1 (fs := [.box b Tb [.pointer q, s.v], .row (RB T8) s.v l]) (e := .obj (bldO Tb T8 b s l)) (by simp [keys, Ent.kl, bldO]) ?_ (fun F h => by cases h)
  exact ⟨hnd1, ⟨q, hq, h.box (k := 0) rfl⟩, h.row (k := 1) rfl, h1, h2⟩
end
section
variable {P : Program} {Rp : Post} {K : List Lay} {N : NN} {l : Fr} {ops : Array Oper} {rest : List Oper} {d : Nat} {dd : Option Nat} {ty : Nat} {pos : String} {af : Array Edge} {g : Option (Nat × Bool)} {x y : Operand} {T T' T8 Tb b : TypeId} {c : Code}
variable {w0 : World} {M : List Nat} {A : Nat → Prop} {es : List Ent} {s : SV} {bs : List UInt8} {t : ByteArray} {k : Nat} {zs : List Value}
/-- append of a string's bytes -/
theorem run_app_str (hT : P.underlying T = some (.slice T8)) (hS : P.underlying T' = some .string) (hE : TyF P T8 false 1 1 [.int .u8 0]) {w : World} (hown : w.ownsRow 0 T8 1 s.v bs.length ((RB T8).cells bs)) (hl : bs.length + t.size ≤ 140737488355328) (hnil : bs = [] → s = nilS) :
    ∃ (s' : SV) (w' : World), (Builtin.append_ #[T, T'] ty #[s.v, .string t]).run P w = .ok s'.v w' ∧ w'.ownsRow 0 T8 1 s'.v (bs ++ t.data.toList).length ((RB T8).cells (bs ++ t.data.toList)) ∧ Chg s.v.ownBlock.toList w w' ∧
      (∀ b, s'.v.ownBlock = some b → w.heap.size ≤ b ∨ s.v.ownBlock = some b) ∧ (bs ++ t.data.toList = [] → s' = nilS) ∧ (bs ++ t.data.toList ≠ [] → s'.a ≠ none) := by
  obtain ⟨i, z, hi, hz, hzc, hsz, hby⟩ := hE.info
  have hts : t.data.toList.length = t.size := by simp
  have hbl : (bs ++ t.data.toList).length = bs.length + t.size := by rw [List.length_append, hts]
  have hcl : ((RB T8).cells (bs ++ t.data.toList)).length = bs.length + t.size := by rw [(RB T8).cells_len, hbl]; exact Nat.mul_one _
  have happ : (RB T8).cells (bs ++ t.data.toList) = (RB T8).cells bs ++ Lib.strCells t := by rw [(RB T8).cells_append, RB_str]
  have hzs : z.cells.size = 1 := by rw [hzc]; rfl
  by_cases h0 : t.size = 0
  · have ht : t.data.toList = [] := List.eq_nil_of_length_eq_zero (by rw [hts]; exact h0)
    rw [ht, List.append_nil]
    refine ⟨s, w, ?_, hown, Chg.refl _ _, fun b hb => .inr hb, hnil, fun hne => ?_⟩
    · have hle : s.n ≤ s.c := by
        rcases hown.2 with ⟨h5, h6⟩ | ⟨g, cap, cur, h5, _, _, h6, _⟩
        · injection h5 with _ h7 h8; omega
        · injection h5 with _ h7 h8; omega
      have hf := Lib.run_firstCells_string (P := P) w 1 t
      have hsc : Lib.strCells t = [] := by unfold Lib.strCells; rw [ht]; rfl
      rw [h0, hsc] at hf
      have hsz' : i.size = 1 := hsz
      simp only [SV.v]
      cases ha : s.a with
      | none => simp [Builtin.append_, run_underlying hT, run_underlying hS, sizeOf, typeInfo, hi, hsz', Builtin.lenOf, h0, hle, hf]
      | some a => simp [Builtin.append_, run_underlying hT, run_underlying hS, sizeOf, typeInfo, hi, hsz', Builtin.lenOf, h0, hle, hf, storeCells]
    · intro ha
      rcases hown.2 with ⟨h5, h6⟩ | ⟨g, cap, cur, h5, _⟩
      · exact hne (List.eq_nil_of_length_eq_zero h6)
      · injection h5 with h7; rw [ha] at h7; cases h7
  · have hne : bs ++ t.data.toList ≠ [] := fun h => by
      have := congrArg List.length h
      rw [hbl, List.length_nil] at this
      omega
    rcases hown.2 with ⟨h5, h6⟩ | ⟨g, cap, cur, h5, _, hg, hn, hcm, hcs, ht⟩
    · -- from nothing
      have hb0 : bs = [] := List.eq_nil_of_length_eq_zero h6
      subst hb0
      have hr := run_append_nil_string (P := P) w T T' ty T8 i z hT hS hi hz t (by omega) (by omega) (by rw [hby]; omega)
      have hge := grownCap_ge w t.size 0 T8
      have hcm := grownCap_le_maxLen w t.size 0 T8 (by unfold maxLen; omega)
      refine ⟨⟨some ⟨w.heap.size, 0, none⟩, t.size, grownCap w t.size 0 T8⟩, _, by rw [h5]; exact hr, ⟨by rw [hcl, hbl, Nat.mul_one], .inr ⟨w.heap.size, _, _, by rw [hbl]; simp [SV.v], Nat.zero_le _, Go.heap_alloc_new w.drew _, by rw [hbl]; simpa using hge, hcm, ?_, ?_⟩⟩, ⟨rfl, rfl, rfl, by simp, fun k hk _ => Below.heap_alloc w.drew _ k hk⟩, fun b hb => ?_, fun h => (hne h).elim, fun _ => by simp⟩
      · have := size_zeroCells' z.cells (grownCap w t.size 0 T8 - t.size)
        rw [hzs] at this
        simp only [Array.size_append, Array.size_map, this]
        have : t.data.size = t.size := rfl
        omega
      · rw [hbl, Nat.mul_one]
        simp only [List.length_nil, Nat.zero_add, Array.toList_append, Array.toList_map]
        rw [happ]
        have e : (RB T8).cells ([] : List UInt8) = [] := rfl
        rw [e, List.nil_append]
        have e2 : (Lib.strCells t).length = t.size := Lib.strCells_length t
        rw [← e2]
        exact List.take_left
      · simp only [Value.ownBlock, SV.v, Option.some.injEq] at hb
        exact .inl (by omega)
    · have hcells : ((RB T8).cells bs).length = bs.length := by rw [(RB T8).cells_len]; exact Nat.mul_one _
      rw [Nat.mul_one] at ht hcs
      by_cases hroom : bs.length + t.size ≤ cap
      · have hr := Lib.run_append_room_string (P := P) w T T' ty T8 i hT hS hi hsz g bs.length cap cur hg t hroom (by omega)
        refine ⟨⟨some ⟨g, 0, none⟩, bs.length + t.size, cap⟩, _, by rw [h5]; exact hr, ⟨by rw [hcl, hbl, Nat.mul_one], .inr ⟨g, cap, _, by rw [hbl], Nat.zero_le _, setRow_heap w g cur _ T8 _ hg, by rw [hbl]; exact hroom, hcm, ?_, ?_⟩⟩, ⟨rfl, rfl, rfl, by simp, fun k _ hk => setRow_other w g k _ (fun e => hk (by rw [h5]; simp [Value.ownBlock, e]))⟩, fun b hb => ?_, fun h => (hne h).elim, fun _ => by simp⟩
        · simp only [List.size_toArray, List.length_append, List.length_take, List.length_drop, Array.length_toList, Lib.strCells_length]
          omega
        · rw [hbl, Nat.mul_one, happ, ht]
          have : ((RB T8).cells bs ++ Lib.strCells t).length = bs.length + t.size := by rw [List.length_append, hcells, Lib.strCells_length]
          rw [← this]
          exact List.take_left
        · exact .inr (by rw [h5]; exact hb)
      · have holds : ∀ j u, ((RB T8).cells bs)[j]? = some u → w.cell? ((⟨g, 0, none⟩ : Addr).add j) = some u := hown.cells (g := g) (by rw [h5]; rfl)
        have hr := Lib.run_append_grow_string (P := P) w T T' ty T8 i z hT hS hi hz ⟨g, 0, none⟩ bs.length cap ((RB T8).cells bs) (by rw [hcells, hsz, Nat.mul_one]) holds t (by omega) (by omega) (by rw [hby]; exact growslice_fits (by omega) (by omega))
        have hge := grownCap_ge w (bs.length + t.size) cap T8
        have hcm2 := grownCap_le_maxLen w (bs.length + t.size) cap T8 (by unfold maxLen; omega)
        refine ⟨⟨some ⟨w.heap.size, 0, none⟩, bs.length + t.size, grownCap w (bs.length + t.size) cap T8⟩, _, by rw [h5]; exact hr, ⟨by rw [hcl, hbl, Nat.mul_one], .inr ⟨w.heap.size, _, _, by rw [hbl], Nat.zero_le _, Go.heap_alloc_new w.drew _, by rw [hbl]; exact hge, hcm2, ?_, ?_⟩⟩, ⟨rfl, rfl, rfl, by simp, fun k hk _ => Below.heap_alloc w.drew _ k hk⟩, fun b hb => ?_, fun h => (hne h).elim, fun _ => by simp⟩
        · have := size_zeroCells' z.cells (grownCap w (bs.length + t.size) cap T8 - (bs.length + t.size))
          rw [hzs] at this
          simp only [Array.size_append, List.size_toArray, hcells, Lib.strCells_length, this]
          omega
        · rw [hbl, Nat.mul_one, happ]
          have : ((RB T8).cells bs ++ Lib.strCells t).length = bs.length + t.size := by rw [List.length_append, hcells, Lib.strCells_length]
          simp only [Array.toList_append]
          rw [← this]
          exact List.take_left
        · simp only [Value.ownBlock, SV.v, Option.some.injEq] at hb
          exact .inl (by omega)
theorem r_apps (hT : P.underlying T = some (.slice T8)) (hS : P.underlying T' = some .string) (hE : TyF P T8 false 1 1 [.int .u8 0]) (hx : ev l x = some s.v) (hy : ev l y = some (.string t)) (hk : nth es k = some (.row (RB T8) s.v bs))
    (hl : bs.length + t.size ≤ 140737488355328) (hnil : bs = [] → s = nilS) (hd : Nat.blt d N.n = true)
    (h : ∀ s' : SV, (bs ++ t.data.toList = [] → s' = nilS) → (bs ++ t.data.toList ≠ [] → s'.a ≠ none) → LJ P Rp ops rest K N ((d, s'.v) :: l) (Sat w0 M A (setN es k (.row (RB T8) s'.v (bs ++ t.data.toList))))) :
    LJ P Rp ops (⟨some d, .call { callee := .builtin .append, args := #[x, y], argTypes := #[T, T'] }, ty, pos, af, none⟩ :: rest) K N l (Sat w0 M A es) := by
  intro a w hf hw
  refine wpList_plain rfl fun K' hK => ?_
  unfold Oper.wp
  obtain ⟨s', w', hrun, hown, hc, hkey, hn1, hn2⟩ := run_app_str (P := P) (ty := ty) hT hS hE (hw.row hk) hl hnil
  have : (execOp a.eval ⟨some d, .call { callee := .builtin .append, args := #[x, y], argTypes := #[T, T'] }, ty, pos, af, none⟩).run P w = .ok (.value s'.v) w' := by
    simp [execOp, resolve, invoke, builtin, hf.ev hx, hf.ev hy, hrun]
  rw [this]
  refine hK _ _ (h s' hn1 hn2 _ _ (hf.put hd _) (hw.swap hk hc hown (fun b hb => ?_) (fun F hF => by cases hF)))
  exact ⟨(World.ownsRow.lt hown b hb).2, hkey b hb⟩
/-- where the bytes lie -/
theorem p_usd {ats : Array TypeId} (hx : ev l x = some s.v) (hr : FactAt es (RdS (RB T8) s.v bs)) (hnil : bs = [] → s = nilS) :
    PureOp P N ⟨dd, .call { callee := .builtin .unsafeSliceData, args := #[x], argTypes := ats }, ty, pos, af, g⟩ l (Sat w0 M A es) (.pointer s.a) := fun a w hf hw => by
  have h1 : (Builtin.unsafeSliceData_ ats ty #[s.v]).run P w = .ok (.pointer s.a) w := by
    rcases (hr.get hw).2 with ⟨h2, _⟩ | ⟨b, off, cap, h2, h3, h4, _⟩
    · rw [hnil h2]; exact Lib.run_unsafeSliceData_nil w ats ty 0 0
    · injection h2 with h5 h6 h7
      simp only [SV.v, h5, h6, h7]
      by_cases h0 : bs = []
      · have := hnil h0
        rw [this] at h5; cases h5
      · have : 0 < bs.length := List.length_pos_iff.2 h0
        exact Lib.run_unsafeSliceData_row w ats ty _ _ _ (by omega)
  simp [execOp, resolve, invoke, builtin, hf.ev hx, h1]
/-- a string over bytes of ours, which are ours no more -/
theorem r_ustr {pt it Tn : TypeId} (hp : P.underlying pt = some (.pointer T8)) (hc : P.cellsOf T8 = 1) (hx : ev l x = some (.pointer s.a)) (hy : ev l y = some (.int .i64 bs.length)) {r : List Ent} (hk : pick1 es k = some (.row (RB T8) s.v bs, r)) (hnil : bs = [] → s = nilS) (hd : Nat.blt d N.n = true)
    (h : LJ P Rp ops rest K N ((d, .string ⟨bs.toArray⟩) :: l) (Sat w0 M A r)) :
    LJ P Rp ops (⟨some d, .call { callee := .builtin .unsafeString, args := #[x, y], argTypes := #[pt, it] }, Tn, pos, af, none⟩ :: rest) K N l (Sat w0 M A es) := by
  intro a w hf hw
  have hw1 := hw.perm (pick1_perm hk)
  have hrow : w.ownsRow 0 T8 1 s.v bs.length ((RB T8).cells bs) := hw1.row (k := 0) rfl
  refine wpList_plain rfl fun K' hK => ?_
  unfold Oper.wp
  by_cases h0 : bs = []
  · subst h0
    have hn := hnil rfl
    have hrun : (Builtin.unsafeString_ #[pt, it] Tn #[.pointer s.a, .int .i64 ((([] : List UInt8).length : Nat) : Int)]).run P w = .ok (.string ⟨#[]⟩) w := Lib.run_unsafeString_none w pt it Tn s.a
    have : (execOp a.eval ⟨some d, .call { callee := .builtin .unsafeString, args := #[x, y], argTypes := #[pt, it] }, Tn, pos, af, none⟩).run P w = .ok (.value (.string ⟨#[]⟩)) w := by
      simp only [List.length_nil] at hrun
      simp [execOp, resolve, invoke, builtin, hf.ev hx, hf.ev hy]
      rw [show (0 : Int) = ((0 : Nat) : Int) from rfl, hrun]; rfl
    rw [this]
    exact hK _ _ (h _ _ (hf.put hd _) (hw1.sublist (List.sublist_cons_self _ _)))
  · rcases hrow.2 with ⟨_, h6⟩ | ⟨g, cap, cur, h5, _, hg, hn, hcm, hcs, ht⟩
    · exact (h0 (List.eq_nil_of_length_eq_zero h6)).elim
    · injection h5 with h7 h8 h9
      have hsh : w.shape? g = some (T8, cur.size) := by simp [World.shape?, hg]
      have hrun := Lib.run_unsafeString_row (P := P) w pt it Tn T8 hp hc g cur.size hsh bs h0 (by omega) (by unfold maxLen at hcm; omega) (fun j x hx => by
        have := hrow.cells (g := g) (by simp only [SV.v, h7, h8, h9]; rfl) j (.int .u8 x.toNat) (by rw [RB_cells]; simp [hx])
        exact this)
      have : (execOp a.eval ⟨some d, .call { callee := .builtin .unsafeString, args := #[x, y], argTypes := #[pt, it] }, Tn, pos, af, none⟩).run P w = .ok (.value (.string ⟨bs.toArray⟩)) (w.freeze ⟨g, 0, none⟩ bs.length) := by
        simp [execOp, resolve, invoke, builtin, hf.ev hx, hf.ev hy, h7]
        rw [hrun]; rfl
      rw [this]
      refine hK _ _ (h _ _ (hf.put hd _) ?_)
      have hkl : Ent.kl (.row (RB T8) s.v bs) = [g] := by
        show s.v.ownBlock.toList = [g]
        simp only [SV.v, h7, h8, h9]
        rfl
      have hnd := hw1.nodup
      rw [keys_cons, hkl] at hnd
      have hc : Chg [g] w (w.freeze ⟨g, 0, none⟩ bs.length) := by
        unfold World.freeze
        split
        · exact Chg.refl _ _
        · refine ⟨rfl, rfl, rfl, by simp, fun b hb hbg => ?_⟩
          simp only [Array.getElem?_modify]
          rw [if_neg]
          intro e
          exact hbg (by simp [e])
      have := hw1.step (w' := w.freeze ⟨g, 0, none⟩ bs.length) [g] (fun k hk' => by rw [keys_cons, hkl]; exact List.mem_append_left _ hk') hc r [] (List.sublist_cons_self _ _) (fun k hk1 hk2 => by
        simp only [List.mem_singleton] at hk2
        subst hk2
        exact (List.nodup_append.1 hnd).2.2 k (List.mem_singleton.2 rfl) k hk1 rfl) List.nodup_nil (fun k hk => by cases hk) (fun e he => by cases he) (fun e he => by cases he)
      simpa using this
theorem r_openB (h : ∀ q, (q = none ∨ q = some ⟨b, 0, none⟩) → (bs = [] → s = nilS) → (bs ≠ [] → s.a ≠ none) → LJ P Rp ops rest K N l (Sat w0 M A (.box b Tb [.pointer q, s.v] :: .row (RB T8) s.v bs :: es))) :
    LJ P Rp ops rest K N l (Sat w0 M A (.obj (bldO Tb T8 b s bs) :: es)) := fun a w hf hw => by
  obtain ⟨q, h1, h2, h3, h4⟩ := hw.openB
  exact h q h1 h2 h3 a w hf h4
theorem cj_openB (h : ∀ q, (q = none ∨ q = some ⟨b, 0, none⟩) → (bs = [] → s = nilS) → (bs ≠ [] → s.a ≠ none) → CJ P Rp c K N l (Sat w0 M A (.box b Tb [.pointer q, s.v] :: .row (RB T8) s.v bs :: es))) :
    CJ P Rp c K N l (Sat w0 M A (.obj (bldO Tb T8 b s bs) :: es)) := fun a w hf hw => by
  obtain ⟨q, h1, h2, h3, h4⟩ := hw.openB
  exact h q h1 h2 h3 a w hf h4
theorem cj_closeB {q : Option Addr} (hq : q = none ∨ q = some ⟨b, 0, none⟩) (h1 : bs = [] → s = nilS) (h2 : bs ≠ [] → s.a ≠ none) (h : CJ P Rp c K N l (Sat w0 M A (.obj (bldO Tb T8 b s bs) :: es))) :
    CJ P Rp c K N l (Sat w0 M A (.box b Tb [.pointer q, s.v] :: .row (RB T8) s.v bs :: es)) := fun a w hf hw => h a w hf (hw.closeB hq h1 h2)
/-- a new builder -/
theorem r_alB {ag : Bool} {by_ : Nat} (hE' : TyF P Tb ag 2 by_ [.pointer none, .slice none 0 0]) (T8 : TypeId) (hd : Nat.blt d N.n = true) (h : ∀ b, LJ P Rp ops rest K N ((d, .pointer (some ⟨b, 0, none⟩)) :: l) (Sat w0 M A (.obj (bldO Tb T8 b nilS []) :: es))) :
    LJ P Rp ops (⟨some d, .alloc Tb, ty, pos, af, none⟩ :: rest) K N l (Sat w0 M A es) := by
  refine r_al hE' hd fun b => ?_
  intro a w hf hw
  have h1 := hw.nil_row (RB T8)
  have h2 := h1.perm (List.Perm.swap _ _ _)
  exact h b a w hf (Sat.closeB (s := nilS) (l := []) (q := none) h2 (.inl rfl) (fun _ => rfl) (fun h => (h rfl).elim))
end
end Go.J
