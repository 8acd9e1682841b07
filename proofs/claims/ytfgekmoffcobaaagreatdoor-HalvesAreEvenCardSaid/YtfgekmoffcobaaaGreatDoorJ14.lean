/- J14: strings' other comparisons, shifts and bits, blocks that are read alone, clear. No program in sight. -/
import Derived.Test.YtfgekmoffcobaaaGreatDoorJ13
namespace Go.J
open Go Go.RowKit
def shlM (x y : Int) : Option Int := if y < 0 then none else some (w64 (x * 2 ^ (min y.toNat 64)))
def shrM (x y : Int) : Option Int := if y < 0 then none else some (x.fdiv (2 ^ (min y.toNat 64)))
def andI (x y : Int) : Int := w64 ((BitVec.ofInt 64 x &&& BitVec.ofInt 64 y).toNat)
section
variable {P : Program} {N : NN} {l : Fr} {H : World → Prop} {d : Option Nat} {ty : Nat} {pos : String} {af : Array Edge} {g : Option (Nat × Bool)} {x y : Operand} {m n r : Int} {T T' : TypeId} {s t : ByteArray} {kk : IntKind}
theorem p_gts (hx : ev l x = some (.string s)) (hy : ev l y = some (.string t)) : PureOp P N ⟨d, .binOp .gtr T x y T', ty, pos, af, g⟩ l H (.bool (!(Op.bytesLess s.toList t.toList || s.toList == t.toList))) := p_bin hx hy fun w => by rw [eqGuard_at_string]; simp [binOp, Op.stringOp]
theorem p_ges (hx : ev l x = some (.string s)) (hy : ev l y = some (.string t)) : PureOp P N ⟨d, .binOp .geq T x y T', ty, pos, af, g⟩ l H (.bool (!(Op.bytesLess s.toList t.toList))) := p_bin hx hy fun w => by rw [eqGuard_at_string]; simp [binOp, Op.stringOp]
theorem p_shl (h : shlM m n = some r) (hx : ev l x = some (.int .i64 m)) (hy : ev l y = some (.int kk n)) : PureOp P N ⟨d, .binOp .shl T x y T', ty, pos, af, g⟩ l H (.int .i64 r) := by
  unfold shlM at h
  split at h
  · cases h
  · rename_i h0
    cases h
    refine p_bin hx hy fun w => ?_
    have hb : IntKind.i64.bits = 64 := rfl
    simp only [eqGuard_shl, binOp_shl, Op.shift, if_neg h0, hb]
    simp [w64]
theorem p_shr (h : shrM m n = some r) (hx : ev l x = some (.int .i64 m)) (hy : ev l y = some (.int kk n)) : PureOp P N ⟨d, .binOp .shr T x y T', ty, pos, af, g⟩ l H (.int .i64 r) := by
  unfold shrM at h
  split at h
  · cases h
  · rename_i h0
    cases h
    refine p_bin hx hy fun w => ?_
    have hb : IntKind.i64.bits = 64 := rfl
    have e : (eqGuard .shr T x y (.int .i64 m) (.int kk n)) = pure () := rfl
    simp only [e, binOp_shr, Op.shift, if_neg h0, hb]
    simp
theorem p_and (hx : ev l x = some (.int .i64 m)) (hy : ev l y = some (.int .i64 n)) : PureOp P N ⟨d, .binOp .and T x y T', ty, pos, af, g⟩ l H (.int .i64 (andI m n)) := p_bin hx hy fun w => by
  have e : (eqGuard .and T x y (.int .i64 m) (.int .i64 n)) = pure () := rfl
  simp only [e, binOp_and]
  have hb : IntKind.i64.bits = 64 := rfl
  simp [Op.intBits, andI, w64, hb]
end
section
variable {P : Program} {Rp : Post} {K : List Lay} {N : NN} {l : Fr} {ops : Array Oper} {rest : List Oper} {dd : Option Nat} {ty : Nat} {pos : String} {af : Array Edge} {g : Option (Nat × Bool)} {x y : Operand} {v : Value} {T E : TypeId}
variable {w0 : World} {M : List Nat} {A : Nat → Prop} {es : List Ent} {α : Type} {R : Rep α} {s : SV} {xs : List α} {i o j k b off : Nat} {sz by_ : Nat} {zs cs vs : List Value} {lo hi : Int}
/-- a block that is read alone -/
theorem p_rbs {Tb : TypeId} (hE : TyF P T false 1 by_ zs) (hx : ev l x = some (.pointer (some ⟨b, off, none⟩))) (hk : FactAt es (BoxS b Tb cs)) (hv : nth cs off = some v) :
    PureOp P N ⟨dd, .load T x, ty, pos, af, g⟩ l (Sat w0 M A es) v := fun a w hf hw => by
  have h : w.cell? ⟨b, off, none⟩ = some v := by rw [cell_of_row w b off _ _ _ (hk.get hw)]; rw [nth_eq] at hv; simpa using hv
  simp [execOp, hf.ev hx, Instr.loadAt, Instr.sureAddr, run_loadVar_s hE h]
theorem p_rba {Tb : TypeId} (hE : TyF P T true sz by_ zs) (hx : ev l x = some (.pointer (some ⟨b, off, none⟩))) (hk : FactAt es (BoxS b Tb cs)) (hl : Nat.ble (off + sz) cs.length = true) :
    PureOp P N ⟨dd, .load T x, ty, pos, af, g⟩ l (Sat w0 M A es) (.agg (cut cs off sz).toArray) := fun a w hf hw => by
  have hl' : off + sz ≤ cs.length := by simpa [Nat.ble_eq] using hl
  have h : (loadVar T ⟨b, off, none⟩).run P w = .ok (.agg (cut cs off sz).toArray) w := run_loadVar_a hE (by rw [cut_eq]; simp; omega) fun q v hv => by
    rw [add_at, cell_of_row w b (off + q) _ _ _ (hk.get hw)]
    rw [cut_eq, List.getElem?_take] at hv
    split at hv
    · simpa using hv
    · cases hv
  simp [execOp, hf.ev hx, Instr.loadAt, Instr.sureAddr, h]
theorem RdS.pures {w : World} (h : RdS R s.v xs w) : s.n = xs.length ∧ (xs ≠ [] → ∃ b off, s.a = some ⟨b, off, none⟩) := ⟨h.n, fun hne => by
  rcases h.2 with ⟨h2, _⟩ | ⟨b, off, cap, h1, _⟩
  · exact absurd h2 hne
  · injection h1 with h5 h6 h7; exact ⟨b, off, h5⟩⟩
/-- an element's address, out of what is known of the header -/
theorem p_idxP {kk : IntKind} {m : Int} {e : α} {agg : Bool} {H : World → Prop} (hT : P.underlying T = some (.slice R.T)) (hE : TyF P R.T agg R.sz by_ zs) (hx : ev l x = some s.v) (hy : ev l y = some (.int kk m)) (hr : s.n = xs.length ∧ (xs ≠ [] → ∃ b off, s.a = some ⟨b, off, none⟩)) (he : getI xs m = some e) :
    PureOp P N ⟨dd, .indexAddr T x y, ty, pos, af, g⟩ l H (s.p (m.toNat * R.sz)) := fun a w hf hw => by
  obtain ⟨h0, h1⟩ := getI_spec he
  have hlt : m.toNat < xs.length := (List.getElem?_eq_some_iff.1 h1).1
  have hne : xs ≠ [] := fun h => by subst h; simp at hlt
  obtain ⟨b, off, ha⟩ := hr.2 hne
  have hm : m < (s.n : Int) := by have := hr.1; omega
  simp [execOp, hf.ev hx, hf.ev hy, Instr.indexAt, run_underlying hT, asIntOf, ha, h0, hm, hE.size w, SV.p, SV.at_, add_at]
/-- clear: from an element on, all are the zero value -/
def clearM {α : Type} (z : α) (xs : List α) (lo : Int) : List α := xs.take lo.toNat ++ List.replicate (xs.length - lo.toNat) z
theorem map_clear {β : Type} {f : α → β} {z : α} {xs : List α} {ys : List β} (h : xs.map f = ys) : (clearM z xs lo).map f = clearM (f z) ys lo := by
  subst h
  simp [clearM, List.map_take]
theorem Lk.clear {G : Type} {D : Nst α G} {xg : List (α × G)} {z : α} {zg : G} {w : World} (h : Lk D xs xg w) (hz : D.inn (z, zg) w) : Lk D (clearM z xs lo) (clearM (z, zg) xg lo) w := by
  refine ⟨?_, fun p hp => ?_⟩
  · rw [map_clear h.1]
  · rcases List.mem_append.1 hp with h1 | h1
    · exact h.2 p (List.mem_of_mem_take h1)
    · rw [List.eq_of_mem_replicate h1]; exact hz
theorem zero_flat (R : Rep α) (z : α) (n : Nat) : (Builtin.zeroCells (R.enc z).toArray n).toList = R.cells (List.replicate n z) := by
  unfold Builtin.zeroCells Rep.cells
  apply List.ext_getElem?
  intro j
  have hp := R.pos
  have hlen : (R.enc z).length = R.sz := R.len z
  have h1 := R.cells_len (List.replicate n z)
  unfold Rep.cells at h1
  rw [List.length_replicate] at h1
  by_cases hj : j < n * R.sz
  · have hmod : j % R.sz < R.sz := Nat.mod_lt _ hp
    have hdiv : j / R.sz < n := by rw [Nat.div_lt_iff_lt_mul hp]; exact hj
    have h2 := R.cells_get (List.replicate n z) (j / R.sz) (j % R.sz) z (by rw [List.getElem?_replicate, if_pos hdiv]) hmod
    have h3 : j / R.sz * R.sz + j % R.sz = j := by rw [Nat.mul_comm]; exact Nat.div_add_mod j R.sz
    rw [h3] at h2
    unfold Rep.cells at h2
    rw [h2]
    simp [hlen, hj, List.getElem?_eq_getElem (show j % R.sz < (R.enc z).length by omega)]
  · rw [List.getElem?_eq_none (by simp [hlen]; omega), List.getElem?_eq_none (by omega)]
theorem r_clear {ag : Bool} (z : α) (hT : P.underlying T = some (.slice R.T)) (hE : TyF P R.T ag R.sz by_ zs) (hz : R.enc z = zs) (hx : ev l x = some (s.sub R.sz lo.toNat hi.toNat).v) (hk : nth es k = some (.row R s.v xs)) {qs : List α} (hq : sliceI xs lo hi = some qs) (hh : hi = xs.length)
    (h : LJ P Rp ops rest K N l (Sat w0 M A (setN es k (.row R s.v (clearM z xs lo))))) :
    LJ P Rp ops (⟨none, .call { callee := .builtin .clear, args := #[x], argTypes := #[T] }, ty, pos, af, none⟩ :: rest) K N l (Sat w0 M A es) := by
  intro a w hf hw
  subst hh hz
  obtain ⟨p, q, rfl, hq1, hpq, hqx, rfl⟩ := sliceI_spec hq
  have hqe : q = xs.length := by omega
  subst hqe
  simp only [Int.toNat_natCast] at hx ⊢
  have hown := hw.row hk
  have key : ∀ w', Chg (Ent.key (.row R s.v xs)).toList w w' → (Ent.row R s.v (clearM z xs (p : Int))).okx w' → (Builtin.clear_ #[T] ty #[(s.sub R.sz p xs.length).v]).run P w = .ok (.tuple #[]) w' →
      LJ P Rp ops (⟨none, .call { callee := .builtin .clear, args := #[x], argTypes := #[T] }, ty, pos, af, none⟩ :: rest) K N l (fun w1 => w1 = w) := by
    intro w' hc hok hrun a w1 hf hw1
    subst hw1
    refine wpList_plain rfl fun K' hK => ?_
    unfold Oper.wp
    have : (execOp a.eval ⟨none, .call { callee := .builtin .clear, args := #[x], argTypes := #[T] }, ty, pos, af, none⟩).run P w1 = .ok (.value (.tuple #[])) w' := by
      simp [execOp, resolve, invoke, builtin, hf.ev hx, hrun]
    rw [this]
    refine hK _ _ (h _ _ (hf.put_none _) (hw.swap hk hc hok (fun b hb => ?_) (fun F hF => by cases hF)))
    have hb' : Ent.key (.row R s.v xs) = some b := hb
    exact ⟨(World.ownsRow.lt hok b hb).2, .inr hb'⟩
  have hlenc : (clearM z xs (p : Int)).length = xs.length := by simp [clearM]; omega
  rcases hown.2 with ⟨hsv, h0⟩ | ⟨b, cap, cur, hsv, hbg, hg, hn, hcm, hcs, ht⟩
  · have hx0 : xs = [] := List.eq_nil_of_length_eq_zero h0
    subst hx0
    injection hsv with ha hn2 hc2
    have hp0 : p = 0 := by simpa using hpq
    subst hp0
    refine key w (Chg.refl _ _) (show (Ent.row R s.v (clearM z ([] : List α) (((0 : Nat)) : Int))).okx w from hown) ?_ a w hf rfl
    simp [SV.sub, ha, hc2, Builtin.clear_, run_underlying hT]
  · injection hsv with ha hn2 hc2
    by_cases hpe : p = xs.length
    · subst hpe
      have e0 : clearM z xs ((xs.length : Nat) : Int) = xs := by simp [clearM]
      refine key w (Chg.refl _ _) (by rw [e0]; exact hown) ?_ a w hf rfl
      have e1 : (s.sub R.sz xs.length xs.length).v = .slice (if s.c = xs.length then s.a else s.a.map (·.add (xs.length * R.sz))) 0 (s.c - xs.length) := by simp [SV.sub, SV.v]
      rw [e1]
      simp only [Builtin.clear_]
      generalize (if s.c = xs.length then s.a else s.a.map (·.add (xs.length * R.sz))) = ad
      cases ad <;> simp [run_underlying hT]
    · have hlt : p < xs.length := by omega
      have hne : ¬ s.c = p := by omega
      obtain ⟨zv, hz1, hz2⟩ := hE.zero
      have hmul : p * R.sz + (xs.length - p) * R.sz = xs.length * R.sz := by rw [← Nat.add_mul]; congr 1; omega
      have hmul2 : xs.length * R.sz ≤ cap * R.sz := Nat.mul_le_mul_right _ hn
      have hvl : (R.cells (List.replicate (xs.length - p) z)).length = (xs.length - p) * R.sz := by rw [R.cells_len, List.length_replicate]
      have hst := run_storeCells_at P b (p * R.sz) R.T (R.cells (List.replicate (xs.length - p) z)) 0 cur w hg (by omega) (fun v hv => R.cells_one _ v hv)
      refine key (w.setRow b (cur.toList.take (p * R.sz) ++ R.cells (List.replicate (xs.length - p) z) ++ cur.toList.drop (p * R.sz + (R.cells (List.replicate (xs.length - p) z)).length)).toArray) ?_ ?_ ?_ a w hf rfl
      · have : (Ent.row R s.v xs).key = some b := by simp [Ent.key, SV.v, ha, Value.ownBlock]
        rw [this]
        exact ⟨rfl, rfl, rfl, by simp, fun k _ hb => setRow_other w b k _ (fun e => hb (by simp [e]))⟩
      · refine ⟨R.cells_len _, .inr ⟨b, cap, _, by simp [SV.v, ha, hn2, hc2, hlenc], hbg, setRow_heap w b cur _ R.T _ hg, by rw [hlenc]; exact hn, hcm, ?_, ?_⟩⟩
        · simp only [List.size_toArray, List.length_append, List.length_take, List.length_drop, Array.length_toList]
          omega
        · have e1 : R.cells (clearM z xs (p : Int)) = R.cells (xs.take p) ++ R.cells (List.replicate (xs.length - p) z) := by simp only [clearM, Int.toNat_natCast, R.cells_append]
          have e2 : cur.toList.take (p * R.sz) = R.cells (xs.take p) := by
            have h3 := congrArg (List.take (p * R.sz)) ht
            rw [List.take_take, Nat.min_eq_left (by omega)] at h3
            rw [h3]
            have h4 : R.cells xs = R.cells (xs.take p) ++ R.cells (xs.drop p) := by rw [← R.cells_append, List.take_append_drop]
            have h5 : (R.cells (xs.take p)).length = p * R.sz := by rw [R.cells_len, List.length_take, Nat.min_eq_left (by omega)]
            rw [h4, ← h5, List.take_left]
          rw [e1, hlenc, e2]
          have h6 : (R.cells (xs.take p) ++ R.cells (List.replicate (xs.length - p) z)).length = xs.length * R.sz := by
            rw [List.length_append, hvl, R.cells_len, List.length_take, Nat.min_eq_left (by omega)]; omega
          simp only
          rw [← h6, List.take_left]
      · obtain ⟨m, hm⟩ : ∃ m, xs.length - p = m + 1 := ⟨xs.length - p - 1, by omega⟩
        have e1 : (s.sub R.sz p xs.length).v = .slice (some ⟨b, p * R.sz, none⟩) (m + 1) (s.c - p) := by simp [SV.sub, SV.v, hne, ha, add_at, hm]
        rw [e1]
        have hzc := zero_flat R z (xs.length - p)
        simp only [Nat.add_zero] at hst
        rw [hm] at hst hzc ⊢
        simp [Builtin.clear_, run_underlying hT, hz2, hz1, hzc, hst]
end
section
variable {P : Program} {Rp : Post} {K : List Lay} {N : NN} {l : Fr} {ops : Array Oper} {rest : List Oper} {w0 w : World} {M : List Nat} {A : Nat → Prop} {es rs : List Ent} {b : Nat} {T : TypeId} {cs : List Value}
/-- a block that is turned no more -/
theorem Sat.freezeB {k : Nat} (h : Sat w0 M A es w) (hk : pick1 es k = some (.box b T cs, rs)) : Sat w0 M A (.ro (BoxS b T cs) :: rs) w := by
  have h2 := h.perm (pick1_perm hk)
  have hb : w.heap[b]? = some (.cells cs.toArray T (0, 0)) := h2.okx _ (List.mem_cons_self ..)
  refine (h2.sublist (List.sublist_cons_self _ _)).add_ro fun w' hw' => (hw'.2 b ?_ ?_ ?_).trans hb
  · exact (Array.getElem?_eq_some_iff.1 hb).1
  · have hb1 : b ∈ keys (.box b T cs :: rs) := mem_keys.2 ⟨_, List.mem_cons_self .., by simp [Ent.kl]⟩
    rcases (h2.fresh b hb1).2 with h3 | h3
    · exact .inr h3
    · exact .inl (.inr h3)
  · have hnd := h2.nodup
    have hkk : keys (.box b T cs :: rs) = b :: keys rs := rfl
    rw [hkk, List.nodup_cons] at hnd
    exact hnd.1
theorem r_fzb (k : Nat) (hk : pick1 es k = some (.box b T cs, rs)) (h : LJ P Rp ops rest K N l (Sat w0 M A (.ro (BoxS b T cs) :: rs))) : LJ P Rp ops rest K N l (Sat w0 M A es) := fun a w hf hw => h a w hf (hw.freezeB hk)
end
/-- a test that is known before the region -/
theorem bsplit {p : Prop} (b : Bool) (h1 : b = true → p) (h2 : b = false → p) : p := match b, h1, h2 with | true, h1, _ => h1 rfl | false, _, h2 => h2 rfl
theorem p_to {P : Program} {N : NN} {l : Fr} {o : Oper} {H : World → Prop} {v v' : Value} (h : v = v') (p : PureOp P N o l H v) : PureOp P N o l H v' := h ▸ p
end Go.J
