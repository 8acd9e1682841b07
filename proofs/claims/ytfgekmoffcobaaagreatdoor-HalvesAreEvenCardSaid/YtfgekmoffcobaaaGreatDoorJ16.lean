/- J16: cuts with a bound on the room; append to what has no room. No program in sight. -/
import Derived.Test.YtfgekmoffcobaaaGreatDoorJ15
namespace Go.J
open Go Go.RowKit
section
variable {P : Program} {Rp : Post} {K : List Lay} {N : NN} {l : Fr} {ops : Array Oper} {rest : List Oper} {d : Nat} {dd : Option Nat} {ty : Nat} {pos : String} {af : Array Edge} {g : Option (Nat × Bool)} {x y om oh : Operand} {T : TypeId}
variable {w0 : World} {M : List Nat} {A : Nat → Prop} {es : List Ent} {α : Type} {R : Rep α} {s t : SV} {xs ys qs : List α} {sz by_ : Nat} {zs : List Value} {lo hi : Int}
def SV.lim (s : SV) (m : Nat) : SV := ⟨s.a, s.n, m⟩
theorem RdS.lim {w : World} (h : RdS R s.v xs w) : RdS R (s.lim xs.length).v xs w := by
  have hn := h.n
  refine ⟨h.1, ?_⟩
  rcases h.2 with ⟨h2, x0, cap0, h1, hm⟩ | ⟨g, off, cap, h1, h2, h3, h4⟩
  · subst h2
    exact .inl ⟨rfl, s.a, 0, by simp only [SV.lim, SV.v, hn]; rfl, by simp [maxLen]⟩
  · injection h1 with h5 h6 h7
    exact .inr ⟨g, off, xs.length, by simp only [SV.lim, SV.v, h5, hn], Nat.le_refl _, h.1, h4⟩
theorem run_sliceBounds3 {w : World} {n c m : Nat} {lo : Option Value} {a b : Nat} (hab : a ≤ b) (hb : b ≤ m) (hm : m ≤ c)
    (hlo : lo = some (.int .i64 a) ∨ (lo = none ∧ a = 0)) : (Instr.sliceBounds true n c lo (some (.int .i64 (b : Int))) (some (.int .i64 (m : Int)))).run P w = .ok (a, b, m) w := by
  have h0 : ∀ code, (Instr.sliceBound (.int .i64 (m : Int)) c code).run P w = .ok m w := fun code => run_sliceBound hm
  have h1 : ∀ code, (Instr.sliceBound (.int .i64 (b : Int)) m code).run P w = .ok b w := fun code => run_sliceBound hb
  have h2 : ∀ code, (Instr.sliceBound (.int .i64 (a : Int)) b code).run P w = .ok a w := fun code => run_sliceBound hab
  unfold Instr.sliceBounds
  rcases hlo with rfl | ⟨rfl, rfl⟩
  all_goals simp only [Sem.run_bind, Sem.run_pure, Result.andThen_ok, h0, h1, h2]
theorem run_sliceAt3 {w : World} {lo : Option Value} {a b : Nat} {ag : Bool} (hT : P.underlying T = some (.slice R.T)) (hE : TyF P R.T ag R.sz by_ zs) (h : RdS R s.v xs w) (hab : a ≤ b) (hb : b ≤ xs.length)
    (hlo : lo = some (.int .i64 a) ∨ (lo = none ∧ a = 0)) : (Instr.sliceAt T s.v lo (some (.int .i64 (b : Int))) (some (.int .i64 (xs.length : Int)))).run P w = .ok ((s.lim xs.length).sub R.sz a b).v w := by
  have hcap : xs.length ≤ s.c := by
    rcases h.2 with ⟨h2, x0, cap0, h1, hm⟩ | ⟨g, off, cap, h1, h2, h3, h4⟩
    · subst h2; simp
    · injection h1 with h5 h6 h7; omega
  have hB := run_sliceBounds3 (P := P) (w := w) (n := s.n) (c := s.c) hab hb hcap hlo
  simp only [Instr.sliceAt, Sem.run_bind, run_underlying hT, Result.andThen_ok, Instr.slice, hB, hE.size w, Sem.run_pure]
  rfl
/-- a cut that bounds the room by what is there -/
theorem p_cut3 {ag : Bool} {ol : Option Operand} {vl : Option Value} (hT : P.underlying T = some (.slice R.T)) (hE : TyF P R.T ag R.sz by_ zs) (hx : ev l x = some s.v) (hlo : evO l ol = some vl) (hhi : ev l oh = some (.int .i64 hi)) (hmx : ev l om = some (.int .i64 (xs.length : Int)))
    (hbl : boundV vl = true) (hk : FactAt es (RdS R s.v xs)) (hl : loV vl = lo) (hq : sliceI xs lo hi = some qs) :
    PureOp P N ⟨dd, .slice T x ol (some oh) (some om), ty, pos, af, g⟩ l (Sat w0 M A es) ((s.lim xs.length).sub R.sz lo.toNat hi.toNat).v := fun a w hf hw => by
  subst hl
  obtain ⟨p, q, hp, rfl, hpq, hqx, rfl⟩ := sliceI_spec hq
  have hrun := run_sliceAt3 (P := P) (T := T) (lo := vl) hT hE (hk.get hw) hpq hqx
    (by
      cases vl with
      | none => exact .inr ⟨rfl, by simp [loV] at hp; omega⟩
      | some v => cases v <;> first | cases hbl; done | (rename_i kk nn; cases kk <;> first | cases hbl; done | (simp [loV] at hp; exact .inl (by rw [hp]))))
  rw [hp]
  simp only [Int.toNat_natCast]
  have e1 : evO l (some oh) = some (some (.int .i64 (q : Int))) := by simp [evO, hhi]
  have e2 : evO l (some om) = some (some (.int .i64 (xs.length : Int))) := by simp [evO, hmx]
  simp [execOp, hf.ev hx, hf.evO hlo, hf.evO e1, hf.evO e2, hrun]
theorem RdS.cut3 {w : World} (h : RdS R s.v xs w) (hq : sliceI xs lo hi = some qs) : RdS R ((s.lim xs.length).sub R.sz lo.toNat hi.toNat).v qs w := h.lim.cut hq
/-- append to what has no room: what was there, or a new row -/
theorem run_appF {ag : Bool} {ty : TypeId} (hT : P.underlying T = some (.slice R.T)) (hE : TyF P R.T ag R.sz by_ zs) (hzs : zs.length = R.sz) {w : World} (hdst : RdS R s.v xs w) (hcn : s.c = s.n)
    (hsrc : RdS R t.v ys w) (hb : (xs.length + ys.length) * by_ ≤ 140737488355328) (hb2 : xs.length + ys.length ≤ maxLen) :
    (ys = [] ∧ (Builtin.append_ #[T, T] ty #[s.v, t.v]).run P w = .ok s.v w) ∨
    ∃ (s' : SV) (w' : World), (Builtin.append_ #[T, T] ty #[s.v, t.v]).run P w = .ok s'.v w' ∧ w'.ownsRow 0 R.T R.sz s'.v (xs ++ ys).length (R.cells (xs ++ ys)) ∧ Chg [] w w' ∧ ∀ b, s'.v.ownBlock = some b → w.heap.size ≤ b := by
  obtain ⟨i, z, hi, hz, hzc, hsz, hby⟩ := hE.info
  have hlen : (R.cells (xs ++ ys)).length = (xs ++ ys).length * R.sz := R.cells_len _
  have hml : xs.length + ys.length ≤ 9223372036854775807 := by simpa [maxLen] using hb2
  have hzs' : z.cells.size = R.sz := by rw [hzc]; simpa using hzs
  have hn := hdst.n
  have grown : ∀ (old : Nat) (cells : List Value), cells = R.cells (xs ++ ys) → old < xs.length + ys.length → ∀ (c : Nat), c = grownCap w (xs.length + ys.length) old R.T →
      (w.drew.alloc (.cells (cells.toArray ++ Builtin.zeroCells z.cells (c - (xs.length + ys.length))) R.T)).ownsRow 0 R.T R.sz (SV.v ⟨some ⟨w.heap.size, 0, none⟩, xs.length + ys.length, c⟩) (xs ++ ys).length (R.cells (xs ++ ys)) := by
    intro old cells hc ho c hcc
    have hge := grownCap_ge w (xs.length + ys.length) old R.T
    have hcm : grownCap w (xs.length + ys.length) old R.T ≤ maxLen := grownCap_le_maxLen w _ old R.T hb2
    subst hc hcc
    refine ⟨hlen, .inr ⟨w.heap.size, _, _, by rw [List.length_append], Nat.zero_le _, Go.heap_alloc_new w.drew _, by rw [List.length_append]; exact hge, hcm, ?_, ?_⟩⟩
    · simp only [Array.size_append, List.size_toArray, size_zeroCells', hzs', hlen, List.length_append, ← Nat.add_mul]
      congr 1
      omega
    · simp only [Array.toList_append]
      rw [← hlen]
      exact List.take_left
  by_cases hy0 : ys = []
  · left
    refine ⟨hy0, ?_⟩
    have hle : s.n ≤ s.c := by omega
    have ht0 : t.n = 0 := by rw [hsrc.n, hy0]; rfl
    obtain ⟨ta, tn, tc⟩ := t
    simp only at ht0
    subst ht0
    simp only [SV.v]
    cases ha : s.a with
    | none => cases ta <;> simp [Builtin.append_, run_underlying hT, sizeOf, typeInfo, hi, Builtin.lenOf, hle, Builtin.firstCells, loadCells, loadCellsFrom]
    | some a => cases ta <;> simp [Builtin.append_, run_underlying hT, sizeOf, typeInfo, hi, Builtin.lenOf, hle, Builtin.firstCells, storeCells, loadCells, loadCellsFrom]
  · right
    rcases hsrc.2 with ⟨h2, _⟩ | ⟨b, off, cap, h1, h2, h3, h4⟩
    · exact absurd h2 hy0
    rw [h1]
    have hl : (R.cells ys).length = ys.length * i.size := by rw [hsz]; exact R.cells_len ys
    have hnews : ∀ j u, (R.cells ys)[j]? = some u → w.cell? ((⟨b, off, none⟩ : Addr).add j) = some u := fun j u hu => by rw [add_at]; exact h4 j u hu
    have hypos : 0 < ys.length := List.length_pos_iff.2 hy0
    have key : ∀ (a : Addr), s.a = some a → (∀ j u, (R.cells xs)[j]? = some u → w.cell? (a.add j) = some u) →
        ∃ (s' : SV) (w' : World), (Builtin.append_ #[T, T] ty #[s.v, .slice (some ⟨b, off, none⟩) ys.length cap]).run P w = .ok s'.v w' ∧ w'.ownsRow 0 R.T R.sz s'.v (xs ++ ys).length (R.cells (xs ++ ys)) ∧ Chg [] w w' ∧ ∀ b, s'.v.ownBlock = some b → w.heap.size ≤ b := by
      intro a ha holds
      have hr := run_append_grow (P := P) w T ty R.T i z hT hi hz a xs.length xs.length (R.cells xs) (by rw [hsz]; exact R.cells_len xs) holds ⟨b, off, none⟩ ys.length cap (R.cells ys) hl hnews (by omega) (by omega) (by rw [hby]; exact growslice_fits (by omega) hb)
      have hgr := grown xs.length (R.cells xs ++ R.cells ys) (by rw [R.cells_append]) (by omega) _ rfl
      simp only [← List.append_toArray] at hgr
      have hsv : s.v = .slice (some a) xs.length xs.length := by simp only [SV.v, ha, hcn, hn]
      rw [hsv]
      refine ⟨⟨some ⟨w.heap.size, 0, none⟩, xs.length + ys.length, _⟩, _, hr, hgr, ⟨rfl, rfl, rfl, by simp, fun k hk _ => Below.heap_alloc w.drew _ k hk⟩, fun k hk => ?_⟩
      simp only [Value.ownBlock, Option.some.injEq] at hk
      omega
    rcases hdst.2 with ⟨h5, x0, cap0, h6, h7⟩ | ⟨g, off', cap', h6, h7, h8, h9⟩
    · subst h5
      cases ha : s.a with
      | some a => exact key a ha (fun j u hu => by simp [Rep.cells] at hu)
      | none =>
        have hsv : s.v = .slice none 0 0 := by simp only [SV.v, ha, hcn, hn]; rfl
        rw [hsv]
        have hr := run_append_nil (P := P) w T ty R.T i z hT hi hz ⟨b, off, none⟩ ys.length cap (R.cells ys) hl hnews (by omega) (by simp at hml; omega) (by rw [hby]; simp at hb; omega)
        have hgr := grown 0 (R.cells ys) (by simp) (by simp; omega) _ rfl
        simp only [List.length_nil, Nat.zero_add] at hgr
        refine ⟨⟨some ⟨w.heap.size, 0, none⟩, ys.length, _⟩, _, hr, hgr, ⟨rfl, rfl, rfl, by simp, fun k hk _ => Below.heap_alloc w.drew _ k hk⟩, fun k hk => ?_⟩
        simp only [Value.ownBlock, Option.some.injEq] at hk
        omega
    · injection h6 with h10 h11 h12
      exact key _ h10 (fun j u hu => by rw [add_at]; exact h9 j u hu)
theorem r_appF {ag : Bool} (hT : P.underlying T = some (.slice R.T)) (hE : TyF P R.T ag R.sz by_ zs) (hzs : zs.length = R.sz) (hx : ev l x = some s.v) (hy : ev l y = some t.v) (hk : FactRo es (RdS R s.v xs)) (hcn : s.c = s.n) (hr : FactAt es (RdS R t.v ys))
    (hq : appM by_ xs ys = some qs) (hd : Nat.blt d N.n = true) (h : ∀ s' : SV, LJ P Rp ops rest K N ((d, s'.v) :: l) (Sat w0 M A (.ro (RdS R s'.v qs) :: es))) :
    LJ P Rp ops (⟨some d, .call { callee := .builtin .append, args := #[x, y], argTypes := #[T, T] }, ty, pos, af, none⟩ :: rest) K N l (Sat w0 M A es) := by
  intro a w hf hw
  obtain ⟨rfl, hb, hb2⟩ := appM_spec hq
  refine wpList_plain rfl fun K' hK => ?_
  unfold Oper.wp
  rcases run_appF (P := P) (ty := ty) hT hE hzs (hk.stays hw w ⟨Nat.le_refl _, fun _ _ _ _ => rfl⟩) hcn (hr.get hw) hb hb2 with ⟨hy0, hrun⟩ | ⟨s', w', hrun, hown, hc, hkey⟩
  · have : (execOp a.eval ⟨some d, .call { callee := .builtin .append, args := #[x, y], argTypes := #[T, T] }, ty, pos, af, none⟩).run P w = .ok (.value s.v) w := by
      simp [execOp, resolve, invoke, builtin, hf.ev hx, hf.ev hy, hrun]
    rw [this]
    refine hK _ _ (h s _ _ (hf.put hd _) (hw.add_ro ?_))
    subst hy0
    rw [List.append_nil]
    exact hk.stays hw
  · have : (execOp a.eval ⟨some d, .call { callee := .builtin .append, args := #[x, y], argTypes := #[T, T] }, ty, pos, af, none⟩).run P w = .ok (.value s'.v) w' := by
      simp [execOp, resolve, invoke, builtin, hf.ev hx, hf.ev hy, hrun]
    rw [this]
    have hst := hw.step (w' := w') [] (by simp) hc es [.row R s'.v (xs ++ ys)] (List.Sublist.refl _) (by simp)
      (by simp only [keys_cons, keys_nil, List.append_nil, Ent.kl]; cases (SV.v s').ownBlock <;> simp)
      (fun k hk => by
        obtain ⟨e, he, hek⟩ := mem_keys.1 hk
        simp at he
        subst he
        exact ⟨(World.ownsRow.lt hown k (kl_row' hek)).2, .inl (hkey k (kl_row' hek))⟩)
      (by intro e he; simp at he; subst he; exact hown) (by intro e he; simp at he; subst he; intros; trivial)
    have hst2 : Sat w0 M A (.row R s'.v (xs ++ ys) :: es) w' := hst.perm List.perm_append_comm
    exact hK _ _ (h s' _ _ (hf.put hd _) (hst2.freeze (k := 0) rfl))
end
end Go.J
