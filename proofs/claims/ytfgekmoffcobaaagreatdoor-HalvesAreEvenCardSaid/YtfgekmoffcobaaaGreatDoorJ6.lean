/- J6: append, cuts of slices, calls, returns, loops over slices, regions that draw their order and only read. No program in sight. -/
import Derived.Test.YtfgekmoffcobaaaGreatDoorJ5
namespace Go.J
open Go Go.RowKit

/-- the slots that a call begins with -/
def SubA : Fr → List Value → Prop
  | [], _ => True
  | (i, v) :: r, args => nth args i = some v ∧ SubA r args
theorem SubA.look {vs : Fr} {args : List Value} (h : SubA vs args) : ∀ i v, J.look vs i = some v → args[i]? = some v := by
  induction vs with
  | nil => intro i v hv; cases hv
  | cons p r ih =>
    obtain ⟨j, u⟩ := p
    intro i v hv
    rw [look_cons] at hv
    by_cases e : j = i
    · subst e; rw [if_pos rfl] at hv; cases hv; rw [← nth_eq]; exact h.1
    · rw [if_neg e] at hv; exact ih h.2 i v hv
theorem CJ.imp {P : Program} {R : Post} {c : Code} {K : List Lay} {N : NN} {l : Fr} {H H' : World → Prop} (h : CJ P R c K N l H') (hH : ∀ w, H w → H' w) : CJ P R c K N l H := fun a w hf hw => h a w hf (hH w hw)
theorem LJ.imp {P : Program} {R : Post} {ops : Array Oper} {c : List Oper} {K : List Lay} {N : NN} {l : Fr} {H H' : World → Prop} (h : LJ P R ops c K N l H') (hH : ∀ w, H w → H' w) : LJ P R ops c K N l H := fun a w hf hw => h a w hf (hH w hw)
/-! ### append -/
theorem ownsRow_form {w : World} {e : TypeId} {sz : Nat} {v : Value} {n : Nat} {xs : List Value} (h : w.ownsRow 0 e sz v n xs) : ∃ s : SV, v = s.v := by
  rcases h.2 with ⟨rfl, _⟩ | ⟨g, cap, cur, rfl, _⟩
  · exact ⟨nilS, rfl⟩
  · exact ⟨⟨some ⟨g, 0, none⟩, n, cap⟩, rfl⟩
theorem size_zeroCells' (z : Array Value) (n : Nat) : (Builtin.zeroCells z n).size = n * z.size := by simp [Builtin.zeroCells]
/-- append, whatever the tape says of capacities: a row of ours that holds both; its block is the old one or new. -/
theorem run_app {P : Program} {α : Type} {R : Rep α} {T ty : TypeId} {ag : Bool} {by_ : Nat} {zs : List Value} (hT : P.underlying T = some (.slice R.T)) (hE : TyF P R.T ag R.sz by_ zs) (hzs : zs.length = R.sz)
    {v : Value} {xs ys : List α} {t : SV} {w : World} (hown : w.ownsRow 0 R.T R.sz v xs.length (R.cells xs)) (hsrc : RdS R t.v ys w) (hb : (xs.length + ys.length) * by_ ≤ 140737488355328) (hb2 : xs.length + ys.length ≤ maxLen) :
    ∃ (s : SV) (w' : World), (Builtin.append_ #[T, T] ty #[v, t.v]).run P w = .ok s.v w' ∧ w'.ownsRow 0 R.T R.sz s.v (xs ++ ys).length (R.cells (xs ++ ys)) ∧ Chg v.ownBlock.toList w w' ∧
      ∀ b, s.v.ownBlock = some b → w.heap.size ≤ b ∨ v.ownBlock = some b := by
  obtain ⟨i, z, hi, hz, hzc, hsz, hby⟩ := hE.info
  have hlen : (R.cells (xs ++ ys)).length = (xs ++ ys).length * R.sz := R.cells_len _
  have hml : xs.length + ys.length ≤ 9223372036854775807 := by simpa [maxLen] using hb2
  have hzs' : z.cells.size = R.sz := by rw [hzc]; simpa using hzs
  have grown : ∀ (old : Nat) (cells : List Value), cells = R.cells (xs ++ ys) → old < xs.length + ys.length → ∀ (c : Nat), c = grownCap w (xs.length + ys.length) old R.T →
      (w.drew.alloc (.cells (cells.toArray ++ Builtin.zeroCells z.cells (c - (xs.length + ys.length))) R.T)).ownsRow 0 R.T R.sz (SV.v ⟨some ⟨w.heap.size, 0, none⟩, xs.length + ys.length, c⟩) (xs ++ ys).length (R.cells (xs ++ ys)) := by
    intro old cells hc ho c hcc
    have hge := grownCap_ge w (xs.length + ys.length) old R.T
    have hcm : grownCap w (xs.length + ys.length) old R.T ≤ maxLen := grownCap_le_maxLen w _ old R.T hb2
    subst hc hcc
    refine ⟨hlen, .inr ⟨w.heap.size, _, _, by rw [List.length_append], Nat.zero_le _, Go.heap_alloc_new w.drew _, by rw [List.length_append]; exact hge, hcm, ?_, ?_⟩⟩
    · simp only [Array.size_append, List.size_toArray, size_zeroCells', hzs', hlen, List.length_append, ← Nat.add_mul]
      congr 1
      omega
    · simp only [Array.toList_append]
      rw [← hlen]
      exact List.take_left
  rcases hsrc.2 with ⟨h2, x0, cap0, h1, _⟩ | ⟨b, off, cap, h1, h2, h3, h4⟩
  · -- nothing to append
    subst h2
    obtain ⟨s, rfl⟩ := ownsRow_form hown
    refine ⟨s, w, ?_, by simpa using hown, Chg.refl _ _, fun b hb => .inr hb⟩
    rw [h1]
    have hle : s.n ≤ s.c := by
      rcases hown.2 with ⟨h5, h6⟩ | ⟨g, cap, cur, h5, _, _, h6, _⟩
      · injection h5 with _ h7 h8; omega
      · injection h5 with _ h7 h8; omega
    simp only [SV.v]
    cases ha : s.a with
    | none => cases x0 <;> simp [Builtin.append_, run_underlying hT, sizeOf, typeInfo, hi, Builtin.lenOf, hle, Builtin.firstCells, loadCells, loadCellsFrom]
    | some a => cases x0 <;> simp [Builtin.append_, run_underlying hT, sizeOf, typeInfo, hi, Builtin.lenOf, hle, Builtin.firstCells, storeCells, loadCells, loadCellsFrom]
  · rw [h1]
    have hl : (R.cells ys).length = ys.length * i.size := by rw [hsz]; exact R.cells_len ys
    have hnews : ∀ j u, (R.cells ys)[j]? = some u → w.cell? ((⟨b, off, none⟩ : Addr).add j) = some u := fun j u hu => by rw [add_at]; exact h4 j u hu
    rcases hown.2 with ⟨rfl, h6⟩ | ⟨g, c0, cur, rfl, _, hg, hn, hcm, hcs, ht⟩
    · have hx : xs = [] := List.eq_nil_of_length_eq_zero h6
      subst hx
      by_cases hm : ys.length = 0
      · have hy : ys = [] := List.eq_nil_of_length_eq_zero hm
        subst hy
        refine ⟨nilS, w, ?_, hown, Chg.refl _ _, fun b hb => .inr hb⟩
        simp [Builtin.append_, run_underlying hT, sizeOf, typeInfo, hi, Builtin.lenOf, Builtin.firstCells, loadCells, loadCellsFrom, nilS]
      · have hr := run_append_nil (P := P) w T ty R.T i z hT hi hz ⟨b, off, none⟩ ys.length cap (R.cells ys) hl hnews (by omega) (by simp at hml; omega) (by rw [hby]; simp at hb; omega)
        have hgr := grown 0 (R.cells ys) (by simp) (by simp; omega) _ rfl
        simp only [List.length_nil, Nat.zero_add] at hgr
        refine ⟨⟨some ⟨w.heap.size, 0, none⟩, ys.length, _⟩, _, hr, hgr, ⟨rfl, rfl, rfl, by simp, fun k hk _ => Below.heap_alloc w.drew _ k hk⟩, fun k hk => ?_⟩
        simp only [Value.ownBlock, Option.some.injEq] at hk
        exact .inl (by omega)
    · have holds : ∀ j u, (R.cells xs)[j]? = some u → w.cell? ((⟨g, 0, none⟩ : Addr).add j) = some u := hown.cells (g := g) rfl
      by_cases hroom : xs.length + ys.length ≤ c0
      · have hfit : xs.length * i.size + (R.cells ys).length ≤ cur.size := by rw [hl, hcs, hsz, ← Nat.add_mul]; exact Nat.mul_le_mul_right _ hroom
        have hr := run_append_room (P := P) w T ty R.T i hT hi g xs.length c0 cur hg ⟨b, off, none⟩ ys.length cap (R.cells ys) hl hnews (R.cells_one ys) hroom hfit
        refine ⟨⟨some ⟨g, 0, none⟩, xs.length + ys.length, c0⟩, _, hr, ⟨hlen, .inr ⟨g, c0, _, by rw [List.length_append], Nat.zero_le _, setRow_heap w g cur _ R.T _ hg, by rw [List.length_append]; exact hroom, hcm, ?_, ?_⟩⟩, ⟨rfl, rfl, rfl, by simp, fun k _ hk => setRow_other w g k _ (fun e => hk (by simp [Value.ownBlock, e]))⟩, fun k hk => .inr hk⟩
        · rw [hsz] at hfit ⊢
          simp only [List.size_toArray, List.length_append, List.length_take, List.length_drop, Array.length_toList]
          omega
        · rw [hsz, ht, ← hlen, R.cells_append]
          exact List.take_left
      · have hr := run_append_grow (P := P) w T ty R.T i z hT hi hz ⟨g, 0, none⟩ xs.length c0 (R.cells xs) (by rw [hsz]; exact R.cells_len xs) holds ⟨b, off, none⟩ ys.length cap (R.cells ys) hl hnews (by omega) (by omega) (by rw [hby]; exact growslice_fits (by omega) hb)
        have hgr := grown c0 (R.cells xs ++ R.cells ys) (by rw [R.cells_append]) (by omega) _ rfl
        simp only [← List.append_toArray] at hgr
        refine ⟨⟨some ⟨w.heap.size, 0, none⟩, xs.length + ys.length, _⟩, _, hr, hgr, ⟨rfl, rfl, rfl, by simp, fun k hk _ => Below.heap_alloc w.drew _ k hk⟩, fun k hk => ?_⟩
        simp only [Value.ownBlock, Option.some.injEq] at hk
        exact .inl (by omega)
/-- append's model: too long fails -/
def appM {α : Type} (by_ : Nat) (xs ys : List α) : Option (List α) := if (xs.length + ys.length) * by_ ≤ 140737488355328 ∧ xs.length + ys.length ≤ maxLen then some (xs ++ ys) else none
theorem appM_spec {α : Type} {by_ : Nat} {xs ys zs : List α} (h : appM by_ xs ys = some zs) : zs = xs ++ ys ∧ (xs.length + ys.length) * by_ ≤ 140737488355328 ∧ xs.length + ys.length ≤ maxLen := by
  unfold appM at h
  split at h
  · cases h; exact ⟨rfl, ‹_›⟩
  · cases h
theorem Facts.perm_mem {es : List Ent} {e : Ent} {k : Nat} (h : nth es k = some e) : e ∈ es := by rw [nth_eq] at h; exact List.mem_of_getElem? h
section
variable {P : Program} {Rp : Post} {K : List Lay} {N : NN} {l : Fr} {ops : Array Oper} {rest : List Oper} {d : Nat} {ty : Nat} {pos : String} {af : Array Edge} {g : Option (Nat × Bool)} {x y z : Operand} {v u : Value} {T E Tb : TypeId}
variable {w0 : World} {M : List Nat} {A : Nat → Prop} {es : List Ent} {α : Type} {R : Rep α} {s t : SV} {xs ys qs : List α} {e : α} {i o j k b off : Nat} {sz by_ : Nat} {zs cs vs : List Value} {m n : Int}
theorem r_app {ag : Bool} (hT : P.underlying T = some (.slice R.T)) (hE : TyF P R.T ag R.sz by_ zs) (hzs : zs.length = R.sz) (hx : ev l x = some s.v) (hy : ev l y = some t.v) (hk : nth es k = some (.row R s.v xs)) (hr : FactAt es (RdS R t.v ys))
    (hq : appM by_ xs ys = some qs) (hd : Nat.blt d N.n = true) (h : ∀ s' : SV, LJ P Rp ops rest K N ((d, s'.v) :: l) (Sat w0 M A (setN es k (.row R s'.v qs)))) :
    LJ P Rp ops (⟨some d, .call { callee := .builtin .append, args := #[x, y], argTypes := #[T, T] }, ty, pos, af, none⟩ :: rest) K N l (Sat w0 M A es) := by
  intro a w hf hw
  obtain ⟨rfl, hb, hb2⟩ := appM_spec hq
  refine wpList_plain rfl fun K' hK => ?_
  unfold Oper.wp
  obtain ⟨s', w', hrun, hown, hc, hkey⟩ := run_app (P := P) (ty := ty) hT hE hzs (hw.row hk) (hr.get hw) hb hb2
  have : (execOp a.eval ⟨some d, .call { callee := .builtin .append, args := #[x, y], argTypes := #[T, T] }, ty, pos, af, none⟩).run P w = .ok (.value s'.v) w' := by
    simp [execOp, resolve, invoke, builtin, hf.ev hx, hf.ev hy, hrun]
  rw [this]
  refine hK _ _ (h s' _ _ (hf.put hd _) (hw.swap hk hc hown (fun b hb => ?_) (fun F hF => by cases hF)))
  exact ⟨(World.ownsRow.lt hown b hb).2, hkey b hb⟩
/-- a nil slice begins a row -/
theorem Sat.nil_row {w : World} (h : Sat w0 M A es w) (R : Rep α) : Sat w0 M A (.row R (.slice none 0 0) [] :: es) w := by
  have := h.step (w' := w) [] (by simp) (Chg.refl _ _) es [.row R (.slice none 0 0) []] (List.Sublist.refl _) (by simp) List.nodup_nil (fun k hk => by change k ∈ ([] : List Nat) at hk; cases hk)
    (by intro e he; simp at he; subst he; exact World.ownsRow_nil w 0 R.T R.sz) (by intro e he; simp at he; subst he; intros; trivial)
  exact this.perm List.perm_append_comm
theorem r_nil (R : Rep α) (h : LJ P Rp ops rest K N l (Sat w0 M A (.row R (SV.v nilS) [] :: es))) : LJ P Rp ops rest K N l (Sat w0 M A es) := fun a w hf hw => h a w hf (hw.nil_row R)
theorem cj_nil {c : Code} (R : Rep α) (h : CJ P Rp c K N l (Sat w0 M A (.row R (SV.v nilS) [] :: es))) : CJ P Rp c K N l (Sat w0 M A es) := fun a w hf hw => h a w hf (hw.nil_row R)
theorem RdS.nil (R : Rep α) (w : World) : RdS R (SV.v nilS) [] w := ⟨by simp [maxLen], .inl ⟨rfl, none, 0, rfl, by simp [maxLen]⟩⟩
/-- a nil slice is read -/
theorem Sat.nil_ro {w : World} (h : Sat w0 M A es w) (R : Rep α) : Sat w0 M A (.ro (RdS R (SV.v nilS) []) :: es) w := h.add_ro fun w' _ => RdS.nil R w'
theorem r_nilro (R : Rep α) (h : LJ P Rp ops rest K N l (Sat w0 M A (.ro (RdS R (SV.v nilS) []) :: es))) : LJ P Rp ops rest K N l (Sat w0 M A es) := fun a w hf hw => h a w hf (hw.nil_ro R)

/-! ### cuts -/
def sliceI {α : Type} (xs : List α) (lo hi : Int) : Option (List α) := if 0 ≤ lo ∧ lo ≤ hi ∧ hi ≤ xs.length then some ((xs.drop lo.toNat).take (hi.toNat - lo.toNat)) else none
theorem sliceI_spec {xs qs : List α} {lo hi : Int} (h : sliceI xs lo hi = some qs) : ∃ a b : Nat, lo = a ∧ hi = b ∧ a ≤ b ∧ b ≤ xs.length ∧ qs = (xs.drop a).take (b - a) := by
  unfold sliceI at h
  split at h
  · cases h; exact ⟨lo.toNat, hi.toNat, by omega, by omega, by omega, by omega, rfl⟩
  · cases h
def SV.sub (s : SV) (sz a b : Nat) : SV := ⟨if s.c = a then s.a else s.a.map (·.add (a * sz)), b - a, s.c - a⟩
theorem RdS.sub {w : World} (h : RdS R s.v xs w) {a b : Nat} (hab : a ≤ b) (hb : b ≤ xs.length) : RdS R (s.sub R.sz a b).v ((xs.drop a).take (b - a)) w := by
  have hn := h.n
  have hlen : ((xs.drop a).take (b - a)).length = b - a := by simp; omega
  refine ⟨by rw [hlen]; have := h.1; omega, ?_⟩
  rcases h.2 with ⟨h2, x0, cap0, h1, hm⟩ | ⟨g, off, cap, h1, h2, h3, h4⟩
  · subst h2
    simp at hb
    subst hb
    have : a = 0 := by omega
    subst this
    injection h1 with h5 h6 h7
    exact .inl ⟨by simp, _, s.c - 0, rfl, by omega⟩
  · injection h1 with h5 h6 h7
    by_cases hc : s.c = a
    · have : b = a := by omega
      subst this
      refine .inr ⟨g, off, s.c - b, by simp [SV.sub, hc, h5], by omega, by omega, ?_⟩
      intro j u hu
      simp [Rep.cells] at hu
    · refine .inr ⟨g, off + a * R.sz, s.c - a, by simp [SV.sub, hc, h5, add_at]; omega, by omega, by omega, ?_⟩
      intro j u hu
      rw [Nat.add_assoc]
      apply h4
      have e1 : xs = xs.take a ++ ((xs.drop a).take (b - a) ++ (xs.drop a).drop (b - a)) := by rw [List.take_append_drop, List.take_append_drop]
      have e2 : (R.cells (xs.take a)).length = a * R.sz := by rw [R.cells_len, List.length_take, Nat.min_eq_left (by omega)]
      rw [e1, R.cells_append, R.cells_append, List.getElem?_append_right (by rw [e2]; omega), e2, show a * R.sz + j - a * R.sz = j by omega]
      rw [List.getElem?_append_left (List.getElem?_eq_some_iff.1 hu).1]
      exact hu
theorem run_sliceBound {w : World} {i y : Nat} {code : BoundsCode} (h : i ≤ y) : (Instr.sliceBound (.int .i64 i) y code).run P w = .ok i w := by
  have h' : (0 : Int) ≤ (i : Int) ∧ (i : Int) ≤ (y : Int) := by omega
  unfold Instr.sliceBound
  simp only [asIntOf, Sem.run_bind, Sem.run_pure, Result.andThen_ok]
  rw [if_pos h']
  simp
theorem run_sliceBounds {w : World} {n c : Nat} {lo hi : Option Value} {a b : Nat} (hab : a ≤ b) (hb : b ≤ n) (hn : n ≤ c)
    (hlo : lo = some (.int .i64 a) ∨ (lo = none ∧ a = 0)) (hhi : hi = some (.int .i64 b) ∨ (hi = none ∧ b = n)) : (Instr.sliceBounds true n c lo hi none).run P w = .ok (a, b, c) w := by
  have h1 : ∀ code, (Instr.sliceBound (.int .i64 (b : Int)) c code).run P w = .ok b w := fun code => run_sliceBound (by omega)
  have h2 : ∀ code, (Instr.sliceBound (.int .i64 (a : Int)) b code).run P w = .ok a w := fun code => run_sliceBound hab
  unfold Instr.sliceBounds
  rcases hlo with rfl | ⟨rfl, rfl⟩ <;> rcases hhi with rfl | ⟨rfl, rfl⟩
  all_goals simp only [Sem.run_bind, Sem.run_pure, Result.andThen_ok, h1, h2]
theorem run_sliceAt {w : World} {lo hi : Option Value} {a b : Nat} {ag : Bool} (hT : P.underlying T = some (.slice R.T)) (hE : TyF P R.T ag R.sz by_ zs) (h : RdS R s.v xs w) (hab : a ≤ b) (hb : b ≤ xs.length)
    (hlo : lo = some (.int .i64 a) ∨ (lo = none ∧ a = 0)) (hhi : hi = some (.int .i64 b) ∨ (hi = none ∧ b = xs.length)) : (Instr.sliceAt T s.v lo hi none).run P w = .ok (s.sub R.sz a b).v w := by
  have hn := h.n
  have hcap : xs.length ≤ s.c := by
    rcases h.2 with ⟨h2, x0, cap0, h1, hm⟩ | ⟨g, off, cap, h1, h2, h3, h4⟩
    · subst h2; simp
    · injection h1 with h5 h6 h7; omega
  rw [← hn] at hb hhi
  have hB := run_sliceBounds (P := P) (w := w) (c := s.c) hab hb (by omega) hlo hhi
  simp only [Instr.sliceAt, Sem.run_bind, run_underlying hT, Result.andThen_ok, Instr.slice, hB, hE.size w, Sem.run_pure]
  rfl
def evO (l : Fr) : Option Operand → Option (Option Value)
  | none => some none
  | some x => match ev l x with
    | some v => some (some v)
    | none => none
theorem Frm.evO {a : Act} (hf : Frm N l a) {q : Option Operand} {r : Option Value} (h : J.evO l q = some r) : q.map a.eval = r := by
  cases q with
  | none => cases h; rfl
  | some x =>
    simp only [J.evO] at h
    cases h1 : J.ev l x with
    | none => rw [h1] at h; cases h
    | some v => rw [h1] at h; cases h; simp [hf.ev h1]
def loV (o : Option Value) : Int := match o with | some (.int _ n) => n | _ => 0
def hiV (o : Option Value) (n : Int) : Int := match o with | some (.int _ n) => n | _ => n
def boundV : Option Value → Bool
  | none => true
  | some (.int .i64 _) => true
  | _ => false
/-- a cut of a slice that is read -/
theorem r_cut {ag : Bool} {lo hi : Option Operand} {vl vh : Option Value} (hT : P.underlying T = some (.slice R.T)) (hE : TyF P R.T ag R.sz by_ zs) (hx : ev l x = some s.v) (hlo : evO l lo = some vl) (hhi : evO l hi = some vh)
    (hbl : boundV vl = true) (hbh : boundV vh = true) (hk : nth es k = some (.ro (RdS R s.v xs))) (hq : sliceI xs (loV vl) (hiV vh xs.length) = some qs) (hd : Nat.blt d N.n = true)
    (h : ∀ s' : SV, LJ P Rp ops rest K N ((d, s'.v) :: l) (Sat w0 M A (.ro (RdS R s'.v qs) :: es))) :
    LJ P Rp ops (⟨some d, .slice T x lo hi none, ty, pos, af, none⟩ :: rest) K N l (Sat w0 M A es) := by
  intro a w hf hw
  obtain ⟨p, q, hp, hq1, hpq, hqx, rfl⟩ := sliceI_spec hq
  have hr := hw.ro hk
  have hrun := run_sliceAt (P := P) (T := T) (lo := vl) (hi := vh) hT hE hr hpq hqx
    (by
      cases vl with
      | none => exact .inr ⟨rfl, by simp [loV] at hp; omega⟩
      | some v => cases v <;> first | cases hbl; done | (rename_i kk nn; cases kk <;> first | cases hbl; done | (simp [loV] at hp; exact .inl (by rw [hp]))))
    (by
      cases vh with
      | none => exact .inr ⟨rfl, by simp [hiV] at hq1; omega⟩
      | some v => cases v <;> first | cases hbh; done | (rename_i kk nn; cases kk <;> first | cases hbh; done | (simp [hiV] at hq1; exact .inl (by rw [hq1]))))
  refine wpList_plain rfl fun K' hK => ?_
  unfold Oper.wp
  have : (execOp a.eval ⟨some d, .slice T x lo hi none, ty, pos, af, none⟩).run P w = .ok (.value (s.sub R.sz p q).v) w := by
    simp [execOp, hf.ev hx, hf.evO hlo, hf.evO hhi, hrun]
  rw [this]
  refine hK _ _ (h _ _ _ (hf.put hd _) (hw.add_ro fun w' hw' => ?_))
  exact (hw.okr _ (Facts.perm_mem hk) w' hw').sub hpq hqx

/-! ### calls -/
theorem r_call {f : FuncId} {c : Operand} {as : List Operand} {ats : Array TypeId} {cv avs : List Value} {xs : List Ent} {rs : List Ent} {fs : List (World → Prop)} {X : Type} {V : X → Value} {post : X → List Ent} (ks : List Nat)
    (hcf : ∀ args w, (callFunc f args).run P w = .ok (.enter f args) w) (hc : ev l c = some (.func (.func f) #[] cv.toArray)) (ha : evA l as = some avs)
    (hctr : Ctr P f (avs ++ cv).toArray xs fs V post) (hp : picks ks es = some (xs, rs)) (hxs : noRo xs = true) (hfs : Facts rs fs) (hpost : ∀ x, noRo (post x) = true) (hd : Nat.blt d N.n = true)
    (h : ∀ x, LJ P Rp ops rest K N ((d, V x) :: l) (Sat w0 M A (post x ++ rs))) :
    LJ P Rp ops (⟨some d, .call { callee := .value c, args := as.toArray, argTypes := ats }, ty, pos, af, none⟩ :: rest) K N l (Sat w0 M A es) := by
  intro a w hf hw
  refine wpList_plain rfl fun K' hK => ?_
  unfold Oper.wp
  have h1 := hf.evA ha
  have : (execOp a.eval ⟨some d, .call { callee := .value c, args := as.toArray, argTypes := ats }, ty, pos, af, none⟩).run P w = .ok (.enter f (avs ++ cv).toArray) w := by
    simp [execOp, resolve, Deferred.ofValue, hf.ev hc, invoke, hcf, ← h1]
  rw [this]
  refine (hctr.use hw hp hxs hfs hpost).mono ?_
  rintro e w' ⟨q, rfl, hq⟩
  exact hK _ _ (h q _ _ (hf.put hd _) hq)

/-! ### a function's beginning and its ends -/
theorem ctr_mk {n : Nat} {f : FuncId} {fn : Func} {c : Code} {args : List Value} {xs : List Ent} {fs : List (World → Prop)} {X : Type} {V : X → Value} {post : X → List Ent} {vs : Fr} (hf : P.funcs[f]? = some fn) (hb : fn.body = some c) (hn : fn.ntmps = n)
    (hlen : Nat.ble args.length n = true) (hvs : SubA vs args)
    (h : ∀ w0 A, CJ P (bodyPost P fn fun e w' => ∃ x, e = .returned (V x) ∧ Sat w0 (keys xs) A (post x) w') c [] ⟨n, []⟩ vs (Sat w0 (keys xs) A (xs ++ fs.map Ent.ro))) :
    Ctr P f args.toArray xs fs V post := fun w A hs => calls_cj hf hb hn hlen hvs.look ((h w A).imp (fun w' e => by subst e; exact hs))
end
end Go.J
