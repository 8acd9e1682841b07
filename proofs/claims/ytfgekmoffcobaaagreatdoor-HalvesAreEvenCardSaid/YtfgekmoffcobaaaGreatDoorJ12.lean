/- J12: data with depth, as pairs of a datum and its headers; cuts as plain operations; strings. No program in sight. -/
import Derived.Test.YtfgekmoffcobaaaGreatDoorJ10
import Derived.Lib.LazyBuf
namespace Go.J
open Go Go.RowKit
/-- how data with slices in them lie in memory: beside a datum stand its headers -/
structure Nst (α G : Type) where
  R : Rep (α × G)
  inn : α × G → World → Prop
/-- the data, and the data with their headers -/
def Lk {α G : Type} (D : Nst α G) (xs : List α) (xg : List (α × G)) (w : World) : Prop := xg.map Prod.fst = xs ∧ ∀ p, p ∈ xg → D.inn p w
section
variable {α G : Type} {D : Nst α G} {xs ys qs : List α} {xg yg qg : List (α × G)} {w : World} {x : α} {g : G} {i : Nat}
theorem Lk.at_ {p : α × G} (h : Lk D xs xg w) (hi : xg[i]? = some p) : D.inn p w := h.2 p (List.mem_of_getElem? hi)
theorem Lk.nil : Lk D [] [] w := ⟨rfl, fun p hp => by cases hp⟩
theorem Lk.cons (h1 : D.inn (x, g) w) (h : Lk D xs xg w) : Lk D (x :: xs) ((x, g) :: xg) w := ⟨by simp [h.1], fun p hp => by
  rcases List.mem_cons.1 hp with h2 | h2
  · subst h2; exact h1
  · exact h.2 p h2⟩
theorem Lk.app {by_ : Nat} (hq : appM by_ xs ys = some qs) (h1 : Lk D xs xg w) (h2 : Lk D ys yg w) : Lk D qs (xg ++ yg) w := by
  obtain ⟨rfl, -⟩ := appM_spec hq
  exact ⟨by rw [List.map_append, h1.1, h2.1], fun p hp => by
    rcases List.mem_append.1 hp with h | h
    · exact h1.2 p h
    · exact h2.2 p h⟩
theorem Lk.set (h : Lk D xs xg w) (h1 : D.inn (x, g) w) : Lk D (xs.set i x) (xg.set i (x, g)) w := ⟨by rw [List.map_set, h.1], fun p hp => by
  rcases List.mem_or_eq_of_mem_set hp with h2 | h2
  · exact h.2 p h2
  · subst h2; exact h1⟩
theorem Lk.sub (h : Lk D xs xg w) (hL : qg.map Prod.fst = qs) (hs : ∀ p, p ∈ qg → p ∈ xg) : Lk D qs qg w := ⟨hL, fun p hp => h.2 p (hs p hp)⟩
theorem lk_get (hL : xg.map Prod.fst = xs) (h : xs[i]? = some x) : ∃ g, xg[i]? = some (x, g) := by
  subst hL
  rw [List.getElem?_map] at h
  cases hx : xg[i]? with
  | none => rw [hx] at h; cases h
  | some p => rw [hx] at h; cases h; exact ⟨p.2, rfl⟩
theorem lk_getI {m : Int} (hL : xg.map Prod.fst = xs) (h : getI xs m = some x) : ∃ g, getI xg m = some (x, g) := by
  unfold getI at h ⊢
  split at h
  · rename_i h0
    rw [if_pos h0]
    exact lk_get hL h
  · cases h
theorem lk_len (hL : xg.map Prod.fst = xs) : xg.length = xs.length := by rw [← hL, List.length_map]
theorem lk_app {by_ : Nat} (hq : appM by_ xs ys = some qs) (h1 : xg.map Prod.fst = xs) (h2 : yg.map Prod.fst = ys) : appM by_ xg yg = some (xg ++ yg) := by
  subst h1 h2
  unfold appM at hq ⊢
  simp only [List.length_map] at hq
  split at hq
  · rename_i h; rw [if_pos h]
  · cases hq
theorem lk_app2 {by_ : Nat} (hq : appM by_ xs ys = some qs) (h1 : xg.map Prod.fst = xs) (h2 : yg.map Prod.fst = ys) : (xg ++ yg).map Prod.fst = qs := by
  obtain ⟨rfl, -⟩ := appM_spec hq
  rw [List.map_append, h1, h2]
theorem lk_set (hL : xg.map Prod.fst = xs) : (xg.set i (x, g)).map Prod.fst = xs.set i x := by rw [List.map_set, hL]
theorem lk_cut {a b : Int} (hL : xg.map Prod.fst = xs) (hq : sliceI xs a b = some qs) : ∃ qg, sliceI xg a b = some qg ∧ qg.map Prod.fst = qs ∧ ∀ p, p ∈ qg → p ∈ xg := by
  subst hL
  obtain ⟨p, q, rfl, rfl, hpq, hq', rfl⟩ := sliceI_spec hq
  rw [List.length_map] at hq'
  refine ⟨(xg.drop p).take (q - p), ?_, by rw [List.map_take, List.map_drop], fun e he => List.mem_of_mem_drop (List.mem_of_mem_take he)⟩
  unfold sliceI
  rw [if_pos (by omega)]
  simp
/-- cuts -/
theorem RdS.cut {R : Rep α} {s : SV} {lo hi : Int} (h : RdS R s.v xs w) (hq : sliceI xs lo hi = some qs) : RdS R (s.sub R.sz lo.toNat hi.toNat).v qs w := by
  obtain ⟨p, q, rfl, rfl, hpq, hqx, rfl⟩ := sliceI_spec hq
  exact h.sub hpq hqx
theorem FactAt.nilS {es : List Ent} (R : Rep α) : FactAt es (RdS R (SV.v nilS) []) := .imp (.tru trivial) fun w _ => RdS.nil R w
theorem FactRo.nilS {es : List Ent} (R : Rep α) : FactRo es (RdS R (SV.v nilS) []) := .imp (.tru trivial) fun w _ => RdS.nil R w
theorem FactAt.nilL {es : List Ent} (D : Nst α G) : FactAt es (Lk D [] []) := .imp (.tru trivial) fun _ _ => Lk.nil
theorem FactRo.nilL {es : List Ent} (D : Nst α G) : FactRo es (Lk D [] []) := .imp (.tru trivial) fun _ _ => Lk.nil
theorem FactRo.at_ {es : List Ent} {F : World → Prop} (h : FactRo es F) : FactAt es F := by
  induction h with
  | ro j h => exact .ro j h
  | der _ h ih => exact .der ih h
theorem appM_nn (by_ : Nat) : appM by_ ([] : List α) [] = some [] := by simp [appM]
end
/-- a block as it lies -/
def BoxS (b : Nat) (T : TypeId) (cs : List Value) (w : World) : Prop := w.heap[b]? = some (.cells cs.toArray T (0, 0))
/-! ### rows of ours, cut from the front -/
section
variable {w0 w : World} {M : List Nat} {A : Nat → Prop} {es : List Ent} {α : Type} {R : Rep α} {s : SV} {xs qs : List α} {lo hi : Int}
theorem Sat.pre (h : Sat w0 M A es w) {k : Nat} (hk : nth es k = some (.row R s.v xs)) (hlo : lo = 0) (hq : sliceI xs lo hi = some qs) : Sat w0 M A (setN es k (.row R (s.sub R.sz lo.toNat hi.toNat).v qs)) w := by
  obtain ⟨p, q, hp, rfl, hpq, hqx, rfl⟩ := sliceI_spec hq
  have hp0 : p = 0 := by omega
  subst hp0 hp
  have hrow := h.row hk
  have hlen : ((xs.drop 0).take (q - 0)).length = q := by simp; omega
  have hsub : ∀ m, (s.sub R.sz 0 m) = ⟨s.a, m, s.c⟩ := by
    intro m
    unfold SV.sub
    cases ha : s.a with
    | none => simp
    | some ad => by_cases hc : s.c = 0 <;> simp [Addr.add] <;> (cases ad; simp_all)
  have hsv : (s.sub R.sz (((0 : Nat) : Int)).toNat ((q : Nat) : Int).toNat).v = .slice s.a q s.c := by
    show (s.sub R.sz 0 q).v = _
    rw [hsub]
  rw [hsv]
  refine h.swap hk ?_ ?_ ?_ (fun F hF => by cases hF)
  · exact ⟨rfl, rfl, rfl, Nat.le_refl _, fun _ _ _ => rfl⟩
  · rcases hrow.2 with ⟨h1, h2⟩ | ⟨g, cap, cur, h1, hbg, hg, hn, hcm, hcs, ht⟩
    · injection h1 with h3 h4 h5
      have hx : xs = [] := List.eq_nil_of_length_eq_zero h2
      subst hx
      have hq0 : q = 0 := by simpa using hqx
      subst hq0
      have := World.ownsRow_nil w 0 R.T R.sz
      rw [h3, h5]
      simpa [Ent.okx, Rep.cells] using this
    · injection h1 with h3 h4 h5
      refine ⟨R.cells_len _, .inr ⟨g, cap, cur, by rw [hlen, h3, h5], hbg, hg, by rw [hlen]; omega, hcm, hcs, ?_⟩⟩
      have e1 : R.cells xs = R.cells ((xs.drop 0).take (q - 0)) ++ R.cells (xs.drop q) := by
        rw [← R.cells_append]; simp
      rw [hlen]
      have e2 : (R.cells ((xs.drop 0).take (q - 0))).length = q * R.sz := by rw [R.cells_len, hlen]
      have e3 : q * R.sz ≤ xs.length * R.sz := Nat.mul_le_mul_right _ hqx
      have := congrArg (List.take (q * R.sz)) ht
      rw [List.take_take, Nat.min_eq_left e3, e1] at this
      rw [this, ← e2, List.take_left]
  · intro b hb
    have hb' : (Value.slice s.a q s.c).ownBlock = some b := hb
    have : Ent.key (.row R s.v xs) = some b := by
      show s.v.ownBlock = some b
      cases ha : s.a with
      | none => rw [ha] at hb'; cases hb'
      | some ad =>
        rw [ha] at hb'
        simpa [SV.v, ha, Value.ownBlock] using hb'
    exact ⟨(World.ownsRow.lt hrow b this).2, .inr this⟩
end
section
variable {P : Program} {Rp : Post} {K : List Lay} {N : NN} {l : Fr} {ops : Array Oper} {rest : List Oper} {d : Nat} {dd : Option Nat} {ty : Nat} {pos : String} {af : Array Edge} {g : Option (Nat × Bool)} {x y : Operand} {v : Value} {T E : TypeId} {c : Code}
variable {w0 : World} {M : List Nat} {A : Nat → Prop} {es : List Ent} {α G : Type} {R : Rep α} {s : SV} {xs qs : List α} {e : α} {i o j k b off : Nat} {sz by_ : Nat} {zs cs vs : List Value} {m n : Int} {lo hi : Int} {st t : ByteArray} {kk : IntKind}
theorem r_pre (k : Nat) (hk : nth es k = some (.row R s.v xs)) (hlo : lo = 0) (hq : sliceI xs lo hi = some qs) (h : LJ P Rp ops rest K N l (Sat w0 M A (setN es k (.row R (s.sub R.sz lo.toNat hi.toNat).v qs)))) : LJ P Rp ops rest K N l (Sat w0 M A es) := fun a w hf hw => h a w hf (hw.pre hk hlo hq)
theorem cj_pre (k : Nat) (hk : nth es k = some (.row R s.v xs)) (hlo : lo = 0) (hq : sliceI xs lo hi = some qs) (h : CJ P Rp c K N l (Sat w0 M A (setN es k (.row R (s.sub R.sz lo.toNat hi.toNat).v qs)))) : CJ P Rp c K N l (Sat w0 M A es) := fun a w hf hw => h a w hf (hw.pre hk hlo hq)
theorem nj_pre (k : Nat) (hk : nth es k = some (.row R s.v xs)) (hlo : lo = 0) (hq : sliceI xs lo hi = some qs) (h : NJ P Rp K N l (Sat w0 M A (setN es k (.row R (s.sub R.sz lo.toNat hi.toNat).v qs)))) : NJ P Rp K N l (Sat w0 M A es) := fun a w hf hw => h a w hf (hw.pre hk hlo hq)
/-- the length of a slice with depth -/
theorem p_lenG {R : Rep (α × G)} {xg : List (α × G)} (hL : xg.map Prod.fst = xs) (hT : P.underlying T = some (.slice E)) (hx : ev l x = some s.v) (hr : FactAt es (RdS R s.v xg)) :
    PureOp P N ⟨dd, .call { callee := .builtin .len, args := #[x], argTypes := #[T] }, ty, pos, af, g⟩ l (Sat w0 M A es) (.int .i64 xs.length) := by
  rw [← lk_len hL]
  exact p_len hT hx hr
/-- a cut of a slice -/
theorem p_cut {ag : Bool} {ol oh : Option Operand} {vl vh : Option Value} (hT : P.underlying T = some (.slice R.T)) (hE : TyF P R.T ag R.sz by_ zs) (hx : ev l x = some s.v) (hlo : evO l ol = some vl) (hhi : evO l oh = some vh)
    (hbl : boundV vl = true) (hbh : boundV vh = true) (hk : FactAt es (RdS R s.v xs)) (hl : loV vl = lo) (hh : hiV vh xs.length = hi) (hq : sliceI xs lo hi = some qs) :
    PureOp P N ⟨dd, .slice T x ol oh none, ty, pos, af, g⟩ l (Sat w0 M A es) (s.sub R.sz lo.toNat hi.toNat).v := fun a w hf hw => by
  subst hl hh
  obtain ⟨p, q, hp, hq1, hpq, hqx, rfl⟩ := sliceI_spec hq
  have hrun := run_sliceAt (P := P) (T := T) (lo := vl) (hi := vh) hT hE (hk.get hw) hpq hqx
    (by
      cases vl with
      | none => exact .inr ⟨rfl, by simp [loV] at hp; omega⟩
      | some v => cases v <;> first | cases hbl; done | (rename_i kk nn; cases kk <;> first | cases hbl; done | (simp [loV] at hp; exact .inl (by rw [hp]))))
    (by
      cases vh with
      | none => exact .inr ⟨rfl, by simp [hiV] at hq1; omega⟩
      | some v => cases v <;> first | cases hbh; done | (rename_i kk nn; cases kk <;> first | cases hbh; done | (simp [hiV] at hq1; exact .inl (by rw [hq1]))))
  rw [hp, hq1]
  simp only [Int.toNat_natCast]
  simp [execOp, hf.ev hx, hf.evO hlo, hf.evO hhi, hrun]
theorem p_cutN {H : World → Prop} {ol oh : Option Operand} {vl vh : Option Value} {ag : Bool} (R : Rep α) (hT : P.underlying T = some (.slice R.T)) (hE : TyF P R.T ag R.sz by_ zs) (hx : ev l x = some (SV.v nilS)) (hlo : evO l ol = some vl) (hhi : evO l oh = some vh)
    (hbl : boundV vl = true) (hbh : boundV vh = true) (hl : loV vl = lo) (hh : hiV vh 0 = hi) (hq : sliceI ([] : List α) lo hi = some qs) :
    PureOp P N ⟨dd, .slice T x ol oh none, ty, pos, af, g⟩ l H (SV.v nilS) := fun a w hf hw => by
  subst hl hh
  obtain ⟨p, q, hp, hq1, hpq, hqx, rfl⟩ := sliceI_spec hq
  simp at hqx
  subst hqx
  have hp0 : p = 0 := by omega
  subst hp0
  have hrun := run_sliceAt (P := P) (T := T) (lo := vl) (hi := vh) (a := 0) (b := 0) hT hE (RdS.nil R w) (Nat.le_refl _) (Nat.le_refl _)
    (by
      cases vl with
      | none => exact .inr ⟨rfl, rfl⟩
      | some v => cases v <;> first | cases hbl; done | (rename_i kk nn; cases kk <;> first | cases hbl; done | (simp [loV] at hp; exact .inl (by rw [hp]; rfl))))
    (by
      cases vh with
      | none => exact .inr ⟨rfl, rfl⟩
      | some v => cases v <;> first | cases hbh; done | (rename_i kk nn; cases kk <;> first | cases hbh; done | (simp [hiV] at hq1; exact .inl (by rw [hq1]; rfl))))
  have : (nilS.sub R.sz 0 0).v = SV.v nilS := rfl
  rw [this] at hrun
  simp [execOp, hf.ev hx, hf.evO hlo, hf.evO hhi, hrun]
/-- a slice held against nil -/
theorem p_eqnil {T' : TypeId} {H : World → Prop} (hT : P.underlying T = some (.slice E)) (hx : ev l x = some s.v) (hy : ev l y = some (.slice none 0 0)) : PureOp P N ⟨dd, .binOp .eql T x y T', ty, pos, af, g⟩ l H (.bool s.a.isNone) := p_bin hx hy fun w => by
  have h1 := Lib.run_equalIn_slice_nil (P := P) w 9999 T E s.a s.n s.c 0 0 hT
  have h2 : (eqGuard .eql T x y s.v (.slice none 0 0)).run P w = .ok () w := by simp [eqGuard]
  simp only [SV.v] at h2 ⊢
  simp [h2, binOp, Op.equal, Op.maxDepth, h1]
theorem RdS.nil_of {R : Rep α} {w : World} (h : RdS R s.v xs w) (hb : s.a.isNone = true) : xs = [] := by
  rcases h.2 with ⟨h2, _⟩ | ⟨b, off, cap, h1, _⟩
  · exact h2
  · injection h1 with h5 h6 h7
    rw [h5] at hb
    cases hb
theorem lk_nil {xg : List (α × G)} (hL : xg.map Prod.fst = xs) (h : xg = []) : xs = [] := by subst h; exact hL.symm
/-- a whole element with depth -/
theorem p_leaN (hE : TyF P T true R.sz by_ zs) (hx : ev l x = some (s.p (i * R.sz))) (hr : FactAt es (RdS R s.v xs)) (he : xs[i]? = some e) (hv : R.enc e = cs) :
    PureOp P N ⟨dd, .load T x, ty, pos, af, g⟩ l (Sat w0 M A es) (.agg cs.toArray) := by subst hv; exact p_lea hE hx hr he
/-- a struct in an element -/
theorem p_lep {q : Nat} (hE : TyF P T true sz by_ zs) (hx : ev l x = some (s.p q)) (hq : q = i * R.sz + o) (hr : FactAt es (RdS R s.v xs)) (he : xs[i]? = some e) (hv : cut (R.enc e) o sz = vs) (hl : Nat.ble (o + sz) (R.enc e).length = true) :
    PureOp P N ⟨dd, .load T x, ty, pos, af, g⟩ l (Sat w0 M A es) (.agg vs.toArray) := fun a w hf hw => by
  subst hq hv
  obtain ⟨b, off, ha, hc⟩ := (hr.get hw).at_ he
  have hl' : o + sz ≤ (R.enc e).length := by simpa [Nat.ble_eq] using hl
  have h : (loadVar T ⟨b, off + (i * R.sz + o), none⟩).run P w = .ok (.agg (cut (R.enc e) o sz).toArray) w := run_loadVar_a hE (by rw [cut_eq]; simp; omega) fun j v hv => by
    rw [add_at, show off + (i * R.sz + o) + j = off + (i * R.sz + (o + j)) by omega]
    apply hc
    rw [cut_eq, List.getElem?_take] at hv
    split at hv
    · simpa using hv
    · cases hv
  simp [execOp, hf.ev hx, Instr.loadAt, Instr.sureAddr, SV.p, SV.at_, ha, h]
/-! ### strings -/
def strI (s : ByteArray) (i : Int) : Option Int := if 0 ≤ i then (s[i.toNat]?).map fun b => (b.toNat : Int) else none
def strS (s : ByteArray) (lo hi : Int) : Option ByteArray := if 0 ≤ lo ∧ lo ≤ hi ∧ hi ≤ s.size then some (s.extract lo.toNat hi.toNat) else none
theorem p_stri (hT : P.underlying T = some .string) (hx : ev l x = some (.string st)) (hy : ev l y = some (.int kk m)) {H : World → Prop} (h : strI st m = some n) : PureOp P N ⟨dd, .index T x y, ty, pos, af, g⟩ l H (.int .u8 n) := fun a w hf _ => by
  unfold strI at h
  split at h
  · rename_i h0
    cases hb : st[m.toNat]? with
    | none => rw [hb] at h; cases h
    | some b =>
      rw [hb] at h
      cases h
      simp [execOp, hf.ev hx, hf.ev hy, Instr.index, asIntOf, run_underlying hT, h0, hb]
  · cases h
theorem p_strs {ol oh : Option Operand} {vl vh : Option Value} {H : World → Prop} (hT : P.underlying T = some .string) (hx : ev l x = some (.string st)) (hlo : evO l ol = some vl) (hhi : evO l oh = some vh)
    (hbl : boundV vl = true) (hbh : boundV vh = true) (hl : loV vl = lo) (hh : hiV vh st.size = hi) (hq : strS st lo hi = some t) :
    PureOp P N ⟨dd, .slice T x ol oh none, ty, pos, af, g⟩ l H (.string t) := fun a w hf hw => by
  unfold strS at hq
  split at hq
  · rename_i h0
    cases hq
    obtain ⟨h1, h2, h3⟩ := h0
    subst hl hh
    have hb : (Instr.sliceBounds false st.size st.size vl vh none).run P w = .ok ((loV vl).toNat, (hiV vh st.size).toNat, st.size) w := by
      unfold Instr.sliceBounds
      cases vl with
      | none =>
        cases vh with
        | none => simp [loV, hiV]
        | some v =>
          cases v <;> first | cases hbh; done | skip
          rename_i kk nn
          cases kk <;> first | cases hbh; done | skip
          simp only [loV, hiV] at h1 h2 h3 ⊢
          obtain ⟨q, rfl⟩ := Int.eq_ofNat_of_zero_le h2
          have := fun code => run_sliceBound (P := P) (w := w) (i := q) (y := st.size) (code := code) (by omega)
          simp [this]
      | some u =>
        cases u <;> first | cases hbl; done | skip
        rename_i kk nn
        cases kk <;> first | cases hbl; done | skip
        cases vh with
        | none =>
          simp only [loV, hiV] at h1 h2 h3 ⊢
          obtain ⟨q, rfl⟩ := Int.eq_ofNat_of_zero_le h1
          have := fun code => run_sliceBound (P := P) (w := w) (i := q) (y := st.size) (code := code) (by omega)
          simp [this]
        | some v =>
          cases v <;> first | cases hbh; done | skip
          rename_i kk nn2
          cases kk <;> first | cases hbh; done | skip
          simp only [loV, hiV] at h1 h2 h3 ⊢
          obtain ⟨q, rfl⟩ := Int.eq_ofNat_of_zero_le h1
          obtain ⟨q2, rfl⟩ := Int.eq_ofNat_of_zero_le (Int.le_trans h1 h2)
          have e1 := fun code => run_sliceBound (P := P) (w := w) (i := q2) (y := st.size) (code := code) (by omega)
          have e2 := fun code => run_sliceBound (P := P) (w := w) (i := q) (y := q2) (code := code) (by omega)
          simp [Sem.run_bind, e1, e2]
    simp [execOp, hf.ev hx, hf.evO hlo, hf.evO hhi, Instr.sliceAt, Instr.slice, Sem.run_bind, run_underlying hT, hb]
  · cases hq
end
end Go.J
