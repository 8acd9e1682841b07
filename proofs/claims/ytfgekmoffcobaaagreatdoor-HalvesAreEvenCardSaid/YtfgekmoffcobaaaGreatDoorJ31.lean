/- J31: what the program does with a map whose values lead to more of ours: the rules. No program in sight. -/
import Derived.Test.YtfgekmoffcobaaaGreatDoorJ30
namespace Go.J
open Go Go.RowKit
set_option linter.unusedSimpArgs false
set_option linter.unusedSectionVars false
/-! ### rows as values -/
def rowE {α : Type} (R : Rep α) (xs : List α) (s : SV) : List Ent := [.row R s.v xs]
section
variable {P : Program} {Rp : Post} {Kk : List Lay} {N : NN} {l fr : Fr} {ops : Array Oper} {rest : List Oper} {d : Nat} {dd : Option Nat} {ty : Nat} {pos : String} {af : Array Edge} {g0 : Option (Nat × Bool)} {x y u : Operand} {T E Tk : TypeId} {c : Code}
variable {w0 : World} {M : List Nat} {A : Nat → Prop} {es rs : List Ent} {j b rb : Nat} {K X G : Type} [DecidableEq K] {kv : K → Value} {vv : G → Value} {ents : X → G → List Ent} {xs : List (K × X)} {Z : List (K × G)} {hol : Option K} {k : K} {z : G} {mes : Array MapEntry} {mcl : Nat}
theorem LJ.sat {H H' : World → Prop} (hs : ∀ w, H w → H' w) (h : LJ P Rp ops rest Kk N l H') : LJ P Rp ops rest Kk N l H := fun a w hf hw => h a w hf (hs w hw)
theorem CJ.sat {H H' : World → Prop} (hs : ∀ w, H w → H' w) (h : CJ P Rp c Kk N l H') : CJ P Rp c Kk N l H := fun a w hf hw => h a w hf (hs w hw)
theorem NJ.sat {H H' : World → Prop} (hs : ∀ w, H w → H' w) (h : NJ P Rp Kk N l H') : NJ P Rp Kk N l H := fun a w hf hw => h a w hf (hs w hw)
theorem Sat.pick {w : World} (h : Sat w0 M A es w) (ks : List Nat) {ys r : List Ent} (hp : J.picks ks es = some (ys, r)) : Sat w0 M A (ys ++ r) w := h.perm (picks_perm hp)
theorem r_mkmapF (kv : K → Value) (vv : G → Value) (ents : X → G → List Ent) (hd : Nat.blt d N.n = true) (h : ∀ b, LJ P Rp ops rest Kk N ((d, .map (some b)) :: l) (Sat w0 M A (.obj (famO kv vv ents b [] [] none #[] 0) :: es))) :
    LJ P Rp ops (⟨some d, .makeMap T none, ty, pos, af, none⟩ :: rest) Kk N l (Sat w0 M A es) := by
  intro a w hf hw
  refine wpList_plain rfl fun K' hK => ?_
  unfold Oper.wp
  have : (execOp a.eval ⟨some d, .makeMap T none, ty, pos, af, none⟩).run P w = .ok (.value (.map (some w.heap.size))) (w.alloc (.map #[] 0)) := by
    simp [execOp, Instr.makeMap]
  rw [this]
  refine hK _ _ (h _ _ _ (hf.put hd _) ?_)
  have hal := hw.allocO (.map #[] 0)
  refine Sat.swapO (b := w.heap.size) (j := 0) hal rfl rfl rfl (Chg.refl _ _) ?_
  exact ⟨⟨Go.heap_alloc_new w _, rfl, by simp [mpV], by simp, by simp⟩, rfl, by simp [famEs]⟩
theorem p_lkoF (hT : P.underlying T = some (.map Tk E)) (hK : KeyF P Tk kv) (hz : ∀ w, (zeroValue E).run P w = .ok (vv z) w) (hj : FactAt es (FamAt kv vv ents b xs Z hol mes mcl)) (hx : ev l x = some (.map (some b))) (hy : ev l y = some (kv k)) :
    PureOp P N ⟨dd, .lookup T x y true, ty, pos, af, g0⟩ l (Sat w0 M A es) (.tuple [vv ((lkM Z k).getD z), .bool (hasM xs k)].toArray) := fun a w hf hw => by
  have m := hj.get hw
  have h := p_lko (dd := dd) (ty := ty) (pos := pos) (af := af) (g := g0) (N := N) (w0 := w0) (M := M) (A := A) hT hK hz (hj.imp fun _ h => h.map) hx hy a w hf hw
  rw [m.has k] at h
  exact h
theorem p_lenF (hT : P.underlying T = some (.map Tk E)) (hj : FactAt es (FamAt kv vv ents b xs Z hol mes mcl)) (hx : ev l x = some (.map (some b))) :
    PureOp P N ⟨dd, .call { callee := .builtin .len, args := #[x], argTypes := #[T] }, ty, pos, af, g0⟩ l (Sat w0 M A es) (.int .i64 xs.length) := fun a w hf hw => by
  have m := hj.get hw
  have h := p_lenm (dd := dd) (ty := ty) (pos := pos) (af := af) (g := g0) (N := N) (w0 := w0) (M := M) (A := A) hT (hj.imp fun _ h => h.map) hx a w hf hw
  rw [m.len] at h
  exact h
/-- 'm[k] = v': what v leads to is the map's from now on -/
theorem r_mpuF {x1 : X} {g1 : G} (ks : List Nat) (hT : P.underlying T = some (.map Tk E)) (hK : KeyF P Tk kv) (hp : picks ks es = some (.obj (famO kv vv ents b xs Z hol mes mcl) :: ents x1 g1, rs)) (hh : hol = none ∨ hol = some k)
    (hx : ev l x = some (.map (some b))) (hy : ev l y = some (kv k)) (hu : ev l u = some (vv g1))
    (h : ∀ es' cl', LJ P Rp ops rest Kk N l (Sat w0 M A (.obj (famO kv vv ents b (putM xs k x1) (putM Z k g1) none es' cl') :: rs))) :
    LJ P Rp ops (⟨none, .mapUpdate T x y u, ty, pos, af, none⟩ :: rest) Kk N l (Sat w0 M A es) := by
  intro a w hf hw
  refine wpList_plain rfl fun K' hKk => ?_
  unfold Oper.wp
  have hw1 : Sat w0 M A (.obj (famO kv vv ents b xs Z hol mes mcl) :: (ents x1 g1 ++ rs)) w := hw.perm (picks_perm hp)
  have m : FamAt kv vv ents b xs Z hol mes mcl w := hw1.okx _ (List.mem_cons_self ..)
  have hw2 := hw1.famPend hh
  obtain ⟨es2, cl2, h1, h2⟩ := run_mapUpdate_own (P := P) (k := k) (v := vv g1) hT hK m.map
  have : (execOp a.eval ⟨none, .mapUpdate T x y u, ty, pos, af, none⟩).run P w = .ok .skip (w.putObj b (.map es2 cl2)) := by
    simp [execOp, hf.ev hx, hf.ev hy, hf.ev hu, h1]
  rw [this]
  rw [putM_map] at h2
  exact hKk _ _ (h es2 cl2 _ _ (hf.put_none undef) (hw2.famPut m.kys h2))
/-- an entry of a written-out map -/
theorem r_insF {x1 : X} {g1 : G} (ks : List Nat) (hT : P.underlying T = some (.map Tk E)) (hK : KeyF P Tk kv) (hp : picks ks es = some (.obj (famO kv vv ents b xs Z hol mes mcl) :: ents x1 g1, rs)) (hh : hol = none ∨ hol = some k)
    (hx : ev l x = some (.map (some b))) (hy : ev l y = some (kv k)) (hu : ev l u = some (vv g1))
    (h : ∀ es' cl', LJ P Rp ops rest Kk N l (Sat w0 M A (.obj (famO kv vv ents b (putM xs k x1) (putM Z k g1) none es' cl') :: rs))) :
    LJ P Rp ops (⟨none, .insert T x y u, ty, pos, af, none⟩ :: rest) Kk N l (Sat w0 M A es) := by
  intro a w hf hw
  refine wpList_plain rfl fun K' hKk => ?_
  unfold Oper.wp
  have hw1 : Sat w0 M A (.obj (famO kv vv ents b xs Z hol mes mcl) :: (ents x1 g1 ++ rs)) w := hw.perm (picks_perm hp)
  have m : FamAt kv vv ents b xs Z hol mes mcl w := hw1.okx _ (List.mem_cons_self ..)
  have hw2 := hw1.famPend hh
  obtain ⟨es2, cl2, h1, h2⟩ := run_mapUpdate_own (P := P) (k := k) (v := vv g1) hT hK m.map
  have : (execOp a.eval ⟨none, .insert T x y u, ty, pos, af, none⟩).run P w = .ok .skip (w.putObj b (.map es2 cl2)) := by
    simp [execOp, hf.ev hx, hf.ev hy, hf.ev hu, h1]
  rw [this]
  rw [putM_map] at h2
  exact hKk _ _ (h es2 cl2 _ _ (hf.put_none undef) (hw2.famPut m.kys h2))
end
/-! ### rows: read, taken out, given back -/
section
variable {w0 w : World} {M : List Nat} {A : Nat → Prop} {es rs : List Ent} {b : Nat} {K α : Type} [DecidableEq K] {kv : K → Value} {R : Rep α} {xs : List (K × List α)} {Z : List (K × SV)} {hol : Option K} {k : K} {mes : Array MapEntry} {mcl : Nat} {ys : List α}
theorem FamAt.row (m : FamAt kv SV.v (rowE R) b xs Z hol mes mcl w) (hh : hol ≠ some k) : w.ownsRow 0 R.T R.sz (SV.v ((lkM Z k).getD nilS)) ((lkM xs k).getD []).length (R.cells ((lkM xs k).getD [])) := by
  rcases m.lk k with ⟨h1, h2⟩ | ⟨y, g, h1, h2⟩
  · rw [h1, h2]; exact World.ownsRow_nil w 0 R.T R.sz
  · rw [h1, h2]
    refine m.own (.row R g.v y) ?_
    unfold famEs
    have hi := lkM_mem h1
    obtain ⟨i, hil, hie⟩ := List.getElem_of_mem hi
    have hzl : i < Z.length := by rw [m.len]; exact hil
    have hk : Z[i].1 = k := by
      have e1 : (xs.map Prod.fst)[i]'(by simpa using hil) = (Z.map Prod.fst)[i]'(by simpa using hzl) := by simp only [m.kys]
      simp only [List.getElem_map] at e1
      rw [← e1, hie]
    have hz : Z[i].2 = g := by
      have e2 : Z[i]? = some (k, Z[i].2) := by rw [List.getElem?_eq_getElem hzl, ← hk]
      have := lkM_some m.ndZ i e2
      rw [h2] at this
      exact (Option.some.inj this).symm
    refine List.mem_flatMap.2 ⟨(xs[i], Z[i]), List.mem_iff_getElem.2 ⟨i, by rw [List.length_zip]; omega, by rw [List.getElem_zip]⟩, ?_⟩
    rw [hie]
    simp only
    rw [if_neg hh, hz]
    exact List.mem_singleton.2 rfl
theorem FamAt.look (m : FamAt kv SV.v (rowE R) b xs Z none mes mcl w) (k : K) : RdS R (SV.v ((lkM Z k).getD nilS)) ((lkM xs k).getD []) w := RdS.of_row (m.row (by simp))
theorem Sat.takeR (h : Sat w0 M A es w) (j : Nat) (hp : pick1 es j = some (.obj (famO kv SV.v (rowE R) b xs Z none mes mcl), rs)) (k : K) :
    Sat w0 M A (.row R (SV.v ((lkM Z k).getD nilS)) ((lkM xs k).getD []) :: .obj (famO kv SV.v (rowE R) b xs Z (some k) mes mcl) :: rs) w := by
  have h1 := h.perm (pick1_perm hp)
  have m : FamAt kv SV.v (rowE R) b xs Z none mes mcl w := h1.okx _ (List.mem_cons_self ..)
  rcases m.lk k with ⟨h2, h3⟩ | ⟨x, g, h2, h3⟩
  · rw [h2, h3]
    refine Sat.nil_row ?_ R
    refine h1.front (a := [.obj (famO kv SV.v (rowE R) b xs Z none mes mcl)]) (a' := [.obj (famO kv SV.v (rowE R) b xs Z (some k) mes mcl)]) (rs := rs) ⟨[], ?_⟩ ?_ ?_
    · rw [keys_one, keys_one, List.append_nil]
      show (b :: keys (famEs (rowE R) xs Z none)).Perm (b :: keys (famEs (rowE R) xs Z (some k)))
      rw [famEs_none m.kys h2]
    · intro e he
      rw [List.mem_singleton.1 he]
      exact ⟨m.map, m.kys, fun e' he' => m.own e' (by rw [famEs_none m.kys h2]; exact he')⟩
    · intro F hF; simp at hF
  · rw [h2, h3]
    exact h1.famTake h2 h3 (fun F hF => by simp [rowE] at hF)
theorem Sat.giveR (h : Sat w0 M A es w) (ks : List Nat) (hp : J.picks ks es = some ([.obj (famO kv SV.v (rowE R) b xs Z (some k) mes mcl), .row R (SV.v ((lkM Z k).getD nilS)) ys], rs)) :
    Sat w0 M A (.obj (famO kv SV.v (rowE R) b (repM xs k ys) Z none mes mcl) :: rs) w := by
  have h1 : Sat w0 M A (.obj (famO kv SV.v (rowE R) b xs Z (some k) mes mcl) :: (.row R (SV.v ((lkM Z k).getD nilS)) ys :: rs)) w := h.perm (picks_perm hp)
  have m : FamAt kv SV.v (rowE R) b xs Z (some k) mes mcl w := h1.okx _ (List.mem_cons_self ..)
  rcases m.lk k with ⟨h2, h3⟩ | ⟨x, g, h2, h3⟩
  · rw [repM_none h2]
    refine Sat.front (a := [.obj (famO kv SV.v (rowE R) b xs Z (some k) mes mcl), .row R (SV.v ((lkM Z k).getD nilS)) ys]) (a' := [.obj (famO kv SV.v (rowE R) b xs Z none mes mcl)]) (rs := rs) h1 ⟨keys [.row R (SV.v ((lkM Z k).getD nilS)) ys], ?_⟩ ?_ ?_
    · rw [keys_cons, keys_one]
      show ((b :: keys (famEs (rowE R) xs Z (some k))) ++ _).Perm ((b :: keys (famEs (rowE R) xs Z none)) ++ _)
      rw [famEs_none m.kys h2]
    · intro e he
      rw [List.mem_singleton.1 he]
      exact ⟨m.map, m.kys, fun e' he' => m.own e' (by rw [← famEs_none m.kys h2]; exact he')⟩
    · intro F hF; simp at hF
  · rw [h3] at h1
    exact Sat.famGive (ents := rowE R) (x := ys) (g := g) h1 h3
/-- .. as it was -/
theorem Sat.giveR0 (h : Sat w0 M A es w) (ks : List Nat) (hp : J.picks ks es = some ([.obj (famO kv SV.v (rowE R) b xs Z (some k) mes mcl), .row R (SV.v ((lkM Z k).getD nilS)) ((lkM xs k).getD [])], rs)) :
    Sat w0 M A (.obj (famO kv SV.v (rowE R) b xs Z none mes mcl) :: rs) w := by
  have h1 := h.giveR ks hp
  have m : FamAt kv SV.v (rowE R) b (repM xs k ((lkM xs k).getD [])) Z none mes mcl w := h1.okx _ (List.mem_cons_self ..)
  have hk : (xs.map Prod.fst).Nodup := by
    have := m.kys
    rw [repM_keys] at this
    rw [this]; exact m.ndZ
  have e : repM xs k ((lkM xs k).getD []) = xs := by
    cases hl : lkM xs k with
    | none => exact repM_none hl _
    | some v => exact repM_same hk hl
  rwa [e] at h1
end
end Go.J
