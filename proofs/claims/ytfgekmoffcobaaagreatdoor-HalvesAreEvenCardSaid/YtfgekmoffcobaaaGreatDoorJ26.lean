/- J26: 'for k, v := range m': the rules. No program in sight. -/
import Derived.Test.YtfgekmoffcobaaaGreatDoorJ25
namespace Go.J
open Go Go.RowKit
set_option linter.unusedSimpArgs false
set_option linter.unusedSectionVars false
section
variable {P : Program} {K : Type} [DecidableEq K] {kv : K → Value} {b r : Nat} {l : List (K × Value)} {es : Array MapEntry} {clock : Nat} {w : World}
theorem run_entry_own (m : MapAt kv b l es clock w) {idx : List Nat} {i : Nat} {k : K} {v : Value} (hit : w.heap[r]? = some (itObj b es clock (idx ++ [i]))) (hi : l[i]? = some (k, v)) :
    (Instr.entry (.pointer (some ⟨r, 0, none⟩))).run P w = .ok (.tuple #[kv k, v]) w := by
  have hget : (getObj r).run P w = .ok (itObj b es clock (idx ++ [i])) w := by simp [getObj, Sem.run, hit, itObj]
  have hgm := MapKept.run_getObj_map (P := P) m.heap
  obtain ⟨e, he, hk, hv⟩ := m.entry hi
  have he' : es[i]? = some e := by simpa using he
  have hb : bornOf es i = e.born := by unfold bornOf; rw [he']; rfl
  have hfind : es.find? (fun x => x.born == e.born) = some e := by
    rw [Array.find?_eq_some_iff_getElem]
    obtain ⟨hlt, hge⟩ := Array.getElem?_eq_some_iff.1 he'
    refine ⟨by simp, i, hlt, hge, fun j hj => ?_⟩
    have hjs : j < es.size := by omega
    have : es[j].born ≠ e.born := fun h => by
      have h1 : bornOf es j = bornOf es i := by rw [hb]; unfold bornOf; rw [Array.getElem?_eq_getElem hjs]; exact h
      have := m.bornOf_inj hjs hlt h1
      omega
    simpa using this
  have hback : ((idx ++ [i]).map (bornOf es)).toArray.back? = some e.born := by
    rw [List.map_append, List.map_cons, List.map_nil, hb]
    simp
  simp only [itObj] at hget
  unfold Instr.entry
  simp only [Sem.run_bind, hget, Result.andThen_ok, hback, hgm, bne_self_eq_false, Bool.false_eq_true, if_false, hfind]
  rw [← hk, ← hv]; rfl
end
theorem FactAt.cons1 {es : List Ent} {F : World → Prop} {e : Ent} (h : FactAt es F) : FactAt (e :: es) F := by
  induction h with
  | ro j h => exact .ro (j + 1) h
  | row j h => exact .row (j + 1) h
  | box j h => exact .box (j + 1) h
  | obj j h => exact .obj (j + 1) h
  | der _ h ih => exact .der ih h
/-- the entries that were met, in the order in which they were met -/
def met {α : Type} (L : List α) (idx : List Nat) : List α := idx.filterMap (L[·]?)
theorem met_snoc {α : Type} {L : List α} {idx : List Nat} {i : Nat} {x : α} (h : L[i]? = some x) : met L (idx ++ [i]) = met L idx ++ [x] := by
  unfold met
  rw [List.filterMap_append]
  simp [h]
theorem met_range {α : Type} (L : List α) : met L (List.range L.length) = L := by
  unfold met
  induction L with
  | nil => rfl
  | cons x L ih =>
    rw [List.length_cons, List.range_succ_eq_map, List.filterMap_cons]
    simp only [List.getElem?_cons_zero, List.filterMap_map]
    rw [show ((fun i => (x :: L)[i]?) ∘ Nat.succ) = fun i => L[i]? from funext fun i => by simp]
    exact congrArg (x :: ·) ih
theorem met_perm {α : Type} {L : List α} {idx jdx : List Nat} (h : idx.Perm jdx) : (met L idx).Perm (met L jdx) := h.filterMap _
theorem met_append {α : Type} (L : List α) (a b : List Nat) : met L (a ++ b) = met L a ++ met L b := List.filterMap_append ..
/-- what is left can be added -/
theorem met_rest {α : Type} (L : List α) {idx : List Nat} (hn : idx.Nodup) (hlt : ∀ i ∈ idx, i < L.length) : (met L idx ++ met L ((List.range L.length).filter fun i => !decide (i ∈ idx))).Perm L := by
  have hp : (idx ++ (List.range L.length).filter fun i => !decide (i ∈ idx)).Perm (List.range L.length) := by
    rw [List.perm_ext_iff_of_nodup]
    · intro a
      simp only [List.mem_append, List.mem_filter, List.mem_range, Bool.not_eq_true', decide_eq_false_iff_not]
      constructor
      · rintro (h | h)
        · exact hlt a h
        · exact h.1
      · intro h
        by_cases ha : a ∈ idx
        · exact .inl ha
        · exact .inr ⟨h, ha⟩
    · rw [List.nodup_append]
      refine ⟨hn, List.Pairwise.filter _ List.nodup_range, fun a ha c hc => ?_⟩
      simp only [List.mem_filter, Bool.not_eq_true', decide_eq_false_iff_not] at hc
      exact fun e => hc.2 (e ▸ ha)
    · exact List.nodup_range
  rw [← met_append]
  exact (met_perm hp).trans (by rw [met_range])
section
variable {P : Program} {R : Post} {Kk : List Lay} {N : NN} {fr l : Fr} {ops : Array Oper} {rest : List Oper} {d : Nat} {dd : Option Nat} {ty : Nat} {pos : String} {af : Array Edge} {g : Option (Nat × Bool)} {x y u : Operand} {T E Tk : TypeId} {c : Code}
variable {w0 : World} {M : List Nat} {A : Nat → Prop} {es : List Ent} {j k b rb : Nat} {K V : Type} [DecidableEq K] {kv : K → Value} {vv : V → Value} {L : List (K × V)} {v z : V} {mes : Array MapEntry} {mcl : Nat}
/-- 'range m' -/
theorem r_rng (hT : P.underlying T = some (.map Tk E)) (hM : FactAt es (MapAt kv b (mpV vv L) mes mcl)) (hx : ev l x = some (.map (some b))) (hd : Nat.blt d N.n = true)
    (h : ∀ rb, rb ≠ b → LJ P R ops rest Kk N ((d, .pointer (some ⟨rb, 0, none⟩)) :: l) (Sat w0 M A (.obj (oneO rb (itObj b mes mcl [])) :: es))) :
    LJ P R ops (⟨some d, .range T x, ty, pos, af, none⟩ :: rest) Kk N l (Sat w0 M A es) := by
  intro a w hf hw
  refine wpList_plain rfl fun K' hK => ?_
  unfold Oper.wp
  have m := hM.get hw
  have hlt : b < w.heap.size := (Array.getElem?_eq_some_iff.1 m.heap).1
  have : (execOp a.eval ⟨some d, .range T x, ty, pos, af, none⟩).run P w = .ok (.value (.pointer (some ⟨w.heap.size, 0, none⟩))) (w.alloc (itObj b mes mcl [])) := by
    simp [execOp, hf.ev hx, Instr.range, run_underlying hT, MapKept.run_getObj_map m.heap, itObj]
  rw [this]
  exact hK _ _ (h w.heap.size (by omega) _ _ (hf.put hd _) (hw.allocO (itObj b mes mcl [])))
theorem p_ent {idx : List Nat} {i : Nat} {kk : K} (hM : FactAt es (MapAt kv b (mpV vv L) mes mcl)) (hk : nth es k = some (.obj (oneO rb (itObj b mes mcl (idx ++ [i]))))) (hi : L[i]? = some (kk, v)) (hx : ev l x = some (.pointer (some ⟨rb, 0, none⟩))) :
    PureOp P N ⟨dd, .entry x, ty, pos, af, g⟩ l (Sat w0 M A es) (.tuple [kv kk, vv v].toArray) := fun a w hf hw => by
  have m := hM.get hw
  have hit : w.heap[rb]? = some (itObj b mes mcl (idx ++ [i])) := hw.objAt hk
  have hi' : (mpV vv L)[i]? = some (kk, vv v) := by unfold mpV; rw [List.getElem?_map, hi]; rfl
  have h := run_entry_own (P := P) m hit hi'
  simp [execOp, hf.ev hx, h]
theorem r_next {idx : List Nat} (hM : FactAt es (MapAt kv b (mpV vv L) mes mcl)) (hk : nth es k = some (.obj (oneO rb (itObj b mes mcl idx)))) (hrb : rb ≠ b) (hlt : ∀ i ∈ idx, i < L.length) (hx : ev l x = some (.pointer (some ⟨rb, 0, none⟩))) (hd : Nat.blt d N.n = true)
    (h0 : (∀ i, i < L.length → i ∈ idx) → LJ P R ops rest Kk N ((d, .tuple [.bool false].toArray) :: l) (Sat w0 M A es))
    (h1 : ∀ i kk v, i ∉ idx → L[i]? = some (kk, v) → LJ P R ops rest Kk N ((d, .tuple [.bool true, kv kk, vv v].toArray) :: l) (Sat w0 M A (setN es k (.obj (oneO rb (itObj b mes mcl (idx ++ [i]))))))) :
    LJ P R ops (⟨some d, .next x false, ty, pos, af, none⟩ :: rest) Kk N l (Sat w0 M A es) := by
  intro a w hf hw
  refine wpList_plain rfl fun K' hK => ?_
  unfold Oper.wp
  have m := hM.get hw
  have hit : w.heap[rb]? = some (itObj b mes mcl idx) := hw.objAt hk
  have hlen : (mpV vv L).length = L.length := by simp [mpV]
  rcases run_next_own (P := P) m hrb hit (by rw [hlen]; exact hlt) ty with ⟨hall, hrun⟩ | ⟨i, kk, v', w', hni, hli, hww, hrun⟩
  · have : (execOp a.eval ⟨some d, .next x false, ty, pos, af, none⟩).run P w = .ok (.value (.tuple #[.bool false])) w := by
      simp [execOp, hf.ev hx, hrun]
    rw [this]
    exact hK _ _ (h0 (by rw [hlen] at hall; exact hall) _ _ (hf.put hd _) hw)
  · have hli' : ∃ v, L[i]? = some (kk, v) ∧ v' = vv v := by
      unfold mpV at hli
      rw [List.getElem?_map] at hli
      cases hL : L[i]? with
      | none => rw [hL] at hli; cases hli
      | some p =>
        rw [hL] at hli
        simp at hli
        exact ⟨p.2, by rw [← hli.1], hli.2.symm⟩
    obtain ⟨v, hv1, rfl⟩ := hli'
    have : (execOp a.eval ⟨some d, .next x false, ty, pos, af, none⟩).run P w = .ok (.value (.tuple #[.bool true, kv kk, vv v])) (w'.putObj rb (itObj b mes mcl (idx ++ [i]))) := by
      simp [execOp, hf.ev hx, hrun]
    rw [this]
    have hw' : Sat w0 M A es w' := by
      rcases hww with rfl | rfl
      · exact hw
      · exact hw.drew
    exact hK _ _ (h1 i kk v hni hv1 _ _ (hf.put hd _) (hw'.putO hk))
/-- the loop: whatever the order, by its model -/
theorem cj_mrange {σ γ ρ β : Type} {step : Nat → K × V → σ → Option (Flow σ ρ)} {s0 : σ} {Kf : Flow σ ρ → Option β} {res : β} {bodyc : Code} {b0 b1 r1 tn tc ti ty1 ty2 : Nat} {p1 p2 : String} {a1 a2 : Array Edge} {H : World → Prop}
    (hs : ∀ L', L'.Perm L → (rangeM step 0 L' s0).bind Kf = some res) (hrb : rb ≠ b) (g0 : γ) (l : σ → γ → Fr) (E : σ → γ → List Ent)
    (hl : SubF ((ti, .pointer (some ⟨rb, 0, none⟩)) :: l s0 g0) fr) (hH : ∀ w, H w → Sat w0 M A (.obj (oneO rb (itObj b mes mcl [])) :: E s0 g0) w)
    (hM : ∀ s c, FactAt (E s c) (MapAt kv b (mpV vv L) mes mcl))
    (hfr : ∀ s c, look (l s c) tc = none ∧ look (l s c) tn = none ∧ look (l s c) ti = none) (hne : Nat.beq tc ti = false ∧ Nat.beq tn ti = false ∧ Nat.beq tc tn = false) (hb1 : Nat.blt tc N.n = true) (hb2 : Nat.blt tn N.n = true)
    (after : ∀ s c, Kf (.brk s) = some res → NJ P R Kk N (l s c) (Sat w0 M A (E s c)))
    (body : (∀ s c, Kf (.brk s) = some res → NJ P R Kk N (l s c) (Sat w0 M A (E s c))) → ∀ (i : Nat) (x : K × V) (s : σ) (c : γ) (idx : List Nat) (ix : Nat) (g : Flow σ ρ), L[ix]? = some (x.1, x.2) → step i x s = some g → ∀ J : σ → Prop, (∀ s', g = .nxt s' → J s') →
      (∀ s', g = .brk s' → Kf (.brk s') = some res) → (∀ v, g = .ret v → Kf (.ret v) = some res) →
      ∀ I : Act → World → Prop, (∀ (fr' : Fr) (H' : World → Prop) (s' : σ) (c' : γ), J s' → SubF ((ti, .pointer (some ⟨rb, 0, none⟩)) :: l s' c') fr' → (∀ w, H' w → Sat w0 M A (.obj (oneO rb (itObj b mes mcl (idx ++ [ix]))) :: E s' c') w) → NJ P R (.inv I :: .blk b0 :: Kk) N fr' H') →
      CJ P R bodyc (.blk b1 :: .inv I :: .blk b0 :: Kk) N ((ti, .pointer (some ⟨rb, 0, none⟩)) :: l s c) (Sat w0 M A (.obj (oneO rb (itObj b mes mcl (idx ++ [ix]))) :: E s c))) :
    CJ P R (.block b0 (.loop (.seq (.region r1 #[⟨some tn, .next (.tmp ti) false, ty1, p1, a1, none⟩, ⟨some tc, .extract (.tmp tn) 0, ty2, p2, a2, none⟩] false) (.seq (.cond (.tmp tc) .skip (.exit b0)) (.block b1 bodyc))))) Kk N fr H := by
  have n1 : tc ≠ ti := fun e => by have := hne.1; rw [e] at this; simp at this
  have n2 : tn ≠ ti := fun e => by have := hne.2.1; rw [e] at this; simp at this
  have n3 : tc ≠ tn := fun e => by have := hne.2.2; rw [e] at this; simp at this
  refine cj_blk (cj_loop (σ := List Nat × σ × γ) (fun q => (ti, .pointer (some ⟨rb, 0, none⟩)) :: l q.2.1 q.2.2) (fun q => Sat w0 M A (.obj (oneO rb (itObj b mes mcl q.1)) :: E q.2.1 q.2.2))
    (fun n q => n = L.length - q.1.length ∧ q.1.Nodup ∧ (∀ i ∈ q.1, i < L.length) ∧ ∀ T, (met L q.1 ++ T).Perm L → (rangeM step q.1.length T q.2.1).bind Kf = some res) L.length ([], s0, g0)
    ⟨by simp, List.nodup_nil, by simp, fun T hT => hs T (by simpa [met] using hT)⟩ hl hH ?_)
  rintro n ⟨idx, s, c⟩ ⟨hn, hnd, hlt, hrun⟩
  simp only at hn hnd hlt hrun
  have le2 : ∀ v v', FLe ((ti, .pointer (some ⟨rb, 0, none⟩)) :: l s c) ((tc, v) :: (tn, v') :: (ti, .pointer (some ⟨rb, 0, none⟩)) :: l s c) := by
    intro v v' j u hj
    rw [look_cons]
    by_cases e : tc = j
    · subst e
      rw [look_cons, if_neg n1.symm, (hfr s c).1] at hj
      cases hj
    · rw [if_neg e, look_cons]
      by_cases e2 : tn = j
      · subst e2
        rw [look_cons, if_neg n2.symm, (hfr s c).2.1] at hj
        cases hj
      · rw [if_neg e2]; exact hj
  refine cj_seq (cj_reg (r_next (k := 0) (b := b) (kv := kv) (vv := vv) (L := L) (mes := mes) (mcl := mcl) ((hM s c).cons1) rfl hrb hlt ?_ hb2 (fun hall => ?_) (fun i kk v hni hi => ?_)))
  · simp only [ev]; rw [look_cons, if_pos rfl]
  · -- all were met
    refine lp hb1 (p_ext (vs := [.bool false]) (v := .bool false) ?_ rfl) (lj_seq (cj_seq (cj_if_f (c := .tmp tc) ?_ ?_)))
    · simp only [ev]; rw [look_cons, if_pos rfl]
    · simp only [ev]; rw [look_cons, if_pos rfl]
    · have hperm : (met L idx ++ []).Perm L := by
        rw [List.append_nil]
        have := met_rest L hnd hlt
        have he : ((List.range L.length).filter fun i => !decide (i ∈ idx)) = [] := by
          rw [List.filter_eq_nil_iff]
          intro i hi
          have := hall i (List.mem_range.1 hi)
          simp [this]
        rw [he] at this
        simpa [met] using this
      have hk := hrun [] hperm
      refine cj_exit (K' := Kk) ?_ (fun a w hf hw => after s c hk a w (hf.le ?_) (hw.sublist (List.sublist_cons_self _ _)))
      · simp [target]
      · intro j u hj
        rw [look_cons, if_neg (fun e => by subst e; rw [(hfr s c).1] at hj; cases hj), look_cons, if_neg (fun e => by subst e; rw [(hfr s c).2.1] at hj; cases hj), look_cons, if_neg (fun e => by subst e; rw [(hfr s c).2.2] at hj; cases hj)]
        exact hj
  · -- one more
    have hil : i < L.length := (List.getElem?_eq_some_iff.1 hi).1
    have hnd' : (idx ++ [i]).Nodup := by
      rw [List.nodup_append]
      exact ⟨hnd, by simp, fun a ha c hc => by simp at hc; subst hc; exact fun e => hni (e ▸ ha)⟩
    have hlt' : ∀ j ∈ idx ++ [i], j < L.length := fun j hj => by
      rcases List.mem_append.1 hj with h | h
      · exact hlt j h
      · simp at h; subst h; exact hil
    have hrest := met_rest L hnd' hlt'
    rw [met_snoc hi] at hrest
    generalize met L ((List.range L.length).filter fun j => !decide (j ∈ idx ++ [i])) = T0 at hrest
    have h0 := hrun ((kk, v) :: T0) (by simpa using hrest)
    have hstep : ∀ T, (rangeM step idx.length ((kk, v) :: T) s) = (step idx.length (kk, v) s).bind fun f => f.run (fun s' => rangeM step (idx.length + 1) T s') (fun s' => some (.brk s')) (fun v => some (.ret v)) := fun T => rfl
    rw [hstep] at h0
    cases hg : step idx.length (kk, v) s with
    | none => rw [hg] at h0; cases h0
    | some g =>
      rw [hg] at h0
      refine lp hb1 (p_ext (vs := [.bool true, kv kk, vv v]) (v := .bool true) ?_ rfl) (lj_seq (cj_seq (cj_if_t (c := .tmp tc) ?_ (cj_skip (nj_seq (cj_blk ?_))))))
      · simp only [ev]; rw [look_cons, if_pos rfl]
      · simp only [ev]; rw [look_cons, if_pos rfl]
      · have hbody := body after idx.length (kk, v) s c idx i g hi hg (fun s' => g = .nxt s') (fun s' e => e) (fun s' e => by subst e; exact h0) (fun v e => by subst e; exact h0)
          (fun a w => ∃ (n' : Nat) (s' : List Nat × σ × γ), n' < n ∧ (n' = L.length - s'.1.length ∧ s'.1.Nodup ∧ (∀ i ∈ s'.1, i < L.length) ∧ ∀ T, (met L s'.1 ++ T).Perm L → (rangeM step s'.1.length T s'.2.1).bind Kf = some res) ∧ Frm N ((ti, .pointer (some ⟨rb, 0, none⟩)) :: l s'.2.1 s'.2.2) a ∧ Sat w0 M A (.obj (oneO rb (itObj b mes mcl s'.1)) :: E s'.2.1 s'.2.2) w)
          (fun fr' H' s' c' hJ hsub hH' => nj_inv fun a w hf hw => by
            have hlen : idx.length < L.length := by
              have := List.Nodup.length_le_of_subset hnd' (l₂ := List.range L.length) (fun j hj => List.mem_range.2 (hlt' j hj))
              simp at this; omega
            refine ⟨L.length - (idx ++ [i]).length, (idx ++ [i], s', c'), by rw [hn]; simp; omega, ⟨rfl, hnd', hlt', fun T hT => ?_⟩, hf.sub hsub, hH' w hw⟩
            have h1 := hrun ((kk, v) :: T) (by rw [met_snoc hi] at hT; simpa using hT)
            rw [hstep, hg, hJ] at h1
            have h1 : (rangeM step (idx.length + 1) T s').bind Kf = some res := h1
            simpa using h1)
        exact fun a w hf hw => hbody a w (hf.le (le2 _ _)) hw
end
end Go.J
