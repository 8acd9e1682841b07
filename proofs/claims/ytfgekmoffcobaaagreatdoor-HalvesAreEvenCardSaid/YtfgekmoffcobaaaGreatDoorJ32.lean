/- J32: 'for k, v := range m' over a map whose values lead to more of ours; the body may put values at keys that are there. No program in sight. -/
import Derived.Test.YtfgekmoffcobaaaGreatDoorJ31
namespace Go.J
open Go Go.RowKit
set_option linter.unusedSimpArgs false
set_option linter.unusedSectionVars false
/-- the keys are the same, and so are the births -/
def KeptK {K G : Type} (ks : List K) (mes0 : Array MapEntry) (mcl0 : Nat) (Z : List (K × G)) (mes : Array MapEntry) (mcl : Nat) : Prop :=
  Z.map Prod.fst = ks ∧ mcl = mcl0 ∧ mes.toList.map (·.born) = mes0.toList.map (·.born)
theorem itObj_same {b : Nat} {es es' : Array MapEntry} {cl : Nat} {idx : List Nat} (h : es'.toList.map (·.born) = es.toList.map (·.born)) : itObj b es' cl idx = itObj b es cl idx := by
  unfold itObj
  congr 2
  refine List.map_congr_left fun i _ => ?_
  unfold bornOf
  have := congrArg (·[i]?) h
  simp only [List.getElem?_map, Array.getElem?_toList] at this
  rw [this]
section
variable {P : Program} {K : Type} [DecidableEq K] {kv : K → Value} {b : Nat} {l : List (K × Value)} {es : Array MapEntry} {clock : Nat} {w : World} {T E Tk : TypeId} {k : K} {v : Value}
theorem run_mapUpdate_kept (hT : P.underlying T = some (.map Tk E)) (hK : KeyF P Tk kv) (m : MapAt kv b l es clock w) (hh : hasM l k = true) :
    ∃ es', (Instr.mapUpdate T (.map (some b)) (kv k) v).run P w = .ok () (w.putObj b (.map es' clock)) ∧ MapAt kv b (putM l k v) es' clock (w.putObj b (.map es' clock)) ∧ es'.toList.map (·.born) = es.toList.map (·.born) := by
  have hlt := (Array.getElem?_eq_some_iff.1 m.heap).1
  have hput : ∀ o : Obj, (setObj b o).run P w = .ok () (w.putObj b o) := fun o => by rw [MapKept.run_setObj_map o m.heap]; rfl
  rcases hK.find k w l es.toList m.el with ⟨i, u, h1, h2⟩ | ⟨h1, h2⟩
  · obtain ⟨e, he, hk, hv⟩ := m.entry h2
    have he' : es[i]? = some e := by simpa using he
    refine ⟨es.modify i fun e => { e with key := kv k, val := v }, ?_, ?_, ?_⟩
    · simp [Instr.mapUpdate, run_underlying hT, MapKept.run_getObj_map m.heap, hK.chk, h1, he', hk, keyStays hK, hput]
    · rw [putM_at m.nd i h2]
      exact m.put h2 _ (fun e _ => ⟨rfl, rfl⟩) (fun _ => rfl) (World.putObj_heap_same hlt)
    · rw [Array.toList_modify]; exact mod_born es.toList i _ fun _ => rfl
  · rw [hasM_none h2] at hh; cases hh
end
section
variable {P : Program} {R : Post} {Kk : List Lay} {N : NN} {l fr : Fr} {ops : Array Oper} {rest : List Oper} {d : Nat} {dd : Option Nat} {ty : Nat} {pos : String} {af : Array Edge} {g0 : Option (Nat × Bool)} {x y u : Operand} {T E Tk : TypeId} {c : Code}
variable {w0 : World} {M : List Nat} {A : Nat → Prop} {es rs : List Ent} {j n b rb : Nat} {K X G : Type} [DecidableEq K] {kv : K → Value} {vv : G → Value} {ents : X → G → List Ent} {xs : List (K × X)} {Z : List (K × G)} {hol : Option K} {k : K} {z : G} {mes mes0 : Array MapEntry} {mcl mcl0 : Nat} {ks : List K}
/-- 'm[k] = v' at a key that is there -/
theorem r_mpuK {x1 : X} {g1 : G} (ps : List Nat) (hT : P.underlying T = some (.map Tk E)) (hK : KeyF P Tk kv) (hp : picks ps es = some (.obj (famO kv vv ents b xs Z hol mes mcl) :: ents x1 g1, rs)) (hh : hol = none ∨ hol = some k) (hZ : hasM Z k = true)
    (hkp : KeptK ks mes0 mcl0 Z mes mcl) (hx : ev l x = some (.map (some b))) (hy : ev l y = some (kv k)) (hu : ev l u = some (vv g1))
    (h : ∀ es', KeptK ks mes0 mcl0 (putM Z k g1) es' mcl → LJ P R ops rest Kk N l (Sat w0 M A (.obj (famO kv vv ents b (putM xs k x1) (putM Z k g1) none es' mcl) :: rs))) :
    LJ P R ops (⟨none, .mapUpdate T x y u, ty, pos, af, none⟩ :: rest) Kk N l (Sat w0 M A es) := by
  intro a w hf hw
  refine wpList_plain rfl fun K' hKk => ?_
  unfold Oper.wp
  have hw1 : Sat w0 M A (.obj (famO kv vv ents b xs Z hol mes mcl) :: (ents x1 g1 ++ rs)) w := hw.perm (picks_perm hp)
  have m : FamAt kv vv ents b xs Z hol mes mcl w := hw1.okx _ (List.mem_cons_self ..)
  have hw2 := hw1.famPend hh
  obtain ⟨es2, h1, h2, h3⟩ := run_mapUpdate_kept (P := P) (k := k) (v := vv g1) hT hK m.map (by rw [hasM_map]; exact hZ)
  have : (execOp a.eval ⟨none, .mapUpdate T x y u, ty, pos, af, none⟩).run P w = .ok .skip (w.putObj b (.map es2 mcl)) := by
    simp [execOp, hf.ev hx, hf.ev hy, hf.ev hu, h1]
  rw [this]
  rw [putM_map] at h2
  exact hKk _ _ (h es2 ⟨by rw [putM_keys, if_pos hZ]; exact hkp.1, hkp.2.1, h3.trans hkp.2.2⟩ _ _ (hf.put_none undef) (hw2.famPut m.kys h2))
theorem p_entF {idx : List Nat} {i : Nat} (hM : FactAt es (FamAt kv vv ents b xs Z hol mes mcl)) (hkp : KeptK ks mes0 mcl0 Z mes mcl) (hk : nth es n = some (.obj (oneO rb (itObj b mes0 mcl0 (idx ++ [i]))))) (hi : ks[i]? = some k) (hx : ev l x = some (.pointer (some ⟨rb, 0, none⟩))) :
    PureOp P N ⟨dd, .entry x, ty, pos, af, g0⟩ l (Sat w0 M A es) (.tuple [kv k, vv ((lkM Z k).getD z)].toArray) := fun a w hf hw => by
  have m := hM.get hw
  have hit : w.heap[rb]? = some (itObj b mes0 mcl0 (idx ++ [i])) := hw.objAt hk
  rw [← hkp.2.1, ← itObj_same hkp.2.2] at hit
  have hZi : ∃ v, Z[i]? = some (k, v) := by
    have h1 := hi
    rw [← hkp.1, List.getElem?_map] at h1
    cases hz : Z[i]? with
    | none => rw [hz] at h1; cases h1
    | some p => rw [hz] at h1; cases h1; exact ⟨p.2, rfl⟩
  obtain ⟨v, hv⟩ := hZi
  have hi' : (mpV vv Z)[i]? = some (k, vv v) := by unfold mpV; rw [List.getElem?_map, hv]; rfl
  have h := run_entry_own (P := P) m.map hit hi'
  rw [lkM_some m.ndZ i hv]
  simp [execOp, hf.ev hx, h]
theorem KeptK.has (h : KeptK ks mes0 mcl0 Z mes mcl) {i : Nat} (hi : ks[i]? = some k) : hasM Z k = true := by
  rw [hasM_iff, h.1]; exact List.mem_of_getElem? hi
theorem KeptK.refl (xs : List (K × X)) (h : xs.map Prod.fst = Z.map Prod.fst) : KeptK (xs.map Prod.fst) mes mcl Z mes mcl := ⟨h.symm, rfl, rfl⟩
/-- the loop over the keys: whatever the order, by its model -/
theorem cj_frange {σ γ ρ β : Type} {step : Nat → K → σ → Option (Flow σ ρ)} {s0 : σ} {Kf : Flow σ ρ → Option β} {res : β} {bodyc : Code} {b0 b1 r1 tn tc ti ty1 ty2 : Nat} {p1 p2 : String} {a1 a2 : Array Edge} {H : World → Prop} (Zc : σ → γ → List (K × G)) (mesc : σ → γ → Array MapEntry) (mclc : σ → γ → Nat)
    (hs : ∀ L', L'.Perm ks → (rangeM step 0 L' s0).bind Kf = some res) (hrb : rb ≠ b) (g0 : γ) (l : σ → γ → Fr) (E : σ → γ → List Ent)
    (hl : SubF ((ti, .pointer (some ⟨rb, 0, none⟩)) :: l s0 g0) fr) (hH : ∀ w, H w → Sat w0 M A (.obj (oneO rb (itObj b mes mcl [])) :: E s0 g0) w)
    (hM : ∀ s c, FactAt (E s c) (fun w => MapAt kv b (mpV vv (Zc s c)) (mesc s c) (mclc s c) w ∧ KeptK ks mes mcl (Zc s c) (mesc s c) (mclc s c)))
    (hfr : ∀ s c, look (l s c) tc = none ∧ look (l s c) tn = none ∧ look (l s c) ti = none) (hne : Nat.beq tc ti = false ∧ Nat.beq tn ti = false ∧ Nat.beq tc tn = false) (hb1 : Nat.blt tc N.n = true) (hb2 : Nat.blt tn N.n = true)
    (after : ∀ s c, Kf (.brk s) = some res → NJ P R Kk N (l s c) (Sat w0 M A (E s c)))
    (body : (∀ s c, Kf (.brk s) = some res → NJ P R Kk N (l s c) (Sat w0 M A (E s c))) → ∀ (i : Nat) (x : K) (s : σ) (c : γ) (idx : List Nat) (ix : Nat) (g : Flow σ ρ), ks[ix]? = some x → step i x s = some g → ∀ J : σ → Prop, (∀ s', g = .nxt s' → J s') →
      (∀ s', g = .brk s' → Kf (.brk s') = some res) → (∀ v, g = .ret v → Kf (.ret v) = some res) →
      ∀ I : Act → World → Prop, (∀ (fr' : Fr) (H' : World → Prop) (s' : σ) (c' : γ), J s' → SubF ((ti, .pointer (some ⟨rb, 0, none⟩)) :: l s' c') fr' → (∀ w, H' w → Sat w0 M A (.obj (oneO rb (itObj b mes mcl (idx ++ [ix]))) :: E s' c') w) → NJ P R (.inv I :: .blk b0 :: Kk) N fr' H') →
      CJ P R bodyc (.blk b1 :: .inv I :: .blk b0 :: Kk) N ((ti, .pointer (some ⟨rb, 0, none⟩)) :: l s c) (Sat w0 M A (.obj (oneO rb (itObj b mes mcl (idx ++ [ix]))) :: E s c))) :
    CJ P R (.block b0 (.loop (.seq (.region r1 #[⟨some tn, .next (.tmp ti) false, ty1, p1, a1, none⟩, ⟨some tc, .extract (.tmp tn) 0, ty2, p2, a2, none⟩] false) (.seq (.cond (.tmp tc) .skip (.exit b0)) (.block b1 bodyc))))) Kk N fr H := by
  have n1 : tc ≠ ti := fun e => by have := hne.1; rw [e] at this; simp at this
  have n2 : tn ≠ ti := fun e => by have := hne.2.1; rw [e] at this; simp at this
  have n3 : tc ≠ tn := fun e => by have := hne.2.2; rw [e] at this; simp at this
  refine cj_blk (cj_loop (σ := List Nat × σ × γ) (fun q => (ti, .pointer (some ⟨rb, 0, none⟩)) :: l q.2.1 q.2.2) (fun q => Sat w0 M A (.obj (oneO rb (itObj b mes mcl q.1)) :: E q.2.1 q.2.2))
    (fun n q => n = ks.length - q.1.length ∧ q.1.Nodup ∧ (∀ i ∈ q.1, i < ks.length) ∧ ∀ T, (met ks q.1 ++ T).Perm ks → (rangeM step q.1.length T q.2.1).bind Kf = some res) ks.length ([], s0, g0)
    ⟨by simp, List.nodup_nil, by simp, fun T hT => hs T (by simpa [met] using hT)⟩ hl hH ?_)
  rintro n ⟨idx, s, c⟩ ⟨hn, hnd, hlt, hrun⟩
  simp only at hn hnd hlt hrun
  have le2 : ∀ v v', FLe ((ti, .pointer (some ⟨rb, 0, none⟩)) :: l s c) ((tc, v) :: (tn, v') :: (ti, .pointer (some ⟨rb, 0, none⟩)) :: l s c) := by
    intro v v' j u hj
    rw [look_cons]
    by_cases e : tc = j
    · subst e
      rw [look_cons, if_neg n1.symm, (hfr s c).1] at hj
      cases hj
    · rw [if_neg e, look_cons]
      by_cases e2 : tn = j
      · subst e2
        rw [look_cons, if_neg n2.symm, (hfr s c).2.1] at hj
        cases hj
      · rw [if_neg e2]; exact hj
  intro a0 w1 hf0 hw1
  have hfact := ((hM s c).cons1 (e := .obj (oneO rb (itObj b mes mcl idx)))).get hw1
  obtain ⟨hk1, hk2, hk3⟩ := hfact.2
  have hit : itObj b mes mcl idx = itObj b (mesc s c) (mclc s c) idx := by rw [hk2, itObj_same hk3]
  have hit' : ∀ i, itObj b mes mcl (idx ++ [i]) = itObj b (mesc s c) (mclc s c) (idx ++ [i]) := fun i => by rw [hk2, itObj_same hk3]
  have hlen : (Zc s c).length = ks.length := by rw [← hk1, List.length_map]
  rw [hit] at hw1
  refine (cj_seq (cj_reg (r_next (k := 0) (b := b) (kv := kv) (vv := vv) (L := Zc s c) (mes := mesc s c) (mcl := mclc s c) (((hM s c).imp fun _ h => h.1).cons1) rfl hrb (by rw [hlen]; exact hlt) ?_ hb2 (fun hall => ?_) (fun i kk v hni hi => ?_)))) a0 w1 hf0 hw1
  · simp only [ev]; rw [look_cons, if_pos rfl]
  · -- all were met
    refine lp hb1 (p_ext (vs := [.bool false]) (v := .bool false) ?_ rfl) (lj_seq (cj_seq (cj_if_f (c := .tmp tc) ?_ ?_)))
    · simp only [ev]; rw [look_cons, if_pos rfl]
    · simp only [ev]; rw [look_cons, if_pos rfl]
    · have hperm : (met ks idx ++ []).Perm ks := by
        rw [List.append_nil]
        have := met_rest ks hnd hlt
        have he : ((List.range ks.length).filter fun i => !decide (i ∈ idx)) = [] := by
          rw [List.filter_eq_nil_iff]
          intro i hi
          have := hall i (by rw [hlen]; exact List.mem_range.1 hi)
          simp [this]
        rw [he] at this
        simpa [met] using this
      have hk := hrun [] hperm
      refine cj_exit (K' := Kk) ?_ (fun a w hf hw => after s c hk a w (hf.le ?_) (hw.sublist (List.sublist_cons_self _ _)))
      · simp [target]
      · intro j u hj
        rw [look_cons, if_neg (fun e => by subst e; rw [(hfr s c).1] at hj; cases hj), look_cons, if_neg (fun e => by subst e; rw [(hfr s c).2.1] at hj; cases hj), look_cons, if_neg (fun e => by subst e; rw [(hfr s c).2.2] at hj; cases hj)]
        exact hj
  · -- one more
    have hki : ks[i]? = some kk := by rw [← hk1, List.getElem?_map, hi]; rfl
    have hil : i < ks.length := (List.getElem?_eq_some_iff.1 hki).1
    have hnd' : (idx ++ [i]).Nodup := by
      rw [List.nodup_append]
      exact ⟨hnd, by simp, fun a ha c hc => by simp at hc; subst hc; exact fun e => hni (e ▸ ha)⟩
    have hlt' : ∀ j ∈ idx ++ [i], j < ks.length := fun j hj => by
      rcases List.mem_append.1 hj with h | h
      · exact hlt j h
      · simp at h; subst h; exact hil
    have hrest := met_rest ks hnd' hlt'
    rw [met_snoc hki] at hrest
    generalize met ks ((List.range ks.length).filter fun j => !decide (j ∈ idx ++ [i])) = T0 at hrest
    have h0 := hrun (kk :: T0) (by simpa using hrest)
    have hstep : ∀ T, (rangeM step idx.length (kk :: T) s) = (step idx.length kk s).bind fun f => f.run (fun s' => rangeM step (idx.length + 1) T s') (fun s' => some (.brk s')) (fun v => some (.ret v)) := fun T => rfl
    rw [hstep] at h0
    cases hg : step idx.length kk s with
    | none => rw [hg] at h0; cases h0
    | some g =>
      rw [hg] at h0
      refine lp hb1 (p_ext (vs := [.bool true, kv kk, vv v]) (v := .bool true) ?_ rfl) (lj_seq (cj_seq (cj_if_t (c := .tmp tc) ?_ (cj_skip (nj_seq (cj_blk ?_))))))
      · simp only [ev]; rw [look_cons, if_pos rfl]
      · simp only [ev]; rw [look_cons, if_pos rfl]
      · have hbody := body after idx.length kk s c idx i g hki hg (fun s' => g = .nxt s') (fun s' e => e) (fun s' e => by subst e; exact h0) (fun v e => by subst e; exact h0)
          (fun a w => ∃ (n' : Nat) (s' : List Nat × σ × γ), n' < n ∧ (n' = ks.length - s'.1.length ∧ s'.1.Nodup ∧ (∀ i ∈ s'.1, i < ks.length) ∧ ∀ T, (met ks s'.1 ++ T).Perm ks → (rangeM step s'.1.length T s'.2.1).bind Kf = some res) ∧ Frm N ((ti, .pointer (some ⟨rb, 0, none⟩)) :: l s'.2.1 s'.2.2) a ∧ Sat w0 M A (.obj (oneO rb (itObj b mes mcl s'.1)) :: E s'.2.1 s'.2.2) w)
          (fun fr' H' s' c' hJ hsub hH' => nj_inv fun a w hf hw => by
            have hlen : idx.length < ks.length := by
              have := List.Nodup.length_le_of_subset hnd' (l₂ := List.range ks.length) (fun j hj => List.mem_range.2 (hlt' j hj))
              simp at this; omega
            refine ⟨ks.length - (idx ++ [i]).length, (idx ++ [i], s', c'), by rw [hn]; simp; omega, ⟨rfl, hnd', hlt', fun T hT => ?_⟩, hf.sub hsub, hH' w hw⟩
            have h1 := hrun (kk :: T) (by rw [met_snoc hki] at hT; simpa using hT)
            rw [hstep, hg, hJ] at h1
            have h1 : (rangeM step (idx.length + 1) T s').bind Kf = some res := h1
            simpa using h1)
        refine fun a w hf hw => hbody a w (hf.le (le2 _ _)) ?_
        rw [hit']
        exact hw
end
end Go.J
