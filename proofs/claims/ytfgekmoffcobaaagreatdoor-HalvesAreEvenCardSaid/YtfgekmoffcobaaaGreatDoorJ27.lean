/- J27: 'for k := range maps.Keys(m)': whatever the order. No program in sight. -/
import Derived.Test.YtfgekmoffcobaaaGreatDoorJ26
namespace Go.J
open Go Go.RowKit
set_option linter.unusedSimpArgs false
set_option linter.unusedSectionVars false
/-- the library's closure -/
def keysCode (TM TK TF TB : Nat) (p q : String) : Code :=
  .seq (.region 0 #[⟨some 4, .load TM (.tmp 1), TM, p, #[], none⟩, ⟨some 5, .range TM (.tmp 4), 0, p, #[⟨0, .data⟩], none⟩] false)
    (.block 0 (.loop (.seq (.region 1 #[⟨some 6, .next (.tmp 5) false, 0, p, #[], none⟩, ⟨some 7, .extract (.tmp 6) 0, TB, p, #[⟨0, .data⟩], none⟩] false)
      (.seq (.cond (.tmp 7) .skip (.exit 0)) (.block 1 (.seq (.region 2 #[⟨some 8, .entry (.tmp 5), 0, p, #[], none⟩, ⟨some 9, .extract (.tmp 8) 0, TK, p, #[⟨0, .data⟩], none⟩, ⟨some 3, .assign (.tmp 9), TK, p, #[⟨1, .data⟩, ⟨0, .phase⟩, ⟨1, .phase⟩], none⟩] false)
        (.seq (.region 3 #[⟨some 10, .move (.tmp 0), TF, q, #[], none⟩, ⟨some 11, .move (.tmp 3), TK, q, #[], none⟩, ⟨some 12, .call { callee := .value (.tmp 10), args := #[.tmp 11], argTypes := #[TK] }, TB, q, #[⟨0, .data⟩, ⟨1, .data⟩], none⟩,
            ⟨some 13, .unOp .not TB (.tmp 12), TB, q, #[⟨2, .data⟩], none⟩] false) (.cond (.tmp 13) .ret .skip))))))))
section
variable {P : Program} {w0 : World} {M : List Nat} {A : Nat → Prop} {K V σ γ ρ β : Type} [DecidableEq K] {kv : K → Value} {vv : V → Value} {L : List (K × V)} {mes : Array MapEntry} {mcl mb : Nat} {fn : Func} {kb bx TM TE TK TF TB by2 : Nat} {p q : String} {zs2 : List Value}
theorem keys_run (hfn : P.funcs[kb]? = some fn) (hbody : fn.body = some (keysCode TM TK TF TB p q)) (hnt : fn.ntmps = 14) (hres : fn.results = #[]) (hT : P.underlying TM = some (.map TK TE)) (hS : TyF P TM false 1 by2 zs2) {lo : Nat} {rc : Loop} (hrp : rc.params.size = 1) {o1 : OW}
    {step : Nat → K → σ → Option (Flow σ ρ)} {s0 : σ} {Kf : Flow σ ρ → Option β} {res : β} (hs : ∀ L', L'.Perm (L.map Prod.fst) → (rangeM step 0 L' s0).bind Kf = some res) (es : σ → γ → List Ent) (g0 : γ)
    (hbx : ∀ s c, FactAt (es s c) (BoxS bx TM [.map (some mb)])) (hM : ∀ s c, FactAt (es s c) (MapAt kv mb (mpV vv L) mes mcl))
    (round : ∀ (i : Nat) (x : K) (s : σ) (c : γ) (g : Flow σ ρ), step i x s = some g → ∀ (oi : OW) W, Sat w0 M A (.obj o1 :: .obj (oneO lo (.loop rc)) :: .obj oi :: es s c) W →
      RoundIn Fence.wide 0 P lo rc.fn ((rc.params.zip #[kv x]).foldl (fun tmps (t, a) => tmps.setIfInBounds t a) rc.tmps) rc.assign rc.body W fun e W' =>
        e = .returned (.bool true) ∧ ∃ s' c', g = .nxt s' ∧ Sat w0 M A (.obj o1 :: .obj (oneO lo (.loop rc)) :: .obj oi :: es s' c') W')
    {W : World} (hW : Sat w0 M A (.obj o1 :: .obj (oneO lo (.loop rc)) :: es s0 g0) W) :
    CallsIn Fence.wide 0 P kb #[.func (.yield lo) #[] #[], .pointer (some ⟨bx, 0, none⟩)] W fun e W' => (∃ v, e = .returned v) ∧ ∃ s c, Kf (.brk s) = some res ∧ Sat w0 M A (.obj o1 :: .obj (oneO lo (.loop rc)) :: es s c) W' := by
  refine callsIn_of_wp hfn hbody trivial ?_ rfl
  have hf0 := frm_enter (vs := [(0, .func (.yield lo) #[] #[]), (1, .pointer (some ⟨bx, 0, none⟩))]) (args := [.func (.yield lo) #[] #[], .pointer (some ⟨bx, 0, none⟩)]) hnt rfl ⟨rfl, rfl, trivial⟩
  have ldS : ∀ {l : Fr} {d : Option Nat} {ty : Nat} {pos : String} {af : Array Edge} {s : σ} {c : γ}, ev l (.tmp 1) = some (.pointer (some ⟨bx, 0, none⟩)) →
      PureOp P ⟨14, []⟩ ⟨d, .load TM (.tmp 1), ty, pos, af, none⟩ l (Sat w0 M A (.obj o1 :: .obj (oneO lo (.loop rc)) :: es s c)) (.map (some mb)) := by
    intro l d ty pos af s c hx a w hf hw
    have hb : w.heap[bx]? = some (.cells [.map (some mb)].toArray TM (0, 0)) := (hbx s c).cons1.cons1.get hw
    have h : w.cell? ⟨bx, 0, none⟩ = some (.map (some mb)) := by rw [cell_of_row w bx 0 _ _ _ hb]; rfl
    simp [execOp, hf.ev hx, Instr.loadAt, Instr.sureAddr, run_loadVar_s hS h]
  refine wpIn_seq (wpIn_cj (cj_reg (lp rfl (ldS rfl) (r_rng (vv := vv) hT (hM s0 g0).cons1.cons1 rfl rfl fun rb hrb => lj_nil (nj_end fun a w hf hw => ?_)))) hf0 hW)
  have hw : Sat w0 M A (.obj o1 :: .obj (oneO lo (.loop rc)) :: .obj (oneO rb (itObj mb mes mcl [])) :: es s0 g0) w := hw.perm ((List.Perm.swap _ _ _).trans (List.Perm.cons _ (List.Perm.swap _ _ _)))
  refine wpIn_block (wpIn_ghost (fun k a w => ∃ (idx : List Nat) (s : σ) (c : γ), k = L.length - idx.length ∧ idx.Nodup ∧ (∀ i ∈ idx, i < L.length) ∧ (∀ T, (met (L.map Prod.fst) idx ++ T).Perm (L.map Prod.fst) → (rangeM step idx.length T s).bind Kf = some res) ∧
    Frm ⟨14, []⟩ [(0, .func (.yield lo) #[] #[]), (1, .pointer (some ⟨bx, 0, none⟩)), (5, .pointer (some ⟨rb, 0, none⟩))] a ∧ Sat w0 M A (.obj o1 :: .obj (oneO lo (.loop rc)) :: .obj (oneO rb (itObj mb mes mcl idx)) :: es s c) w) L.length
    ⟨[], s0, g0, by simp, List.nodup_nil, by simp, fun T hT => hs T (by simpa [met] using hT), hf.sub ⟨rfl, rfl, rfl, trivial⟩, hw⟩ ?_)
  clear hf hw hW hf0 hs
  rintro k a w ⟨idx, s, c, hk, hnd, hlt, hrun, hf, hw⟩
  refine wpIn_seq (wpIn_cj (cj_reg (r_next (k := 2) (b := mb) (kv := kv) (vv := vv) (L := L) (mes := mes) (mcl := mcl) (hM s c).cons1.cons1.cons1 rfl hrb hlt rfl rfl (fun hall => lp rfl (p_ext (vs := [.bool false]) rfl rfl) (lj_nil (nj_end fun a w hf hw => ?_)))
    (fun i kk v hni hi => lp rfl (p_ext (vs := [.bool true, kv kk, vv v]) rfl rfl) (lj_nil (nj_end fun a w hf hw => ?_))))) hf hw)
  · -- all were met
    refine wpIn_seq (wpIn_cond_false (hf.ev rfl) (wpIn_exit ?_))
    have hperm : (met (L.map Prod.fst) idx ++ []).Perm (L.map Prod.fst) := by
      rw [List.append_nil]
      have h1 := met_rest (L.map Prod.fst) hnd (fun i hi => by rw [List.length_map]; exact hlt i hi)
      have he : ((List.range (L.map Prod.fst).length).filter fun i => !decide (i ∈ idx)) = [] := by
        rw [List.filter_eq_nil_iff]
        intro i hi
        have := hall i (by simpa using List.mem_range.1 hi)
        simp [this]
      rw [he] at h1
      simpa [met] using h1
    have hkf := hrun [] hperm
    show _ ∧ _
    refine ⟨hf.defers, .tuple #[], ?_, ⟨_, rfl⟩, s, c, hkf, hw.sublist (List.Sublist.cons_cons _ (List.Sublist.cons_cons _ (List.sublist_cons_self _ _)))⟩
    simp [results, hres]
  · -- one more
    have hil : i < L.length := (List.getElem?_eq_some_iff.1 hi).1
    have hik : (L.map Prod.fst)[i]? = some kk := by rw [List.getElem?_map, hi]; rfl
    have hnd' : (idx ++ [i]).Nodup := by
      rw [List.nodup_append]
      exact ⟨hnd, by simp, fun a ha c hc => by simp at hc; subst hc; exact fun e => hni (e ▸ ha)⟩
    have hlt' : ∀ j ∈ idx ++ [i], j < L.length := fun j hj => by
      rcases List.mem_append.1 hj with h | h
      · exact hlt j h
      · simp at h; subst h; exact hil
    have hlen : idx.length < L.length := by
      have := List.Nodup.length_le_of_subset hnd' (l₂ := List.range L.length) (fun j hj => List.mem_range.2 (hlt' j hj))
      simp at this; omega
    have hrest := met_rest (L.map Prod.fst) hnd' (fun j hj => by rw [List.length_map]; exact hlt' j hj)
    rw [met_snoc hik] at hrest
    generalize met (L.map Prod.fst) ((List.range (L.map Prod.fst).length).filter fun j => !decide (j ∈ idx ++ [i])) = T0 at hrest
    have h0 := hrun (kk :: T0) (by simpa using hrest)
    have hstep : ∀ T, (rangeM step idx.length (kk :: T) s) = (step idx.length kk s).bind fun f => f.run (fun s' => rangeM step (idx.length + 1) T s') (fun s' => some (.brk s')) (fun v => some (.ret v)) := fun T => rfl
    rw [hstep] at h0
    cases hg : step idx.length kk s with
    | none => rw [hg] at h0; cases h0
    | some g =>
      refine wpIn_seq (wpIn_cond_true (hf.ev rfl) (wpIn_skip ?_))
      have hw : Sat w0 M A (.obj o1 :: .obj (oneO lo (.loop rc)) :: .obj (oneO rb (itObj mb mes mcl (idx ++ [i]))) :: es s c) w := hw
      refine wpIn_block (wpIn_seq (wpIn_cj (cj_reg (lp rfl (p_ent (k := 2) (kk := kk) (v := v) (vv := vv) (hM s c).cons1.cons1.cons1 rfl hi rfl) (lp rfl (p_ext (vs := [kv kk, vv v]) (v := kv kk) rfl rfl) (lp rfl (p_as (v := kv kk) rfl) (lj_nil (nj_end fun a w hf hw => ?_)))))) hf hw))
      refine wpIn_seq (wpIn_region ?_)
      show wpOpsIn Fence.wide 0 P _ _ [0, 1, 2, 3] _ _
      refine in_pure rfl rfl rfl rfl (p_mv (v := .func (.yield lo) #[] #[]) rfl) hf hw fun a hf => in_pure rfl rfl rfl rfl (p_mv (v := kv kk) rfl) hf hw fun a hf => ?_
      have hl : w.heap[lo]? = some (.loop rc) := hw.objAt (k := 1) rfl
      unfold wpOpsIn
      simp only [List.getElem?_toArray, List.getElem?_cons_succ, List.getElem?_cons_zero]
      rw [if_pos (by simp [Region.wanted])]
      refine ⟨fun _ _ => trivial, ?_⟩
      rw [show Fence.wide.round = none from rfl, Oper.semAt_none]
      have hy := run_yield (P := P) (args := #[kv kk]) hl (by simp [hrp])
      have hcall : (execOp a.eval ⟨some 12, .call { callee := .value (.tmp 10), args := #[.tmp 11], argTypes := #[TK] }, TB, q, #[⟨0, .data⟩, ⟨1, .data⟩], none⟩).run P w =
          .ok (.round lo rc.fn ((rc.params.zip #[kv kk]).foldl (fun tmps (t, a) => tmps.setIfInBounds t a) rc.tmps) rc.assign rc.body) w := by
        have h10 : a.eval (.tmp 10) = .func (.yield lo) #[] #[] := hf.ev rfl
        have h11 : a.eval (.tmp 11) = kv kk := hf.ev rfl
        simp [execOp, resolve, Deferred.ofValue, h10, h11, invoke, hy]
      rw [hcall]
      refine ⟨fun h => by simp [Fence.wide] at h, (round idx.length kk s c g hg _ w hw).mono ?_⟩
      rintro e w' ⟨rfl, s', c', rfl, hw'⟩
      have hf' := hf.put (d := 12) rfl (.bool true)
      refine in_pure (v := .bool false) rfl rfl rfl rfl (p_not (b := true) rfl) hf' hw' fun a hf => ?_
      refine wpIn_cond_false (hf.ev rfl) (wpIn_skip ?_)
      refine ⟨L.length - (idx ++ [i]).length, by rw [hk]; simp; omega, idx ++ [i], s', c', rfl, hnd', hlt', fun T hT => ?_, hf.sub ⟨rfl, rfl, rfl, trivial⟩, hw'⟩
      have h1 := hrun (kk :: T) (by rw [met_snoc hik] at hT; simpa using hT)
      rw [hstep, hg] at h1
      have h1 : (rangeM step (idx.length + 1) T s').bind Kf = some res := h1
      simpa using h1
/-- the statement itself -/
theorem cj_keys {Rp : Post} {Kk : List Lay} {l : Fr} {H : World → Prop} {n tf p1 b0 b1 : Nat} {asg bodyc : Code} (hfn : P.funcs[kb]? = some fn) (hbody : fn.body = some (keysCode TM TK TF TB p q)) (hnt : fn.ntmps = 14) (hres : fn.results = #[])
    (hT : P.underlying TM = some (.map TK TE)) (hS : TyF P TM false 1 by2 zs2) (hcf : ∀ args w, (callFunc kb args).run P w = .ok (.enter kb args) w)
    (hfv : ev l (.tmp tf) = some (.func (.func kb) #[] [.pointer (some ⟨bx, 0, none⟩)].toArray)) (h1 : Nat.blt p1 n = true) (hra : rcode asg = true) (hrb : rcode bodyc = true)
    {step : Nat → K → σ → Option (Flow σ ρ)} {s0 : σ} {Kf : Flow σ ρ → Option β} {res : β} (hs : ∀ L', L'.Perm (L.map Prod.fst) → (rangeM step 0 L' s0).bind Kf = some res) (es : σ → γ → List Ent) (g0 : γ) (hH : ∀ w, H w → Sat w0 M A (es s0 g0) w)
    (hbx : ∀ s c, FactAt (es s c) (BoxS bx TM [.map (some mb)])) (hM : ∀ s c, FactAt (es s c) (MapAt kv mb (mpV vv L) mes mcl))
    (after : ∀ s c D, Kf (.brk s) = some res → NJ P Rp Kk ⟨n, [markOf D]⟩ l (Sat w0 M A (.obj (defO D) :: es s c)))
    (body : ∀ (i : Nat) (x : K) (s : σ) (c : γ) (g : Flow σ ρ), step i x s = some g → ∀ (o1 o2 o3 oi : OW) (I I0 : Act → World → Prop),
      (∀ (fr' : Fr) (H' : World → Prop) (s' : σ) (c' : γ), g = .nxt s' → (∀ w, H' w → Sat w0 M A (.obj o1 :: .obj o3 :: .obj oi :: es s' c') w) → NJ P RF [.inv I] ⟨n, []⟩ fr' H') →
      (∀ (fr' : Fr) (H' : World → Prop) (es' : List Ent), (∀ w, H' w → Sat w0 M A (.obj o1 :: .obj o2 :: es') w) → CJ P RF (.block b1 bodyc) [.inv I] ⟨n, []⟩ fr' (Sat w0 M A (.obj o1 :: .obj o3 :: es')) → NJ P RF [.inv I0] ⟨n, []⟩ fr' H') →
      CJ P RF asg [.inv I0] ⟨n, []⟩ ((p1, kv x) :: l) (Sat w0 M A (.obj o1 :: .obj o2 :: .obj oi :: es s c))) :
    CJ P Rp (.block b0 (.rangeFunc (.tmp tf) #[p1] asg (.block b1 bodyc))) Kk ⟨n, []⟩ l H := by
  intro a w hf hw
  refine wpS_block ?_
  show (Code.rangeFunc (.tmp tf) #[p1] asg (.block b1 bodyc)).wp P (Exit.inBlock b0 (QK P Rp Kk)) a w
  rw [← wpIn_wide (n := 0)]
  refine wpIn_rangeFunc fun fnn _ => ?_
  let rc : Loop := { state := .ready, pending := none, fn := fnn, tmps := a.tmps, params := #[p1], assign := asg, body := .block b1 bodyc, defers := w.heap.size }
  have hw1 : Sat w0 M A (.obj (oneO (w.heap.size + 1) (.loop rc)) :: .obj (defO w.heap.size) :: es s0 g0) ((w.alloc (.deferred (some []))).alloc (.loop rc)) := by
    have e1 := (hH w hw).allocO (.deferred (some []))
    have e2 := e1.allocO (.loop rc)
    rw [World.size_alloc] at e2
    exact e2
  have hw2 := hw1.picks [1, 0] (xs := .obj (defO w.heap.size) :: .obj (oneO (w.heap.size + 1) (.loop rc)) :: []) rfl
  have hfe : a.eval (.tmp tf) = .func (.func kb) #[] #[.pointer (some ⟨bx, 0, none⟩)] := hf.ev hfv
  have hperm : Sat w0 M A (.obj (defO w.heap.size) :: .obj (oneO (w.heap.size + 1) (.loop rc)) :: es s0 g0) ((w.alloc (.deferred (some []))).alloc (.loop rc)) := hw1.perm (List.Perm.swap _ _ _)
  clear hw2 hw1
  let W1 := (w.alloc (.deferred (some []))).alloc (.loop rc)
  have hres1 : (resolve a.eval (rangeCall (.tmp tf) (w.heap.size + 1)) 0).run P W1 = .ok { target := .fn (.func kb) #[.pointer (some ⟨bx, 0, none⟩)], args := #[.func (.yield (w.heap.size + 1)) #[] #[]] } W1 := by
    show (Deferred.ofValue (a.eval (.tmp tf)) _).run P _ = _
    rw [hfe]
    simp [Deferred.ofValue, Act.eval]
  have hinv : (invoke (.fn (.func kb) #[.pointer (some ⟨bx, 0, none⟩)]) #[.func (.yield (w.heap.size + 1)) #[] #[]]).run P W1 = .ok (.enter kb #[.func (.yield (w.heap.size + 1)) #[] #[], .pointer (some ⟨bx, 0, none⟩)]) W1 := by
    simp [invoke, hcf]
  refine ⟨w.heap.size + 1, [markOf w.heap.size], W1, _, W1, kb, _, W1, run_enterLoop_outer _ _ _ _ _, hres1, fun _ _ => trivial, hinv, fun h => by simp [Fence.wide] at h, ?_⟩
  have hdf : a.defers = [] := hf.defers
  refine (keys_run (o1 := defO w.heap.size) (rc := rc) hfn hbody hnt hres hT hS rfl hs es g0 hbx hM ?_ hperm).mono ?_
  · -- a round
    intro i x s c g hg oi W hW
    refine roundIn_of_wpIn trivial ?_
    have hl : ∀ {es'}, ∀ {W : World}, Sat w0 M A (.obj (defO w.heap.size) :: .obj (oneO (w.heap.size + 1) (.loop rc)) :: es') W → W.heap[w.heap.size + 1]? = some (.loop rc) := fun h => h.objAt (k := 1) rfl
    have hfr : Frm ⟨n, []⟩ ((p1, kv x) :: l) { tmps := (rc.params.zip #[kv x]).foldl (fun tmps (t, a) => tmps.setIfInBounds t a) rc.tmps, defers := [] } := by
      have e1 := hf.put (d := p1) h1 (kv x)
      have e2 : (a.put (some p1) (kv x)) = { tmps := (rc.params.zip #[kv x]).foldl (fun tmps (t, a) => tmps.setIfInBounds t a) rc.tmps, defers := [] } := by
        simp [Act.put, hdf, rc]
      rw [e2] at e1
      exact e1
    let rb : Loop := { rc with state := .busy }
    let I : Act → World → Prop := fun _ W' => ∃ s' c', g = .nxt s' ∧ Sat w0 M A (.obj (defO w.heap.size) :: .obj (oneO (w.heap.size + 1) (.loop rb)) :: .obj oi :: es s' c') W'
    have hb := body i x s c g hg (defO w.heap.size) (oneO (w.heap.size + 1) (.loop rc)) (oneO (w.heap.size + 1) (.loop rb)) oi I
      (fun a₁ w₁ => ∃ w₂, (Instr.beginRound (w.heap.size + 1)).run P w₁ = .ok () w₂ ∧ Code.wpIn (Fence.wide.inRound (w.heap.size + 1)) 0 P (.block b1 bodyc)
        (roundPost P (w.heap.size + 1) fun e W' => e = .returned (.bool true) ∧ ∃ s' c', g = .nxt s' ∧ Sat w0 M A (.obj (defO w.heap.size) :: .obj (oneO (w.heap.size + 1) (.loop rc)) :: .obj oi :: es s' c') W') a₁ w₂)
      (fun fr' H' s' c' hg' hH' => nj_inv fun a w _ hw => ⟨s', c', hg', hH' w hw⟩)
      (fun fr' H' es' hH' hc => nj_inv fun a1 w1 hf1 hw1 => by
        have hs1 := hH' w1 hw1
        refine ⟨_, run_beginRound (hl hs1) rfl, ?_⟩
        have hs2 := hs1.putO (k := 1) (o' := .loop rb) rfl
        refine wpIn_mono (wpS_round _ _ (by exact hrb) (fun _ _ h => h) (hc a1 _ hf1 hs2)) ?_
        intro e a2 w2 h
        cases e with
        | normal =>
          obtain ⟨s', c', hg', hs3⟩ := h
          have hb3 : w2.heap[w.heap.size + 1]? = some (.loop rb) := hs3.objAt (k := 1) rfl
          exact ⟨_, _, run_endRound none hb3, rfl, s', c', hg', hs3.putO (k := 1) rfl⟩
        | exit id => exact h.elim
        | goto l => exact h.elim
        | ret => exact h.elim
        | panic c => exact h.elim
        | outgrown => exact h.elim)
    refine wpIn_mono (wpS_round _ _ hra (fun _ _ h => h) (hb _ _ hfr hW)) ?_
    intro e a1 w1 h
    cases e <;> first | exact h | exact h.elim
  · rintro e W ⟨⟨v, rfl⟩, s, c, hfs, hW⟩
    have hl : W.heap[w.heap.size + 1]? = some (.loop rc) := hW.objAt (k := 1) rfl
    refine ⟨none, _, run_endLoop hl (by simp [rc]), ?_⟩
    have hW2 := hW.putO (k := 1) (o' := .loop { rc with state := .exhausted }) rfl
    refine after s c w.heap.size hfs _ _ ?_ (hW2.sublist (List.Sublist.cons_cons _ (List.sublist_cons_self _ _)))
    refine ⟨by simp [hdf], hf.size, hf.vals⟩
end
end Go.J
