/- J19: 'for i, x := range slices.Backward(s)'. No program in sight. -/
import Derived.Test.YtfgekmoffcobaaaGreatDoorJ18
import Derived.RangeFuncIn
namespace Go.J
open Go Go.RowKit
/-- the model of the loop -/
def rangeB {α σ ρ : Type} (step : Nat → α → σ → Option (Flow σ ρ)) (xs : List α) (s : σ) : Option (Flow σ ρ) := rangeM (fun j x s => step (xs.length - 1 - j) x s) 0 xs.reverse s
/-- the library's closure -/
def backCode (TS TE TF TI TB : Nat) (p q : String) : Code :=
  .seq (.region 0 #[⟨some 4, .load TS (.tmp 1), TS, p, #[], none⟩, ⟨some 5, .call { callee := .builtin .len, args := #[.tmp 4], argTypes := #[TS] }, TI, p, #[⟨0, .data⟩], none⟩,
      ⟨some 6, .binOp .sub TI (.tmp 5) (.const (.int .i64 1)) TI, TI, p, #[⟨1, .data⟩], none⟩, ⟨some 3, .assign (.tmp 6), TI, p, #[⟨2, .data⟩, ⟨0, .phase⟩, ⟨1, .phase⟩, ⟨2, .phase⟩], none⟩] false)
    (.block 0 (.loop (.seq (.seq (.region 1 #[⟨some 7, .move (.tmp 3), TI, p, #[], none⟩, ⟨some 8, .binOp .geq TI (.tmp 7) (.const (.int .i64 0)) TI, TB, p, #[⟨0, .data⟩], none⟩] false) (.cond (.tmp 8) .skip (.exit 0)))
      (.seq (.block 1 (.seq (.region 3 #[⟨some 11, .move (.tmp 0), TF, q, #[], none⟩, ⟨some 12, .move (.tmp 3), TI, q, #[], none⟩, ⟨some 13, .load TS (.tmp 1), TS, q, #[], none⟩, ⟨some 14, .move (.tmp 3), TI, q, #[], none⟩,
          ⟨some 15, .indexAddr TS (.tmp 13) (.tmp 14), 0, q, #[⟨2, .data⟩, ⟨3, .data⟩], none⟩, ⟨some 16, .load TE (.tmp 15), TE, q, #[⟨4, .data⟩], none⟩,
          ⟨some 17, .call { callee := .value (.tmp 11), args := #[.tmp 12, .tmp 16], argTypes := #[TI, TE] }, TB, q, #[⟨0, .data⟩, ⟨1, .data⟩, ⟨5, .data⟩], none⟩, ⟨some 18, .unOp .not TB (.tmp 17), TB, q, #[⟨6, .data⟩], none⟩] false) (.cond (.tmp 18) .ret .skip)))
        (.region 2 #[⟨some 9, .move (.tmp 3), TI, p, #[], none⟩, ⟨some 10, .binOp .sub TI (.tmp 9) (.const (.int .i64 1)) TI, TI, p, #[⟨0, .data⟩], none⟩,
          ⟨some 3, .assign (.tmp 10), TI, p, #[⟨1, .data⟩, ⟨0, .phase⟩, ⟨1, .phase⟩], none⟩] false)))))
theorem wpIn_ghost {F : Fence} {n : Nat} {P : Program} {Q : Post} {a : Act} {w : World} {c : Code} (I : Nat → Act → World → Prop) (n₀ : Nat) (h₀ : I n₀ a w)
    (round : ∀ k a w, I k a w → c.wpIn F n P (Exit.then (fun a' w' => ∃ k', k' < k ∧ I k' a' w') Q) a w) : (Code.loop c).wpIn F n P Q a w := by
  refine wpIn_loop (fun a w => ∃ k, I k a w) (fun a w => leastOf (fun k => I k a w)) ⟨n₀, h₀⟩ fun a w hI => wpIn_mono (round _ a w (leastOf_spec hI).1) ?_
  intro e a' w' hq
  cases e <;> first | exact hq | (obtain ⟨k', hlt, hI'⟩ := hq; exact show (∃ k, I k a' w') ∧ leastOf (fun k => I k a' w') < leastOf (fun k => I k a w) from ⟨⟨k', hI'⟩, Nat.lt_of_le_of_lt ((leastOf_spec ⟨k', hI'⟩).2 k' hI') hlt⟩)
section
variable {P : Program} {N : NN} {l : Fr} {H : World → Prop} {Q : Post} {a : Act} {w : World} {ops : Array Oper}
theorem wpIn_cj {c : Code} (h : CJ P Q c [] N l H) (hf : Frm N l a) (hw : H w) : c.wpIn Fence.wide 0 P Q a w := wpIn_wide.2 (wpS_wp (h a w hf hw))
theorem in_pure {i d : Nat} {rest : List Nat} {o : Oper} {v : Value} (ho : ops[i]? = some o) (hg : o.guard = none) (hd : o.dst = some d) (hdb : Nat.blt d N.n = true) (hp : PureOp P N o l H v) (hf : Frm N l a) (hw : H w)
    (h : ∀ a', Frm N ((d, v) :: l) a' → wpOpsIn Fence.wide 0 P ops Q rest a' w) : wpOpsIn Fence.wide 0 P ops Q (i :: rest) a w := by
  unfold wpOpsIn
  rw [ho]
  simp only
  rw [if_pos (by simp [Region.wanted, hg])]
  refine ⟨fun _ _ => trivial, ?_⟩
  rw [show Fence.wide.round = none from rfl, Oper.semAt_none, hp a w hf hw, Oper.uponIn_value, hd]
  exact h _ (hf.put hdb v)
end
section
variable {P : Program} {w0 : World} {M : List Nat} {A : Nat → Prop} {α σ γ ρ : Type} {R : Rep α} {xs : List α} {sv : SV} {fn : Func} {kb bx TS TE TF TI TB by_ by2 : Nat} {p q : String} {zs zs2 : List Value}
theorem back_run (hfn : P.funcs[kb]? = some fn) (hbody : fn.body = some (backCode TS TE TF TI TB p q)) (hnt : fn.ntmps = 19) (hres : fn.results = #[]) (hT : P.underlying TS = some (.slice R.T)) (hTE : TE = R.T)
    (hE : TyF P R.T true R.sz by_ zs) (hS : TyF P TS false 1 by2 zs2) {lo : Nat} {rc : Loop} (hrp : rc.params.size = 2) {o1 : OW}
    {step : Nat → α → σ → Option (Flow σ ρ)} {s0 : σ} {f : Flow σ ρ} (hs : rangeB step xs s0 = some f) (es : σ → γ → List Ent) (g0 : γ)
    (hbx : ∀ s c, FactAt (es s c) (BoxS bx TS [sv.v])) (hrd : ∀ s c, FactAt (es s c) (RdS R sv.v xs))
    (round : ∀ (i : Nat) (x : α) (s : σ) (c : γ) (g : Flow σ ρ), xs[i]? = some x → step i x s = some g → ∀ W, Sat w0 M A (.obj o1 :: .obj (oneO lo (.loop rc)) :: es s c) W →
      RoundIn Fence.wide 0 P lo rc.fn ((rc.params.zip #[.int .i64 i, .agg (R.enc x).toArray]).foldl (fun tmps (t, a) => tmps.setIfInBounds t a) rc.tmps) rc.assign rc.body W fun e W' =>
        e = .returned (.bool true) ∧ ∃ s' c', g = .nxt s' ∧ Sat w0 M A (.obj o1 :: .obj (oneO lo (.loop rc)) :: es s' c') W')
    {W : World} (hW : Sat w0 M A (.obj o1 :: .obj (oneO lo (.loop rc)) :: es s0 g0) W) :
    CallsIn Fence.wide 0 P kb #[.func (.yield lo) #[] #[], .pointer (some ⟨bx, 0, none⟩)] W fun e W' => (∃ v, e = .returned v) ∧ ∃ s c, f = .brk s ∧ Sat w0 M A (.obj o1 :: .obj (oneO lo (.loop rc)) :: es s c) W' := by
  subst hTE
  have two : ∀ {F : World → Prop} {s : σ} {c : γ}, FactAt (es s c) F → FactAt (.obj o1 :: .obj (oneO lo (.loop rc)) :: es s c) F := by
    intro F s c h
    induction h with
    | ro j h => exact .ro (j + 2) h
    | row j h => exact .row (j + 2) h
    | box j h => exact .box (j + 2) h
    | obj j h => exact .obj (j + 2) h
    | der _ h ih => exact .der ih h
  have hmax : xs.length ≤ maxLen := ((hrd s0 g0).get (hW.sublist ((List.sublist_cons_self _ _).trans (List.sublist_cons_self _ _)))).1
  refine callsIn_of_wp hfn hbody trivial ?_ rfl
  have hf0 := frm_enter (vs := [(0, .func (.yield lo) #[] #[]), (1, .pointer (some ⟨bx, 0, none⟩))]) (args := [.func (.yield lo) #[] #[], .pointer (some ⟨bx, 0, none⟩)]) hnt rfl ⟨rfl, rfl, trivial⟩
  have ldS : ∀ {l : Fr} {d : Option Nat} {ty : Nat} {pos : String} {af : Array Edge} {s : σ} {c : γ}, ev l (.tmp 1) = some (.pointer (some ⟨bx, 0, none⟩)) →
      PureOp P ⟨19, []⟩ ⟨d, .load TS (.tmp 1), ty, pos, af, none⟩ l (Sat w0 M A (.obj o1 :: .obj (oneO lo (.loop rc)) :: es s c)) sv.v := by
    intro l d ty pos af s c hx a w hf hw
    have hb : w.heap[bx]? = some (.cells [sv.v].toArray TS (0, 0)) := (two (hbx s c)).get hw
    have h : w.cell? ⟨bx, 0, none⟩ = some sv.v := by rw [cell_of_row w bx 0 _ _ _ hb]; rfl
    simp [execOp, hf.ev hx, Instr.loadAt, Instr.sureAddr, run_loadVar_s hS h]
  refine wpIn_seq (wpIn_cj (cj_reg (lp rfl (ldS rfl) (lp rfl (p_len (R := R) hT rfl (two (hrd s0 g0))) (lp rfl (p_sub rfl rfl) (lp rfl (p_as rfl) (lj_nil (nj_end fun a w hf hw => ?_))))))) hf0 hW)
  have hw64 : ∀ k : Nat, k ≤ xs.length → w64 ((k : Int) - 1) = (k : Int) - 1 := fun k hk => w64_id (by unfold maxLen at hmax; omega)
  refine wpIn_block (wpIn_ghost (fun k a w => ∃ s c, k ≤ xs.length ∧ rangeM (fun j x s => step (xs.length - 1 - j) x s) (xs.length - k) (xs.reverse.drop (xs.length - k)) s = some f ∧
    Frm ⟨19, []⟩ [(0, .func (.yield lo) #[] #[]), (1, .pointer (some ⟨bx, 0, none⟩)), (3, .int .i64 ((k : Int) - 1))] a ∧ Sat w0 M A (.obj o1 :: .obj (oneO lo (.loop rc)) :: es s c) w) xs.length
    ⟨s0, g0, Nat.le_refl _, by rw [Nat.sub_self]; exact hs, hf.sub ⟨rfl, rfl, by simp only [look]; rw [hw64 _ (Nat.le_refl _)]; first | done | rfl, trivial⟩, hw⟩ ?_)
  clear hf hw hW hf0 hs
  rintro k a w ⟨s, c, hk, hrun, hf, hw⟩
  refine wpIn_seq (wpIn_seq (wpIn_cj (cj_reg (lp rfl (p_mv rfl) (lp rfl (p_geq rfl rfl) (lj_nil (nj_end fun a w hf hw => ?_))))) hf hw))
  refine wpIn_cond_split (t := decide ((k : Int) - 1 ≥ 0)) (hf.ev rfl) (fun ht => ?_) (fun ht => ?_)
  · -- a round
    obtain ⟨k', rfl⟩ : ∃ k', k = k' + 1 := ⟨k - 1, by have := of_decide_eq_true ht; omega⟩
    have e1 : ((k' + 1 : Nat) : Int) - 1 = (k' : Int) := by omega
    rw [e1] at hf
    have hlt : xs.length - (k' + 1) < xs.reverse.length := by simp; omega
    have hd : xs.reverse.drop (xs.length - (k' + 1)) = xs[k'] :: xs.reverse.drop (xs.length - k') := by
      rw [List.drop_eq_getElem_cons hlt]
      congr 1
      · rw [List.getElem_reverse]; congr 1; omega
      · congr 1; omega
    rw [hd] at hrun
    have hkk : xs.length - 1 - (xs.length - (k' + 1)) = k' := by omega
    obtain ⟨g, hg, h2⟩ := bindS hrun
    have hg : step (xs.length - 1 - (xs.length - (k' + 1))) xs[k'] s = some g := hg
    rw [hkk] at hg
    have hx : xs[k']? = some xs[k'] := List.getElem?_eq_getElem (by omega)
    refine wpIn_skip (wpIn_seq (wpIn_block (wpIn_seq (wpIn_region ?_))))
    show wpOpsIn Fence.wide 0 P _ _ [0, 1, 2, 3, 4, 5, 6, 7] _ _
    refine in_pure rfl rfl rfl rfl (p_mv (v := .func (.yield lo) #[] #[]) rfl) hf hw fun a hf => in_pure rfl rfl rfl rfl (p_mv (v := .int .i64 (k' : Int)) rfl) hf hw fun a hf => in_pure rfl rfl rfl rfl (ldS rfl) hf hw fun a hf =>
      in_pure rfl rfl rfl rfl (p_mv (v := .int .i64 (k' : Int)) rfl) hf hw fun a hf => in_pure rfl rfl rfl rfl (p_idx (R := R) hT hE rfl rfl (two (hrd s c)) (getI_nat.trans hx)) hf hw fun a hf =>
      in_pure rfl rfl rfl rfl (p_lea (R := R) (i := k') hE rfl (two (hrd s c)) hx) hf hw fun a hf => ?_
    have hl : w.heap[lo]? = some (.loop rc) := hw.objAt (k := 1) rfl
    unfold wpOpsIn
    simp only [List.getElem?_toArray, List.getElem?_cons_succ, List.getElem?_cons_zero]
    rw [if_pos (by simp [Region.wanted])]
    refine ⟨fun _ _ => trivial, ?_⟩
    rw [show Fence.wide.round = none from rfl, Oper.semAt_none]
    have hy := run_yield (P := P) (args := #[.int .i64 (k' : Int), .agg (R.enc xs[k']).toArray]) hl (by simp [hrp])
    have hcall : (execOp a.eval ⟨some 17, .call { callee := .value (.tmp 11), args := #[.tmp 12, .tmp 16], argTypes := #[TI, R.T] }, TB, q, #[⟨0, .data⟩, ⟨1, .data⟩, ⟨5, .data⟩], none⟩).run P w =
        .ok (.round lo rc.fn ((rc.params.zip #[.int .i64 (k' : Int), .agg (R.enc xs[k']).toArray]).foldl (fun tmps (t, a) => tmps.setIfInBounds t a) rc.tmps) rc.assign rc.body) w := by
      have h11 : a.eval (.tmp 11) = .func (.yield lo) #[] #[] := hf.ev rfl
      have h12 : a.eval (.tmp 12) = .int .i64 (k' : Int) := hf.ev rfl
      have h16 : a.eval (.tmp 16) = .agg (R.enc xs[k']).toArray := hf.ev rfl
      simp [execOp, resolve, Deferred.ofValue, h11, h12, h16, invoke, hy]
    rw [hcall]
    refine ⟨fun h => by simp [Fence.wide] at h, (round k' xs[k'] s c g hx hg w hw).mono ?_⟩
    rintro e w' ⟨rfl, s', c', rfl, hw'⟩
    have hf' := hf.put (d := 17) rfl (.bool true)
    refine in_pure (v := .bool false) rfl rfl rfl rfl (p_not (b := true) rfl) hf' hw' fun a hf => ?_
    refine wpIn_cond_false (hf.ev rfl) (wpIn_skip ?_)
    refine wpIn_cj (cj_reg (lp rfl (p_mv (v := .int .i64 (k' : Int)) rfl) (lp rfl (p_sub (m := (k' : Int)) (n := 1) rfl rfl) (lp rfl (p_as rfl) (lj_nil (nj_end fun a w hf hw => ?_)))))) hf hw'
    refine ⟨k', Nat.lt_succ_self _, s', c', by omega, ?_, hf.sub ⟨rfl, rfl, by simp only [look]; rw [hw64 _ (by omega)]; first | done | rfl, trivial⟩, hw⟩
    have : xs.length - (k' + 1) + 1 = xs.length - k' := by omega
    rw [← this]
    rw [← this] at h2
    exact h2
  · -- the end
    obtain rfl : k = 0 := by have := of_decide_eq_false ht; omega
    have hd : xs.reverse.drop (xs.length - 0) = [] := List.drop_eq_nil_of_le (by simp)
    rw [hd] at hrun
    simp only [rangeM, Option.some.injEq] at hrun
    refine wpIn_exit ?_
    show _ ∧ _
    refine ⟨hf.defers, .tuple #[], ?_, ⟨_, rfl⟩, s, c, hrun.symm, hw⟩
    simp [results, hres]
/-- the statement itself: 'after' in a frame with a mark; a round's body with two blocks more that it leaves alone -/
theorem cj_backward {Rp : Post} {K : List Lay} {l : Fr} {H : World → Prop} {n tf p1 p2 b0 b1 : Nat} {asg bodyc : Code} (hfn : P.funcs[kb]? = some fn) (hbody : fn.body = some (backCode TS R.T TF TI TB p q)) (hnt : fn.ntmps = 19) (hres : fn.results = #[]) (hT : P.underlying TS = some (.slice R.T))
    (hE : TyF P R.T true R.sz by_ zs) (hS : TyF P TS false 1 by2 zs2) (hcf : ∀ args w, (callFunc kb args).run P w = .ok (.enter kb args) w)
    (hfv : ev l (.tmp tf) = some (.func (.func kb) #[] [.pointer (some ⟨bx, 0, none⟩)].toArray)) (h1 : Nat.blt p1 n = true) (h2 : Nat.blt p2 n = true) (hra : rcode asg = true) (hrb : rcode bodyc = true)
    {step : Nat → α → σ → Option (Flow σ ρ)} {s0 : σ} {f : Flow σ ρ} (hs : rangeB step xs s0 = some f) (es : σ → γ → List Ent) (g0 : γ) (hH : ∀ w, H w → Sat w0 M A (es s0 g0) w)
    (hbx : ∀ s c, FactAt (es s c) (BoxS bx TS [sv.v])) (hrd : ∀ s c, FactAt (es s c) (RdS R sv.v xs))
    (after : ∀ s c D, f = .brk s → NJ P Rp K ⟨n, [markOf D]⟩ l (Sat w0 M A (.obj (defO D) :: es s c)))
    (body : ∀ (i : Nat) (x : α) (s : σ) (c : γ) (g : Flow σ ρ), xs[i]? = some x → step i x s = some g → ∀ (o1 o2 o3 : OW) (I I0 : Act → World → Prop),
      (∀ (fr' : Fr) (H' : World → Prop) (s' : σ) (c' : γ), g = .nxt s' → (∀ w, H' w → Sat w0 M A (.obj o1 :: .obj o3 :: es s' c') w) → NJ P RF [.inv I] ⟨n, []⟩ fr' H') →
      (∀ (fr' : Fr) (H' : World → Prop) (es' : List Ent), (∀ w, H' w → Sat w0 M A (.obj o1 :: .obj o2 :: es') w) → CJ P RF (.block b1 bodyc) [.inv I] ⟨n, []⟩ fr' (Sat w0 M A (.obj o1 :: .obj o3 :: es')) → NJ P RF [.inv I0] ⟨n, []⟩ fr' H') →
      CJ P RF asg [.inv I0] ⟨n, []⟩ ((p2, .agg (R.enc x).toArray) :: (p1, .int .i64 i) :: l) (Sat w0 M A (.obj o1 :: .obj o2 :: es s c))) :
    CJ P Rp (.block b0 (.rangeFunc (.tmp tf) #[p1, p2] asg (.block b1 bodyc))) K ⟨n, []⟩ l H := by
  intro a w hf hw
  refine wpS_block ?_
  show (Code.rangeFunc (.tmp tf) #[p1, p2] asg (.block b1 bodyc)).wp P (Exit.inBlock b0 (QK P Rp K)) a w
  rw [← wpIn_wide (n := 0)]
  refine wpIn_rangeFunc fun fnn _ => ?_
  let rc : Loop := { state := .ready, pending := none, fn := fnn, tmps := a.tmps, params := #[p1, p2], assign := asg, body := .block b1 bodyc, defers := w.heap.size }
  have hw1 : Sat w0 M A (.obj (oneO (w.heap.size + 1) (.loop rc)) :: .obj (defO w.heap.size) :: es s0 g0) ((w.alloc (.deferred (some []))).alloc (.loop rc)) := by
    have e1 := (hH w hw).allocO (.deferred (some []))
    have e2 := e1.allocO (.loop rc)
    rw [World.size_alloc] at e2
    exact e2
  have hw2 := hw1.picks [1, 0] (xs := .obj (defO w.heap.size) :: .obj (oneO (w.heap.size + 1) (.loop rc)) :: []) rfl
  have hfe : a.eval (.tmp tf) = .func (.func kb) #[] #[.pointer (some ⟨bx, 0, none⟩)] := hf.ev hfv
  have hperm : Sat w0 M A (.obj (defO w.heap.size) :: .obj (oneO (w.heap.size + 1) (.loop rc)) :: es s0 g0) ((w.alloc (.deferred (some []))).alloc (.loop rc)) := hw1.perm (List.Perm.swap _ _ _)
  clear hw2 hw1
  let W1 := (w.alloc (.deferred (some []))).alloc (.loop rc)
  have hres1 : (resolve a.eval (rangeCall (.tmp tf) (w.heap.size + 1)) 0).run P W1 = .ok { target := .fn (.func kb) #[.pointer (some ⟨bx, 0, none⟩)], args := #[.func (.yield (w.heap.size + 1)) #[] #[]] } W1 := by
    show (Deferred.ofValue (a.eval (.tmp tf)) _).run P _ = _
    rw [hfe]
    simp [Deferred.ofValue, Act.eval]
  have hinv : (invoke (.fn (.func kb) #[.pointer (some ⟨bx, 0, none⟩)]) #[.func (.yield (w.heap.size + 1)) #[] #[]]).run P W1 = .ok (.enter kb #[.func (.yield (w.heap.size + 1)) #[] #[], .pointer (some ⟨bx, 0, none⟩)]) W1 := by
    simp [invoke, hcf]
  refine ⟨w.heap.size + 1, [markOf w.heap.size], W1, _, W1, kb, _, W1, run_enterLoop_outer _ _ _ _ _, hres1, fun _ _ => trivial, hinv, fun h => by simp [Fence.wide] at h, ?_⟩
  have hdf : a.defers = [] := hf.defers
  refine (back_run (o1 := defO w.heap.size) (rc := rc) hfn hbody hnt hres hT rfl hE hS rfl hs es g0 hbx hrd ?_ hperm).mono ?_
  · -- a round
    intro i x s c g hx hg W hW
    refine roundIn_of_wpIn trivial ?_
    have hl : ∀ {es'}, ∀ {W : World}, Sat w0 M A (.obj (defO w.heap.size) :: .obj (oneO (w.heap.size + 1) (.loop rc)) :: es') W → W.heap[w.heap.size + 1]? = some (.loop rc) := fun h => h.objAt (k := 1) rfl
    have hfr : Frm ⟨n, []⟩ ((p2, .agg (R.enc x).toArray) :: (p1, .int .i64 i) :: l) { tmps := (rc.params.zip #[.int .i64 i, .agg (R.enc x).toArray]).foldl (fun tmps (t, a) => tmps.setIfInBounds t a) rc.tmps, defers := [] } := by
      have e1 := (hf.put (d := p1) h1 (.int .i64 i)).put (d := p2) h2 (.agg (R.enc x).toArray)
      have e2 : ((a.put (some p1) (.int .i64 i)).put (some p2) (.agg (R.enc x).toArray)) = { tmps := (rc.params.zip #[.int .i64 i, .agg (R.enc x).toArray]).foldl (fun tmps (t, a) => tmps.setIfInBounds t a) rc.tmps, defers := [] } := by
        simp [Act.put, hdf, rc]
      rw [e2] at e1
      exact e1
    let rb : Loop := { rc with state := .busy }
    let I : Act → World → Prop := fun _ W' => ∃ s' c', g = .nxt s' ∧ Sat w0 M A (.obj (defO w.heap.size) :: .obj (oneO (w.heap.size + 1) (.loop rb)) :: es s' c') W'
    have hb := body i x s c g hx hg (defO w.heap.size) (oneO (w.heap.size + 1) (.loop rc)) (oneO (w.heap.size + 1) (.loop rb)) I
      (fun a₁ w₁ => ∃ w₂, (Instr.beginRound (w.heap.size + 1)).run P w₁ = .ok () w₂ ∧ Code.wpIn (Fence.wide.inRound (w.heap.size + 1)) 0 P (.block b1 bodyc)
        (roundPost P (w.heap.size + 1) fun e W' => e = .returned (.bool true) ∧ ∃ s' c', g = .nxt s' ∧ Sat w0 M A (.obj (defO w.heap.size) :: .obj (oneO (w.heap.size + 1) (.loop rc)) :: es s' c') W') a₁ w₂)
      (fun fr' H' s' c' hg' hH' => nj_inv fun a w _ hw => ⟨s', c', hg', hH' w hw⟩)
      (fun fr' H' es' hH' hc => nj_inv fun a1 w1 hf1 hw1 => by
        have hs1 := hH' w1 hw1
        refine ⟨_, run_beginRound (hl hs1) rfl, ?_⟩
        have hs2 := hs1.putO (k := 1) (o' := .loop rb) rfl
        refine wpIn_mono (wpS_round _ _ (by exact hrb) (fun _ _ h => h) (hc a1 _ hf1 hs2)) ?_
        intro e a2 w2 h
        cases e with
        | normal =>
          obtain ⟨s', c', hg', hs3⟩ := h
          have hb3 : w2.heap[w.heap.size + 1]? = some (.loop rb) := hs3.objAt (k := 1) rfl
          exact ⟨_, _, run_endRound none hb3, rfl, s', c', hg', hs3.putO (k := 1) rfl⟩
        | exit id => exact h.elim
        | goto l => exact h.elim
        | ret => exact h.elim
        | panic c => exact h.elim
        | outgrown => exact h.elim)
    refine wpIn_mono (wpS_round _ _ hra (fun _ _ h => h) (hb _ _ hfr hW)) ?_
    intro e a1 w1 h
    cases e <;> first | exact h | exact h.elim
  · rintro e W ⟨⟨v, rfl⟩, s, c, hfs, hW⟩
    have hl : W.heap[w.heap.size + 1]? = some (.loop rc) := hW.objAt (k := 1) rfl
    refine ⟨none, _, run_endLoop hl (by simp [rc]), ?_⟩
    have hW2 := hW.putO (k := 1) (o' := .loop { rc with state := .exhausted }) rfl
    refine after s c w.heap.size hfs _ _ ?_ (hW2.sublist (List.Sublist.cons_cons _ (List.sublist_cons_self _ _)))
    refine ⟨by simp [hdf], hf.size, hf.vals⟩
end
end Go.J
