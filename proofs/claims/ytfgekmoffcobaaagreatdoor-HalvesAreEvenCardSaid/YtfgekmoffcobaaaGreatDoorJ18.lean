/- J18: code in a round of a range over a function; functions that leave with a mark. No program in sight. -/
import Derived.Test.YtfgekmoffcobaaaGreatDoorJ17
import Derived.RangeFuncRecord
namespace Go.J
open Go Go.RowKit

/-! ### code that does the same in a round -/
def noDefer (o : Oper) : Bool := match o.op with | .defer _ => false | _ => true
def rcode : Code → Bool
  | .seq x y => rcode x && rcode y
  | .region _ ops _ => ops.toList.all noDefer
  | .cond _ x y => rcode x && rcode y
  | .block _ c => rcode c
  | .loop c => rcode c
  | .exit _ | .ret | .skip => true
  | _ => false
theorem noDefer_ne {o : Oper} (h : noDefer o = true) : ∀ c, o.op ≠ .defer c := by
  intro c e
  unfold noDefer at h
  rw [e] at h
  cases h
theorem callsIn_round {P : Program} {f : FuncId} {args : Array Value} {w : World} {R : Ending → World → Prop} (l n : Nat) (h : Calls P f args w R) : CallsIn (Fence.wide.inRound l) n P f args w R :=
  (callsIn_wide (n := n)).2 h
theorem wpOp_round {P : Program} {o : Oper} {a : Act} {w : World} {K K' : Act → World → Prop} {Q : Post} (l n : Nat) (hd : noDefer o = true) (hK : ∀ a w, K a w → K' a w) (hQ : ¬ LetsOut Q) (h : o.wp P a w K Q) :
    o.wpIn (Fence.wide.inRound l) n P a w K' Q := by
  refine ⟨fun _ _ => trivial, ?_⟩
  rw [show (Fence.wide.inRound l).round = some l from rfl, Oper.semAt_eq _ _ _ (noDefer_ne hd)]
  unfold Oper.wp at h
  generalize (execOp a.eval o).run P w = r at *
  cases r with
  | ok x w' =>
    cases x with
    | value v => exact hK _ _ h
    | skip => exact hK _ _ h
    | defer d => exact hK _ _ h
    | enter f args =>
      refine ⟨fun h => by simp [Fence.wide, Fence.inRound] at h, callsIn_round l _ (Calls.mono h fun e w'' he => ?_)⟩
      cases e with
      | returned v => exact hK _ _ he
      | panicked c => exact he
      | outgrown => exact (hQ he).elim
    | row row args =>
      refine ⟨fun h => by simp [Fence.wide, Fence.inRound] at h, fun c cs _ => ?_⟩
      obtain ⟨v, w1, h1, h2⟩ := h c cs
      exact ⟨v, w1, hK _ _ h1, stepsIn_wide.2 h2⟩
    | round l f tmps x y => exact h.elim
    | _ => exact h.elim
  | halt x w' => cases x <;> first | exact h | exact h.elim
theorem wpOps_round {P : Program} {ops : Array Oper} {Q : Post} (l n : Nat) (hd : ops.toList.all noDefer = true) (hQ : ¬ LetsOut Q) : ∀ (is : List Nat) (a : Act) (w : World), wpOps P ops Q is a w → wpOpsIn (Fence.wide.inRound l) n P ops Q is a w
  | [], _, _, h => h
  | i :: is, a, w, h => by
    unfold wpOps at h
    unfold wpOpsIn
    cases ho : ops[i]? with
    | none =>
      rw [ho] at h
      exact wpOps_round l n hd hQ is a w h
    | some o =>
      rw [ho] at h
      simp only at h ⊢
      have hm : noDefer o = true := List.all_eq_true.1 hd o (by simpa using Array.mem_of_getElem? ho)
      by_cases hw : Region.wanted o (yielded ops a.tmps) = true
      · rw [if_pos hw] at h ⊢
        rcases h with h | ⟨_, h⟩
        · exact wpOp_round l n hm (fun a w => wpOps_round l n hd hQ is a w) hQ h
        · exact (hQ h).elim
      · rw [if_neg hw] at h ⊢
        exact ⟨fun _ _ => trivial, wpOps_round l n hd hQ is _ w h⟩
theorem wpS_round {P : Program} {c : Code} (l n : Nat) (hc : rcode c = true) {Q : Post} (hQ : ∀ a w, ¬ Q .outgrown a w) {a : Act} {w : World} (h : Code.wpS P c Q a w) : c.wpIn (Fence.wide.inRound l) n P Q a w := by
  have lo : ∀ {Q : Post}, (∀ a w, ¬ Q .outgrown a w) → ¬ LetsOut Q := fun hQ ⟨a, w, h⟩ => hQ a w h
  induction c generalizing Q a w with
  | seq x y hx hy =>
    simp only [rcode, Bool.and_eq_true] at hc
    refine wpIn_seq (wpIn_mono (hx hc.1 (Q := Exit.then (Code.wpS P y Q) Q) hQ h) ?_)
    intro e a w h
    cases e <;> first | exact hy hc.2 hQ h | exact h
  | region id ops d =>
    cases d with
    | false => exact wpIn_region (wpOps_round l n hc (lo hQ) _ _ _ (h.1 rfl))
    | true => exact wpIn_region_draw fun t => wpOps_round l n hc (lo hQ) _ _ _ (h.2 rfl t)
  | cond c x y hx hy =>
    simp only [rcode, Bool.and_eq_true] at hc
    obtain ⟨t, h0, h1, h2⟩ := h
    exact wpIn_cond_split h0 (fun e => hx hc.1 hQ (h1 e)) (fun e => hy hc.2 hQ (h2 e))
  | block id c ih => exact wpIn_block (ih hc (Q := Exit.inBlock id Q) hQ h)
  | loop c ih =>
    obtain ⟨I, n0, h0, h1⟩ := h
    refine wpIn_loop (fun a w => ∃ k, I k a w) (fun a w => leastOf (fun k => I k a w)) ⟨n0, h0⟩ ?_
    intro a w hI
    refine wpIn_mono (ih hc (Q := Exit.then _ Q) (by exact hQ) (h1 _ a w (leastOf_spec hI).1)) ?_
    intro e a' w' hq
    cases e with
    | normal =>
      obtain ⟨k', hlt, hI'⟩ := hq
      exact show (∃ k, I k a' w') ∧ leastOf (fun k => I k a' w') < leastOf (fun k => I k a w) from ⟨⟨k', hI'⟩, Nat.lt_of_le_of_lt ((leastOf_spec ⟨k', hI'⟩).2 k' hI') hlt⟩
    | exit id => exact hq
    | goto l => exact hq
    | ret => exact hq
    | panic c => exact hq
    | outgrown => exact hq
  | exit id => exact wpIn_exit h
  | ret => exact wpIn_ret h
  | skip => exact wpIn_skip h
  | goto l => cases hc
  | label l => cases hc
  | scope c _ => cases hc
  | rangeFunc f p x y _ _ => cases hc
  | refuse s => cases hc

/-! ### a block that holds no cells -/
def oneO (b : Nat) (o : Obj) : OW := ⟨[b], fun w => w.heap[b]? = some o, fun h hk => (h b (by simp)).trans hk, fun h k hk => by simp at hk; subst hk; exact (Array.getElem?_eq_some_iff.1 h).1⟩
section
variable {w0 w : World} {M : List Nat} {A : Nat → Prop} {es : List Ent} {b k : Nat} {o o' : Obj}
theorem Sat.allocO (h : Sat w0 M A es w) (o : Obj) : Sat w0 M A (.obj (oneO w.heap.size o) :: es) (w.alloc o) := by
  have := h.step (w' := w.alloc o) [] (by simp) ⟨rfl, rfl, rfl, by simp, fun b hb _ => Below.heap_alloc w _ b hb⟩ es [.obj (oneO w.heap.size o)] (List.Sublist.refl _) (by simp)
    (by simp [keys, Ent.kl, oneO]) (by intro k hk; simp [keys, Ent.kl, oneO] at hk; subst hk; exact ⟨by simp, .inl (Nat.le_refl _)⟩)
    (by intro e he; simp at he; subst he; exact Go.heap_alloc_new w _) (by intro e he; simp at he; subst he; intros; trivial)
  exact this.perm List.perm_append_comm
theorem Sat.objAt (h : Sat w0 M A es w) {q : OW} (hk : nth es k = some (.obj q)) : q.ok w := h.okx _ (nth_mem hk)
theorem Sat.putO (h : Sat w0 M A es w) (hk : nth es k = some (.obj (oneO b o))) : Sat w0 M A (setN es k (.obj (oneO b o'))) (w.putObj b o') := by
  have hb : w.heap[b]? = some o := h.objAt hk
  have hlt := (Array.getElem?_eq_some_iff.1 hb).1
  refine h.swap' hk ⟨rfl, rfl, rfl, by simp, fun x _ hx => World.putObj_heap_other (fun e => hx (by simp [Ent.kl, oneO, e]))⟩ (World.putObj_heap_same hlt) (by simp [Ent.kl, oneO]) ?_ (fun F hF => by cases hF)
  intro x hx
  simp [Ent.kl, oneO] at hx
  subst hx
  exact ⟨by simpa using hlt, .inr (by simp [Ent.kl, oneO])⟩
end

/-! ### functions that leave with a mark -/
def markOf (D : Nat) : Deferred := { target := .collected D, args := #[] }
def defO (D : Nat) : OW := oneO D (.deferred (some []))
/-- what the body of such a function must achieve -/
def markPost (P : Program) (fn : Func) (R : Ending → World → Prop) : Post := fun e a w => match e with
  | .normal | .ret => LeavesInM Fence.wide 0 P fn a.tmps R a.defers .returning w
  | _ => False
instance {P : Program} {fn : Func} {R : Ending → World → Prop} : PanicOk (markPost P fn R) := ⟨fun _ _ _ _ _ h => h⟩
section
variable {P : Program} {K : List Lay} {l : Fr} {w0 : World} {M : List Nat} {A : Nat → Prop} {es r : List Ent} {rs : List ResultVar} {vs : List Value} {fn : Func} {X : Type} {V : X → Value} {post : X → List Ent}
theorem leaves0 {n : Nat} {a : Act} {w : World} (x : X) (ks : List Nat) (hres : fn.results = rs.toArray) (h : ResOK P l es rs vs) (hv : packV vs = V x) (hp : picks ks es = some (post x, r)) (hf : Frm ⟨n, []⟩ l a) (hw : Sat w0 M A es w) :
    LeavesInM Fence.wide 0 P fn a.tmps (fun e w' => ∃ x, e = .returned (V x) ∧ Sat w0 M A (post x) w') a.defers .returning w := by
  rw [show a.defers = [] from hf.defers]
  exact ⟨_, results_ok hres h hf hw, x, by rw [hv], hw.picks ks hp⟩
theorem leaves1 {n D kD : Nat} {a : Act} {w : World} (x : X) (ks : List Nat) (hres : fn.results = rs.toArray) (hD : nth es kD = some (.obj (defO D))) (h : ResOK P l (setN es kD (.obj (oneO D (.deferred none)))) rs vs) (hv : packV vs = V x)
    (hp : picks ks (setN es kD (.obj (oneO D (.deferred none)))) = some (post x, r)) (hf : Frm ⟨n, [markOf D]⟩ l a) (hw : Sat w0 M A es w) :
    LeavesInM Fence.wide 0 P fn a.tmps (fun e w' => ∃ x, e = .returned (V x) ∧ Sat w0 M A (post x) w') a.defers .returning w := by
  rw [show a.defers = [markOf D] from hf.defers]
  have hb : w.heap[D]? = some (.deferred (some [])) := hw.objAt hD
  have hw2 := hw.putO (o' := .deferred none) hD
  exact ⟨by simp, .inl ⟨D, _, rfl, run_takeDeferred hb, _, results_ok hres h hf hw2, x, by rw [hv], hw2.picks ks hp⟩⟩
theorem cj_rtM0 {n : Nat} (x : X) (ks : List Nat) (hres : fn.results = rs.toArray) (h : ResOK P l es rs vs) (hv : packV vs = V x) (hp : picks ks es = some (post x, r)) :
    CJ P (markPost P fn fun e w' => ∃ x, e = .returned (V x) ∧ Sat w0 M A (post x) w') .ret K ⟨n, []⟩ l (Sat w0 M A es) := cj_ret fun _ _ hf hw => leaves0 x ks hres h hv hp hf hw
theorem nj_rtM0 {n : Nat} (x : X) (ks : List Nat) (hres : fn.results = rs.toArray) (h : ResOK P l es rs vs) (hv : packV vs = V x) (hp : picks ks es = some (post x, r)) :
    NJ P (markPost P fn fun e w' => ∃ x, e = .returned (V x) ∧ Sat w0 M A (post x) w') [] ⟨n, []⟩ l (Sat w0 M A es) := nj_end fun _ _ hf hw => leaves0 x ks hres h hv hp hf hw
theorem cj_rtM {n D : Nat} (kD : Nat) (x : X) (ks : List Nat) (hres : fn.results = rs.toArray) (hD : nth es kD = some (.obj (defO D))) (h : ResOK P l (setN es kD (.obj (oneO D (.deferred none)))) rs vs) (hv : packV vs = V x)
    (hp : picks ks (setN es kD (.obj (oneO D (.deferred none)))) = some (post x, r)) :
    CJ P (markPost P fn fun e w' => ∃ x, e = .returned (V x) ∧ Sat w0 M A (post x) w') .ret K ⟨n, [markOf D]⟩ l (Sat w0 M A es) := cj_ret fun _ _ hf hw => leaves1 x ks hres hD h hv hp hf hw
theorem nj_rtM {n D : Nat} (kD : Nat) (x : X) (ks : List Nat) (hres : fn.results = rs.toArray) (hD : nth es kD = some (.obj (defO D))) (h : ResOK P l (setN es kD (.obj (oneO D (.deferred none)))) rs vs) (hv : packV vs = V x)
    (hp : picks ks (setN es kD (.obj (oneO D (.deferred none)))) = some (post x, r)) :
    NJ P (markPost P fn fun e w' => ∃ x, e = .returned (V x) ∧ Sat w0 M A (post x) w') [] ⟨n, [markOf D]⟩ l (Sat w0 M A es) := nj_end fun _ _ hf hw => leaves1 x ks hres hD h hv hp hf hw
end
theorem frm_enter {n : Nat} {fn : Func} {args : List Value} {vs : Fr} (hn : fn.ntmps = n) (hlen : Nat.ble args.length n = true) (hvs : SubA vs args) :
    Frm ⟨n, []⟩ vs { tmps := args.toArray ++ Array.replicate (fn.ntmps - args.toArray.size) undef, defers := [] } := by
  have hle : args.length ≤ n := by simpa [Nat.ble_eq] using hlen
  refine ⟨rfl, by simp [hn]; omega, fun i v hv => ?_⟩
  have h1 := hvs.look i v hv
  have h2 : i < args.length := (List.getElem?_eq_some_iff.1 h1).1
  rw [Array.getD_eq_getD_getElem?, Array.getElem?_append_left (by simpa using h2)]
  simp [h1]
theorem ctr_mkM {P : Program} {n : Nat} {f : FuncId} {fn : Func} {c : Code} {args : List Value} {xs : List Ent} {fs : List (World → Prop)} {X : Type} {V : X → Value} {post : X → List Ent} {vs : Fr} (hf : P.funcs[f]? = some fn) (hb : fn.body = some c) (hn : fn.ntmps = n)
    (hlen : Nat.ble args.length n = true) (hvs : SubA vs args)
    (h : ∀ w0 A, CJ P (markPost P fn fun e w' => ∃ x, e = .returned (V x) ∧ Sat w0 (keys xs) A (post x) w') c [] ⟨n, []⟩ vs (Sat w0 (keys xs) A (xs ++ fs.map Ent.ro))) :
    Ctr P f args.toArray xs fs V post := by
  intro w A hs
  refine callsIn_wide.1 (callsIn_of_wp_marks (F := Fence.wide) (n := 0) hf hb trivial (wpIn_mono (wpIn_wide.2 (wpS_wp (h w A _ w ?_ hs))) ?_))
  · exact frm_enter hn hlen hvs
  · intro e a w h
    cases e <;> first | exact h | exact h.elim
end Go.J
