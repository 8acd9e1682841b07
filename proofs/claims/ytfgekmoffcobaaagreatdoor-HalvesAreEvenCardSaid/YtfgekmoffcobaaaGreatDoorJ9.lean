/- J9: regions that draw their order and write; stores through an element's address. No program in sight. -/
import Derived.Test.YtfgekmoffcobaaaGreatDoorJ8
import Derived.OrdersHeld
namespace Go.J
open Go Go.RowKit
/-! ### any order -/
def AJ (P : Program) (R : Post) (opl : List Oper) (K : List Lay) (S : World → Prop) (fuel : Nat) (listed : Array Bool) (N : NN) (l : Fr) (H : World → Prop) : Prop :=
  ∀ a w, Frm N l a → H w → wpAnyH P .any opl.toArray (QK P R K) S fuel listed a w
section
variable {P : Program} {R : Post} {K : List Lay} {N : NN} {l : Fr} {H : World → Prop} {opl : List Oper} {S : World → Prop} {fuel : Nat} {listed : Array Bool} {d ty i id : Nat} {op : Op} {pos : String} {af : Array Edge} {gd : Option (Nat × Bool)} {v : Value}
variable {w0 : World} {M : List Nat} {A : Nat → Prop} {es : List Ent}
theorem cj_any (S : World → Prop) (hm : P.follows .mixedOrders = true) (h : AJ P R opl K S opl.length (Array.replicate opl.length false) N l (Sat w0 M A es)) : CJ P R (.region id opl.toArray true) K N l (Sat w0 M A es) :=
  fun a _ hf hw => wpS_region_any hm (wpAny_of_held _ _ _ _ (by simpa using h a _ hf hw.drew))
/-- what is asked where a function dies does not look at the slots -/
class PanicOk (R : Post) : Prop where
  ok : ∀ (c : List PanicEntry) (a : Act) (w : World) (dd : Option Nat) (v : Value), R (.panic c) (a.put dd v) w → R (.panic c) a w
instance {P : Program} {fn : Func} {Rp : Ending → World → Prop} : PanicOk (bodyPost P fn Rp) := ⟨fun _ _ _ dd _ h => by cases dd <;> exact h⟩
/-- no way out but the end -/
def RF : Post := fun _ _ _ => False
instance : PanicOk RF := ⟨fun _ _ _ _ _ h => h⟩
theorem QK_panic {R : Post} [PanicOk R] {c : List PanicEntry} {dd : Option Nat} : ∀ {K : List Lay} {a : Act} {w : World} {v : Value}, QK P R K (.panic c) (a.put dd v) w → QK P R K (.panic c) a w
  | [], a, w, v, h => PanicOk.ok (R := R) c a w dd v h
  | .seq _ :: K, _, _, _, h => by have := QK_panic (K := K) h; exact this
  | .inv _ :: K, _, _, _, h => by have := QK_panic (K := K) h; exact this
  | .blk _ :: K, _, _, _, h => by have := QK_panic (K := K) h; exact this
theorem aj_take0 (i : Nat) (ho : nth opl i = some ⟨some d, op, ty, pos, af, none⟩) (hs : Region.noSelect opl.toArray = true) (hf : Region.free .any opl.toArray listed i = true) (hr : (Region.ready .any opl.toArray listed).contains i = true)
    (hQ : ∀ c a w v, QK P R K (.panic c) (a.put (some d) v) w → QK P R K (.panic c) a w) (hd : Nat.blt d N.n = true) (hp : PureOp P N ⟨some d, op, ty, pos, af, none⟩ l S v) (hS : ∀ w, H w → S w)
    (h : AJ P R opl K S fuel (listed.setIfInBounds i true) N ((d, v) :: l) H) : AJ P R opl K S (fuel + 1) listed N l H := by
  intro a w hfr hw
  have ho' : opl.toArray[i]? = some ⟨some d, op, ty, pos, af, none⟩ := by rw [List.getElem?_toArray, ← nth_eq]; exact ho
  refine wpAnyH_take (oi := ⟨some d, op, ty, pos, af, none⟩) (v := v) ho' hs hf hr (fun c a w => hQ c a w v) (.inl ⟨by simp [Region.wanted], fun w' hw' => hp a w' hfr hw'⟩) (hS w hw) ?_
  exact h _ _ (hfr.put hd v) hw
/-- an operation that yields one value in every world of S is taken first -/
theorem aj_take [PanicOk R] (i : Nat) (ho : nth opl i = some ⟨some d, op, ty, pos, af, none⟩) (hs : Region.noSelect opl.toArray = true) (hf : Region.free .any opl.toArray listed i = true) (hr : (Region.ready .any opl.toArray listed).contains i = true)
    (hd : Nat.blt d N.n = true) (hp : PureOp P N ⟨some d, op, ty, pos, af, none⟩ l S v) (hS : ∀ w, H w → S w)
    (h : AJ P R opl K S fuel (listed.setIfInBounds i true) N ((d, v) :: l) H) : AJ P R opl K S (fuel + 1) listed N l H :=
  aj_take0 i ho hs hf hr (fun _ _ _ _ h => QK_panic h) hd hp hS h
theorem aj_done (hr : Region.ready .any opl.toArray listed = []) (h : NJ P R K N l H) : AJ P R opl K S fuel listed N l H := fun a w hf hw => wpAnyH_done hr (h a w hf hw) fuel
/-- one of those that may come up next -/
inductive Each (P : Program) (R : Post) (opl : List Oper) (K : List Lay) (S : World → Prop) (fuel : Nat) (listed : Array Bool) (N : NN) (l : Fr) (H : World → Prop) : List Nat → Prop where
  | nil : Each P R opl K S fuel listed N l H []
  | cons {i : Nat} {rs : List Nat} {o : Oper} (ho : nth opl i = some o)
      (h : ∀ I : Act → World → Prop, (∀ (l' : Fr) (H' : World → Prop), (∀ w, H' w → S w) → AJ P R opl K S fuel (listed.setIfInBounds i true) N l' H' → NJ P R (.inv I :: K) N l' H') → LJ P R opl.toArray [o] (.inv I :: K) N l H)
      (t : Each P R opl K S fuel listed N l H rs) : Each P R opl K S fuel listed N l H (i :: rs)
theorem aj_each {rs : List Nat} (hr : Region.ready .any opl.toArray listed = rs) (hne : rs ≠ []) (h : Each P R opl K S fuel listed N l H rs) : AJ P R opl K S (fuel + 1) listed N l H := by
  intro a w hf hw
  refine wpAnyH_all hr hne fun i hi => ?_
  clear hr hne
  induction h with
  | nil => cases hi
  | cons ho h _ ih =>
    rcases List.mem_cons.1 hi with h1 | h1
    · subst h1
      rename_i o _
      have hl := h (fun a' w' => S w' ∧ wpAnyH P .any opl.toArray (QK P R K) S fuel (listed.setIfInBounds i true) a' w') (fun l' H' hS' hA => nj_inv fun a w hf hw => ⟨hS' w hw, hA a w hf hw⟩) a w hf hw
      unfold wpOp
      have ho' : opl.toArray[i]? = some o := by rw [List.getElem?_toArray, ← nth_eq]; exact ho
      simp only [ho']
      unfold wpList at hl
      have hQ : ∀ e a w, QK P R (.inv (fun a' w' => S w' ∧ wpAnyH P .any opl.toArray (QK P R K) S fuel (listed.setIfInBounds i true) a' w') :: K) e a w → e ≠ .normal → QK P R K e a w := by
        intro e a w hq hne
        cases e with
        | normal => exact (hne rfl).elim
        | exit id => exact hq
        | goto l => exact hq
        | ret => exact hq
        | panic ch => exact hq
        | outgrown => exact hq
      split at hl
      · rename_i hwt
        rw [if_pos hwt]
        rcases hl with hl | ⟨h2, a', w', h3⟩
        · left
          unfold Oper.wp at hl ⊢
          generalize (execOp a.eval o).run P w = r at *
          cases r with
          | ok n w' =>
            cases n <;> simp only [Oper.upon] at hl ⊢ <;>
              first
                | exact hl
                | exact Calls.mono hl (fun e w'' he => by cases e <;> first | exact he | exact hQ _ _ _ he (by simp) | (obtain ⟨a, w, h⟩ := he; exact ⟨a, w, hQ _ _ _ h (by simp)⟩))
                | exact Rows.mono hl (fun _ _ he => he)
          | halt x w' => cases x <;> simp only [Oper.upon] at hl ⊢ <;> first | exact hQ _ _ _ hl (by simp) | exact hl
        · exact .inr ⟨h2, a', w', hQ _ _ _ h3 (by simp)⟩
      · rename_i hwt
        rw [if_neg hwt]
        exact hl
    · exact ih h1
end

/-! ### an element is written -/
theorem Rep.cells_set {α : Type} (R : Rep α) (xs : List α) (i : Nat) (e e' : α) (hi : xs[i]? = some e) : R.cells (xs.set i e') = (R.cells xs).take (i * R.sz) ++ R.enc e' ++ (R.cells xs).drop (i * R.sz + R.sz) := by
  induction xs generalizing i with
  | nil => cases hi
  | cons x xs ih =>
    cases i with
    | zero =>
      simp only [List.set_cons_zero, Rep.cells, List.flatMap_cons, Nat.zero_mul, List.take_zero, List.nil_append, Nat.zero_add]
      congr 1
      rw [List.drop_left' (R.len x)]
    | succ i =>
      simp only [List.getElem?_cons_succ] at hi
      have := ih i hi
      simp only [Rep.cells] at this
      simp only [List.set_cons_succ, Rep.cells, List.flatMap_cons, this]
      have h1 : (i + 1) * R.sz = (R.enc x).length + i * R.sz := by rw [R.len, Nat.add_mul]; omega
      rw [h1, List.take_length_add_append, Nat.add_assoc, List.drop_length_add_append]
      simp only [List.append_assoc]
theorem set_he {α : Type} {xs : List α} {i : Nat} {e e' : α} (h : xs[i]? = some e) : (xs.set i e')[i]? = some e' := by
  have := (List.getElem?_eq_some_iff.1 h).1
  simp [this]
section
variable {P : Program} {Rp : Post} {K : List Lay} {N : NN} {l : Fr} {ops : Array Oper} {rest : List Oper} {ty : Nat} {pos : String} {af : Array Edge} {x y : Operand} {v : Value} {T : TypeId}
variable {w0 : World} {M : List Nat} {A : Nat → Prop} {es : List Ent} {α : Type} {R : Rep α} {s : SV} {xs : List α} {e e' : α} {i o k q : Nat} {sz by_ : Nat} {zs vs : List Value}
theorem r_ste {ag : Bool} (hE : TyF P T ag sz by_ zs) (hx : ev l x = some (s.p q)) (hq : q = i * R.sz + o) (hy : ev l y = some v) (hv : v.cells = vs.toArray) (h1 : vs.all (·.oneCell') = true) (hs : Nat.beq vs.length sz = true)
    (hk : nth es k = some (.row R s.v xs)) (he : xs[i]? = some e) (e' : α) (hen : R.enc e' = splice (R.enc e) o vs) (hl : Nat.ble (o + sz) R.sz = true) (h : LJ P Rp ops rest K N l (Sat w0 M A (setN es k (.row R s.v (xs.set i e'))))) :
    LJ P Rp ops (⟨none, .store T x y, ty, pos, af, none⟩ :: rest) K N l (Sat w0 M A es) := by
  intro a w hf hw
  have hl' : o + sz ≤ R.sz := by simpa [Nat.ble_eq] using hl
  have hs' : vs.length = sz := by simpa using hs
  subst hq
  have hown := hw.row hk
  have hi : i < xs.length := (List.getElem?_eq_some_iff.1 he).1
  rcases hown.2 with ⟨_, h0⟩ | ⟨g, cap, cur, hsv, hbg, hg, hn, hcm, hcs, ht⟩
  · omega
  · injection hsv with ha hn2 hc2
    have hmul : (i + 1) * R.sz ≤ xs.length * R.sz := Nat.mul_le_mul_right _ hi
    have hmul2 : xs.length * R.sz ≤ cap * R.sz := Nat.mul_le_mul_right _ hn
    have hmul3 : (i + 1) * R.sz = i * R.sz + R.sz := by rw [Nat.add_mul]; omega
    have hst := run_storeCells_at P g (i * R.sz + o) R.T vs 0 cur w hg (by omega) (fun v hv => List.all_eq_true.1 h1 v hv)
    have hrun : (execOp a.eval ⟨none, .store T x y, ty, pos, af, none⟩).run P w = .ok .skip (w.setRow g (cur.toList.take (i * R.sz + o) ++ vs ++ cur.toList.drop (i * R.sz + o + vs.length)).toArray) := by
      simp only [Nat.add_zero] at hst
      simp [execOp, hf.ev hx, hf.ev hy, SV.p, SV.at_, ha, Instr.storeAt, Instr.sureAddr, storeVar, hv, hE.size w, hs', hst]
    refine wpList_plain rfl fun K' hK => ?_
    unfold Oper.wp
    rw [hrun]
    refine hK _ _ (h _ _ (hf.put_none undef) (hw.swap hk (e' := .row R s.v (xs.set i e')) ?_ ?_ ?_ (fun F hF => by cases hF)))
    · have : (Ent.row R s.v xs).key = some g := by simp [Ent.key, SV.v, ha, Value.ownBlock]
      rw [this]
      exact ⟨rfl, rfl, rfl, by simp, fun b _ hb => setRow_other w g b _ (fun e => hb (by simp [e]))⟩
    · refine ⟨R.cells_len _, .inr ⟨g, cap, _, by simp [SV.v, ha, hn2, hc2], hbg, setRow_heap w g cur _ R.T _ hg, by simpa using hn, hcm, ?_, ?_⟩⟩
      · simp only [List.size_toArray, List.length_append, List.length_take, List.length_drop, Array.length_toList]
        omega
      · have hlen : (R.enc e).length = R.sz := R.len e
        have e1 : cur.toList = (R.cells xs) ++ cur.toList.drop (xs.length * R.sz) := by rw [← ht, List.take_append_drop]
        have e2 : (R.cells xs).length = xs.length * R.sz := R.cells_len xs
        have e3 : R.cells xs = (R.cells xs).take (i * R.sz) ++ R.enc e ++ (R.cells xs).drop (i * R.sz + R.sz) := by
          have := R.cells_set xs i e e he
          have hself : xs.set i e = xs := by
            apply List.ext_getElem?
            intro j
            rw [List.getElem?_set]
            split
            · rename_i hij; subst hij; exact he.symm
            · rfl
          rw [hself] at this
          exact this
        rw [R.cells_set xs i e e' he, hen, splice_eq _ _ _ (by omega)]
        simp only [List.length_set]
        apply List.ext_getElem?
        intro j
        have hcj : ∀ j, j < xs.length * R.sz → cur.toList[j]? = (R.cells xs)[j]? := fun j hj => by rw [← ht, List.getElem?_take, if_pos hj]
        have hej : ∀ j, j < R.sz → (R.cells xs)[i * R.sz + j]? = (R.enc e)[j]? := fun j hj => R.cells_get xs i j e he hj
        have hl1 : ((R.cells xs).take (i * R.sz)).length = i * R.sz := by rw [List.length_take, e2]; omega
        have hl2 : ((R.enc e).take o).length = o := by rw [List.length_take, hlen]; omega
        have hl3 : (cur.toList.take (i * R.sz + o)).length = i * R.sz + o := by rw [List.length_take, Array.length_toList, hcs]; omega
        rw [List.getElem?_take]
        simp only [List.getElem?_append, List.length_append, hl1, hl2, hl3, List.length_drop, hlen, List.getElem?_take, List.getElem?_drop]
        by_cases c0 : j < xs.length * R.sz
        · rw [if_pos c0]
          by_cases c1 : j < i * R.sz
          · rw [if_pos (by omega), if_pos (by omega), if_pos (by omega), if_pos (by omega), if_pos c1, if_pos c1]
            exact hcj j c0
          · by_cases c2 : j < i * R.sz + o
            · rw [if_pos (by omega), if_pos (by omega), if_pos (by omega), if_pos (by omega), if_neg c1, if_pos (by omega), if_pos (by omega), if_pos (by omega)]
              rw [hcj j c0]
              have := hej (j - i * R.sz) (by omega)
              rw [show i * R.sz + (j - i * R.sz) = j by omega] at this
              exact this
            · by_cases c3 : j < i * R.sz + o + vs.length
              · rw [if_pos (by omega), if_neg (by omega), if_pos (by omega), if_neg c1, if_pos (by omega), if_neg (by omega)]
                congr 1; omega
              · by_cases c4 : j < i * R.sz + R.sz
                · rw [if_neg (by omega), if_pos (by omega), if_neg c1, if_neg (by omega)]
                  have h5 := hej (j - i * R.sz) (by omega)
                  rw [show i * R.sz + (j - i * R.sz) = j by omega] at h5
                  rw [show i * R.sz + o + vs.length + (j - (i * R.sz + o + vs.length)) = j by omega, hcj j c0, h5]
                  congr 1; omega
                · rw [if_neg (by omega), if_neg (by omega), show i * R.sz + o + vs.length + (j - (i * R.sz + o + vs.length)) = j by omega, hcj j c0]
                  congr 1; omega
        · rw [if_neg c0, if_neg (by omega)]
          symm
          rw [List.getElem?_eq_none_iff, e2]
          omega
    · intro b hb
      simp only [Ent.key, SV.v, ha, Value.ownBlock, Option.some.injEq] at hb
      subst hb
      exact ⟨by simp; exact (Array.getElem?_eq_some_iff.1 hg).1, .inr (by simp [Ent.key, SV.v, ha, Value.ownBlock])⟩
theorem nj_nil {β : Type} (R : Rep β) (h : NJ P Rp K N l (Sat w0 M A (.row R (SV.v nilS) [] :: es))) : NJ P Rp K N l (Sat w0 M A es) := fun a w hf hw => h a w hf (hw.nil_row R)
end
end Go.J
