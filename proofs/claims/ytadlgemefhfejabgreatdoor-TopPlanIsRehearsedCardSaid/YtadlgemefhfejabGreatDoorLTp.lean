/- LTp: TopPlanIsRehearsed. In plain Lean, no program in sight. -/
import Derived.Test.YtadlgemefhfejabGreatDoorLRq
import Derived.Test.YtadlgemefhfejabGreatDoorLRd
import Derived.Test.YtadlgemefhfejabGreatDoorLRk
import Derived.Test.YtadlgemefhfejabGreatDoorLRgu
namespace Go.G
open Go Go.J
set_option linter.unusedSimpArgs false
set_option linter.unusedVariables false
theorem h10facts_true : m_gleetop_h10facts = some true := by
  unfold m_gleetop_h10facts
  rw [ready_order, Option.bind_some, ready_name, Option.bind_some, show (TCame.mk 5 (ByteArray.mk [97, 110, 110].toArray) false) = TCame.mk 5 annB false from rfl, ready_there, Option.bind_some,
    show m_club_Members [(TAct.mk (ByteArray.mk [97].toArray) 1 0 1 (ByteArray.mk [97, 110, 110].toArray) ByteArray.empty 0 false ByteArray.empty 0)] 0 = some ([annA], 0) from one_member, Option.bind_some]
  simp only
  rw [show ∀ z : ByteArray, (z.toList == z.toList) = true from fun z => by simp]
  rfl
/-! sets of windows and what they give -/
def selS : List Int → List Nat → Nat → Int
  | v :: cs, i :: c, j => (if i = j then v else 0) + selS cs c j
  | _, _, _ => 0
theorem selS_snoc (v : Int) (i j : Nat) : ∀ (cs : List Int) (c : List Nat), cs.length = c.length → selS (cs ++ [v]) (c ++ [i]) j = selS cs c j + (if i = j then v else 0) := by
  intro cs
  induction cs with
  | nil =>
    intro c hc
    have : c = [] := List.eq_nil_of_length_eq_zero hc.symm
    subst this
    simp [selS]
  | cons w cs ih =>
    intro c hc
    cases c with
    | nil => simp at hc
    | cons k c =>
      show (if k = j then w else 0) + selS (cs ++ [v]) (c ++ [i]) j = (if k = j then w else 0) + selS cs c j + _
      rw [ih c (by simpa using hc)]; omega
theorem addB_snoc (j : Nat) : ∀ (c : List Nat) (k : Nat) (S : List Nat), addB k S (c ++ [j]) = (addB k S c).set j (((addB k S c)[j]?).getD 0 + 2 ^ (k + c.length)) := by
  intro c
  induction c with
  | nil => intro k S; rfl
  | cons i c ih =>
    intro k S
    show addB (k + 1) _ (c ++ [j]) = _
    rw [ih]
    have e : k + 1 + c.length = k + (i :: c).length := by rw [List.length_cons]; omega
    rw [e]; rfl
theorem addB_lt : ∀ (c : List Nat) (k : Nat) (S : List Nat), (∀ s ∈ S, s < 2 ^ k) → (∀ s ∈ addB k S c, s < 2 ^ (k + c.length)) ∧ (addB k S c).length = S.length := by
  intro c
  induction c with
  | nil => intro k S h; exact ⟨h, rfl⟩
  | cons i c ih =>
    intro k S h
    have h2 := ih (k + 1) (S.set i ((S[i]?).getD 0 + 2 ^ k)) (by
      intro s hs
      rw [Nat.pow_succ]
      rcases List.mem_or_eq_of_mem_set hs with g | g
      · have := h s g; omega
      · have : (S[i]?).getD 0 < 2 ^ k := by
          cases hi : S[i]? with
          | none => exact Nat.pow_pos (by omega)
          | some y => exact h y (List.mem_of_getElem? hi)
        omega)
    rw [List.length_set] at h2
    have e : k + 1 + c.length = k + (i :: c).length := by rw [List.length_cons]; omega
    rw [← e]
    exact h2
theorem bit_sel (P : Nat) (cs : List Int) : ∀ (n : Nat) (c : List Nat), c.length = n → n ≤ cs.length → (∀ i ∈ c, i < P) → ∀ j, j < P → bitA cs 0 (((addB 0 (List.replicate P 0) c)[j]?).getD 0) = selS (cs.take n) c j := by
  intro n
  induction n with
  | zero =>
    intro c hc _ _ j hj
    have : c = [] := List.eq_nil_of_length_eq_zero hc
    subst this
    show bitA cs 0 (((List.replicate P 0)[j]?).getD 0) = _
    rw [List.getElem?_replicate, if_pos hj, List.take_zero]
    have : bitA (cs.take 0) 0 0 = bitA cs 0 0 := bitA_take cs 0 0 (by decide)
    show bitA cs 0 0 = _
    rw [← this]; rfl
  | succ n ih =>
    intro c hc hn hP j hj
    rcases List.eq_nil_or_concat c with rfl | ⟨c', i, rfl⟩
    · simp at hc
    · rw [List.concat_eq_append] at *
      rw [List.length_append, List.length_singleton] at hc
      have hc' : c'.length = n := by omega
      have hi : i < P := hP i (by simp)
      have hP' : ∀ y ∈ c', y < P := fun y hy => hP y (List.mem_append_left _ hy)
      have hZ := addB_lt c' 0 (List.replicate P 0) (fun s h => by rw [List.eq_of_mem_replicate h]; decide)
      rw [Nat.zero_add, hc', List.length_replicate] at hZ
      have hgn : cs[n]? = some (cs[n]'(by omega)) := List.getElem?_eq_getElem (by omega)
      rw [addB_snoc, Nat.zero_add, hc', List.take_add_one, hgn]
      have et : (some (cs[n]'(by omega))).toList = [cs[n]'(by omega)] := rfl
      rw [et, selS_snoc _ _ _ _ _ (by rw [List.length_take]; omega), ← ih c' hc' (by omega) hP' j hj, List.getElem?_set]
      have hlt : ∀ y, y < P → ((addB 0 (List.replicate P 0) c')[y]?).getD 0 < 2 ^ n := fun y hy => by
        rw [List.getElem?_eq_getElem (by omega)]
        exact hZ.1 _ (List.getElem_mem ..)
      by_cases e : i = j
      · subst e
        rw [if_pos rfl, if_pos (by omega), if_pos rfl, Option.getD_some, bitA_add (hlt i hi), if_pos (Nat.zero_le _), Nat.sub_zero, hgn]; rfl
      · rw [if_neg e, if_neg e]; omega
/-! the slots -/
def hallB : ByteArray := ByteArray.mk [104, 97, 108, 108].toArray
def keyI (i : Nat) : ByteArray := (catM (ByteArray.mk [115].toArray) (Utf8.encode (IntKind.wrap .i32 (w64 (97 + (i : Int)))))).getD ByteArray.empty
theorem keyI_ok (i : Nat) (h : i < 4) : catM (ByteArray.mk [115].toArray) (Utf8.encode (IntKind.wrap .i32 (w64 (97 + (i : Int))))) = some (keyI i) ∧ isKey (keyI i) = true := by
  have : i = 0 ∨ i = 1 ∨ i = 2 ∨ i = 3 := by omega
  rcases this with rfl | rfl | rfl | rfl
  · exact ⟨by kernel_rfl, by kernel_rfl⟩
  · exact ⟨by kernel_rfl, by kernel_rfl⟩
  · exact ⟨by kernel_rfl, by kernel_rfl⟩
  · exact ⟨by kernel_rfl, by kernel_rfl⟩
theorem keyI_all : ([0, 1, 2, 3].all fun i => [0, 1, 2, 3].all fun j => i == j || !sameB (keyI i) (keyI j)) = true := by kernel_rfl
theorem keyI_ne (i j : Nat) (hi : i < 4) (hj : j < 4) (h : i ≠ j) : sameB (keyI i) (keyI j) = false := by
  have hm : ∀ n : Nat, n < 4 → n ∈ [0, 1, 2, 3] := fun n hn => by
    have : n = 0 ∨ n = 1 ∨ n = 2 ∨ n = 3 := by omega
    simpa using this
  have h1 := List.all_eq_true.1 (List.all_eq_true.1 keyI_all i (hm i hi)) j (hm j hj)
  rw [show (i == j) = false from beq_eq_false_iff_ne.2 h, Bool.false_or] at h1
  simpa using h1
def mkSl : Nat → List TWindow → List ByteArray → List TSlot
  | i, w :: ws, p :: ps => ⟨keyI i, hallB, p, [], w⟩ :: mkSl (i + 1) ws ps
  | _, _, _ => []
theorem mkSl_get : ∀ (ws : List TWindow) (ps : List ByteArray) (n i : Nat) (s : TSlot), (mkSl n ws ps)[i]? = some s → ∃ w p, ws[i]? = some w ∧ ps[i]? = some p ∧ s = ⟨keyI (n + i), hallB, p, [], w⟩ := by
  intro ws
  induction ws with
  | nil => intro ps n i s h; simp [mkSl] at h
  | cons w ws ih =>
    intro ps n i s h
    cases ps with
    | nil => simp [mkSl] at h
    | cons p ps =>
      cases i with
      | zero => cases h; exact ⟨w, p, rfl, rfl, rfl⟩
      | succ i =>
        obtain ⟨w', p', h1, h2, h3⟩ := ih ps (n + 1) i s h
        exact ⟨w', p', h1, h2, by rw [h3]; congr 2; omega⟩
theorem mkSl_len : ∀ (ws : List TWindow) (ps : List ByteArray) (n : Nat), ws.length = ps.length → (mkSl n ws ps).length = ws.length := by
  intro ws
  induction ws with
  | nil => intro ps n _; cases ps <;> rfl
  | cons w ws ih =>
    intro ps n h
    cases ps with
    | nil => simp at h
    | cons p ps =>
      show (mkSl (n + 1) ws ps).length + 1 = _
      rw [ih ps (n + 1) (by simpa using h)]; rfl
theorem slots_run (ps : List ByteArray) (l n : Int) : ∀ (t : List TWindow) (i : Nat) (u : List TSlot), i + t.length = ps.length → ps.length ≤ 4 → u.length = i → rangeM (m_gleetop_TopPlanIsRehearsed_l1 (ps, l, n)) i t u = some (.brk (u ++ mkSl i t (ps.drop i))) := by
  intro t
  induction t with
  | nil => intro i u _ _ _; cases h : ps.drop i <;> simp [mkSl]
  | cons w t ih =>
    intro i u hi hp hu
    rw [List.length_cons] at hi
    have hg : ps[i]? = some (ps[i]'(by omega)) := List.getElem?_eq_getElem (by omega)
    have hst : m_gleetop_TopPlanIsRehearsed_l1 (ps, l, n) i w u = some (.nxt (u ++ [⟨keyI i, hallB, ps[i]'(by omega), [], w⟩])) := by
      unfold m_gleetop_TopPlanIsRehearsed_l1
      rw [(keyI_ok i (by omega)).1, Option.bind_some, getI_of rfl hg, Option.bind_some, appM_of (by rw [List.length_singleton]; omega) (by omega)]; rfl
    rw [rangeM_cons, hst, Option.bind_some, run_nxt, ih (i + 1) _ (by omega) hp (by rw [List.length_append, List.length_singleton, hu]), List.drop_eq_getElem_cons (by omega : i < ps.length)]
    show _ = some (Flow.brk (u ++ (_ :: mkSl (i + 1) t (ps.drop (i + 1)))))
    simp
/-- windows one behind the other -/
theorem fr_pw {free : List TWindow} (h : ∀ (i : Nat) x, free[i]? = some x → frF free i x = 0) : free.Pairwise fun a b => a.To ≤ b.From := by
  have hT : ∀ f ∈ free, isT f = true := fun f hf => fr_isT h hf
  have hs : ∀ i : Nat, ∀ (h1 : i + 1 < free.length), (free[i]'(by omega)).To ≤ free[i + 1].From := by
    intro i h1
    have := h (i + 1) free[i + 1] (List.getElem?_eq_getElem h1)
    unfold frF at this
    rw [if_neg (by omega), Nat.add_sub_cancel, List.getElem?_eq_getElem (by omega), hT _ (List.getElem_mem ..)] at this
    simp only [Bool.not_true, cond_false] at this
    cases ho : decide (free[i + 1].From < (free[i]'(by omega)).To) <;> rw [ho] at this
    · have := of_decide_eq_false ho; omega
    · cases this
  have key : ∀ (n i : Nat) (hi : i + n + 1 < free.length), (free[i]'(by omega)).To ≤ free[i + n + 1].From := by
    intro n
    induction n with
    | zero => intro i hi; exact hs i hi
    | succ n ih =>
      intro i hi
      have h1 := ih i (by omega)
      have h2 := hs (i + n + 1) (by omega)
      have h3 := isT_iff.1 (hT (free[i + n + 1]'(by omega)) (List.getElem_mem ..))
      have e : i + n + 1 + 1 = i + (n + 1) + 1 := by omega
      simp only [e] at h2
      omega
  rw [List.pairwise_iff_getElem]
  intro i j hi hj hij
  have := key (j - i - 1) i (by omega)
  have e : i + (j - i - 1) + 1 = j := by omega
  simp only [e] at this
  exact this
theorem risF_nil : risF [] = 0 := rfl
theorem mkSl_ok {free : List TWindow} {ps : List ByteArray} (hl : free.length = ps.length) (h4 : free.length ≤ 4) (hf : ∀ (i : Nat) x, free[i]? = some x → frF free i x = 0) (hp : ∀ p ∈ ps, isKey p = true) :
    (∀ (i : Nat) x, (mkSl 0 free ps)[i]? = some x → sF (mkSl 0 free ps) i x = 0) ∧ (∀ (i : Nat) x, (mkSl 0 free ps)[i]? = some x → conf (mkSl 0 free ps) i x = false) := by
  have hT : ∀ f ∈ free, isT f = true := fun f hfm => fr_isT hf hfm
  have hpw := List.pairwise_iff_getElem.1 (fr_pw hf)
  have hlen := mkSl_len free ps 0 hl
  have hprev : ∀ (i j : Nat) x o, j < i → (mkSl 0 free ps)[i]? = some x → (mkSl 0 free ps)[j]? = some o → sameB o.Key x.Key = false ∧ o.Time.To ≤ x.Time.From ∧ o.Time.From < o.Time.To := by
    intro i j x o hji hx ho
    obtain ⟨w, p, h1, h2, rfl⟩ := mkSl_get free ps 0 i x hx
    obtain ⟨w', p', h3, h4', rfl⟩ := mkSl_get free ps 0 j o ho
    obtain ⟨hi, rfl⟩ := List.getElem?_eq_some_iff.1 h1
    obtain ⟨hj, rfl⟩ := List.getElem?_eq_some_iff.1 h3
    refine ⟨keyI_ne _ _ (by omega) (by omega) (by omega), hpw j i hj hi hji, (isT_iff.1 (hT _ (List.getElem_mem hj))).2.1⟩
  have htake : ∀ (i : Nat) o, o ∈ (mkSl 0 free ps).take i → ∃ j, j < i ∧ (mkSl 0 free ps)[j]? = some o := by
    intro i o ho
    obtain ⟨j, hj, rfl⟩ := List.getElem_of_mem ho
    rw [List.length_take] at hj
    exact ⟨j, by omega, by rw [List.getElem_take, List.getElem?_eq_getElem]⟩
  constructor
  · intro i x hx
    have hx0 := hx
    have hi := (List.getElem?_eq_some_iff.1 hx).1
    obtain ⟨w, p, h1, h2, rfl⟩ := mkSl_get free ps 0 i x hx
    unfold sF
    have hany : ((mkSl 0 free ps).take i).any (fun o => sameB o.Key (keyI (0 + i))) = false := by
      refine List.any_eq_false.2 fun o ho => ?_
      obtain ⟨j, hj, hjo⟩ := htake i o ho
      have := (hprev i j _ o hj hx0 hjo).1
      simp only at this
      rw [this]; simp
    simp only
    rw [(keyI_ok (0 + i) (by omega)).2, show isKey hallB = true by kernel_rfl, hp p (List.mem_of_getElem? h2), hany, risF_nil, hT w (List.mem_of_getElem? h1)]
    by_cases h0 : i = 0
    · rw [if_pos h0]; rfl
    · rw [if_neg h0, List.getElem?_eq_getElem (by omega)]
      have hh := hprev i (i - 1) _ ((mkSl 0 free ps)[i - 1]'(by omega)) (by omega) hx0 (List.getElem?_eq_getElem (by omega))
      simp only at hh
      have ho : ordS ((mkSl 0 free ps)[i - 1]'(by omega)) ⟨keyI (0 + i), hallB, p, [], w⟩ = false := by
        unfold ordS
        simp only
        rw [decide_eq_false (show ¬ w.From < ((mkSl 0 free ps)[i - 1]'(by omega)).Time.From by omega), decide_eq_false (show ¬ w.From = ((mkSl 0 free ps)[i - 1]'(by omega)).Time.From by omega)]; rfl
      simp only
      rw [ho]; rfl
  · intro i x hx
    unfold conf
    refine List.any_eq_false.2 fun o ho => ?_
    obtain ⟨j, hj, hjo⟩ := htake i o ho
    have := hprev i j x o hj hx hjo
    unfold meetB
    rw [show decide (x.Time.From < o.Time.To) = false from decide_eq_false (by omega)]
    simp
/-! all were there -/
def came4 : List TCame := sgr4.map fun k => ⟨0, k, false⟩
theorem came4_0 : cmF came4 0 ⟨0, ByteArray.mk [97, 110, 110].toArray, false⟩ = 0 := by kernel_rfl
theorem came4_1 : cmF came4 1 ⟨0, ByteArray.mk [98, 111, 98].toArray, false⟩ = 0 := by kernel_rfl
theorem came4_2 : cmF came4 2 ⟨0, ByteArray.mk [99, 105, 100].toArray, false⟩ = 0 := by kernel_rfl
theorem came4_3 : cmF came4 3 ⟨0, ByteArray.mk [100, 97, 110].toArray, false⟩ = 0 := by kernel_rfl
theorem came4_ok : CmOK came4 := by
  refine ⟨by decide, fun i x hx => ?_⟩
  have hi := (List.getElem?_eq_some_iff.1 hx).1
  have : i = 0 ∨ i = 1 ∨ i = 2 ∨ i = 3 := by
    have : came4.length = 4 := rfl
    omega
  rcases this with rfl | rfl | rfl | rfl <;> cases hx
  · exact came4_0
  · exact came4_1
  · exact came4_2
  · exact came4_3
theorem came4_th {s : ByteArray} (hs : s ∈ sgr4) {t : Int} (ht : 0 ≤ t) : thB came4 s t = true := by
  simp only [sgr4, List.mem_cons, List.not_mem_nil, or_false] at hs
  rcases hs with rfl | rfl | rfl | rfl <;> (unfold thB came4 sgr4; simp [ht])
/-- how long slots of a piece last that follow each other -/
theorem as_len (x : TSings) : ∀ (l : List TSlot), (l.Pairwise fun a b => a.Time.To ≤ b.Time.From) → (∀ s ∈ l, 0 ≤ s.Time.From ∧ s.Time.From < s.Time.To ∧ s.Time.To ≤ EndI) →
    cntW (asB l x) 0 EndI = l.foldr (fun s n => (if askB s x = true then s.Time.To - s.Time.From else 0) + n) 0 := by
  intro l
  induction l with
  | nil => intro _ _; exact cntW_none fun _ _ _ => rfl
  | cons s l ih =>
    intro hpw hok
    have h1 := List.pairwise_cons.1 hpw
    have hs := hok s (List.mem_cons_self ..)
    rw [List.foldr_cons, ← ih h1.2 fun y hy => hok y (List.mem_cons_of_mem _ hy)]
    have e : asB (s :: l) x = fun t => (askB s x && hasW s.Time t) || asB l x t := rfl
    rw [e, cntW_or]
    · congr 1
      cases ha : askB s x with
      | false => rw [if_neg (by simp)]; exact cntW_none fun _ _ _ => rfl
      | true =>
        rw [if_pos rfl]
        have e2 : cntW (fun t => true && hasW s.Time t) 0 EndI = cntW (fun t => hasW s.Time t && true) 0 EndI := cntW_congr fun t _ _ => by rw [Bool.true_and, Bool.and_true]
        rw [e2, cntW_win, show max 0 s.Time.From = s.Time.From by omega, show min EndI s.Time.To = s.Time.To by omega, cntW_all (by omega) fun _ _ _ => rfl]
    · intro t _ _ ht
      rw [Bool.and_eq_true] at ht
      refine List.any_eq_false.2 fun y hy g => ?_
      rw [Bool.and_eq_true] at g
      have h2 := hasW_iff.1 ht.2
      have h3 := hasW_iff.1 g.2
      have h4 := h1.1 y hy
      omega
theorem sel_slots (pieces : List ByteArray) (x : TSings) (j : Nat) (hj : ∀ i, i < pieces.length → (pieces[i]? = some x.Piece ↔ i = j)) : ∀ (free : List TWindow) (c : List Nat) (n : Nat), free.length = c.length → (∀ i ∈ c, i < pieces.length) →
    (mkSl n free (pickP pieces c)).foldr (fun s m => (if askB s x = true then s.Time.To - s.Time.From else 0) + m) 0 = selS (free.map fun f => f.To - f.From) c j := by
  intro free
  induction free with
  | nil => intro c n hc _; cases c <;> rfl
  | cons f free ih =>
    intro c n hc hlt
    cases c with
    | nil => simp at hc
    | cons i c =>
      have hi := hlt i (List.mem_cons_self ..)
      have hp : pickP pieces (i :: c) = pieces[i] :: pickP pieces c := by unfold pickP; rw [List.filterMap_cons, List.getElem?_eq_getElem hi]
      rw [hp]
      show (if askB ⟨keyI n, hallB, pieces[i], [], f⟩ x = true then f.To - f.From else 0) + (mkSl (n + 1) free (pickP pieces c)).foldr _ 0 = (if i = j then f.To - f.From else 0) + selS _ c j
      rw [ih c (n + 1) (by simpa using hc) fun y hy => hlt y (List.mem_cons_of_mem _ hy)]
      congr 1
      have hiff : askB ⟨keyI n, hallB, pieces[i], [], f⟩ x = true ↔ i = j := by
        rw [← hj i hi, List.getElem?_eq_getElem hi]
        unfold askB
        rw [Bool.and_eq_true, sameB_iff]
        simp
      by_cases e : i = j
      · rw [if_pos e, if_pos (hiff.2 e)]
      · rw [if_neg e, if_neg (fun g => e (hiff.1 g))]
theorem aways_nil : m_rehearse_aways [] = some [] := by
  unfold m_rehearse_aways
  rw [rangeM_nil, Option.bind_some, fin_brk]
  exact anyOrd_nil _
theorem SepM_nil : SepM [] := fun s => ⟨⟨List.Pairwise.nil, (fun _ h => by cases h)⟩, by show (0 : Nat) ≤ 1000; omega⟩
theorem can_nil (s : ByteArray) (f : TWindow) : canF [] s f = f.To - f.From := by unfold canF; show (f.To - f.From) - 0 = _; omega
theorem AwOK_nil : AwOK [] := ⟨by simp, fun i x h => by simp at h⟩
theorem Plan_eq (free : List TWindow) (pieces : List ByteArray) (hl : free.length ≤ 1000000) : m_rehearse_planFault free pieces = m_gleeref2_PlanFault free pieces := by
  unfold m_rehearse_planFault m_gleeref2_PlanFault
  rw [rangeM_cg (f := m_rehearse_planFault_l1 free) (g := m_gleeref2_PlanFault_l1 free) (fun i x s hx => by rw [fr_prog free hl i x hx, fr_ref free hl i x hx]) (), names_eq]
theorem Wishes_tot (w : List TWish) : ∃ e, m_rehearse_CheckWishes w = some e ∧ (e = 0 → WiOK w) := by
  unfold m_rehearse_CheckWishes
  by_cases h : (w.length : Int) > 200
  · rw [decide_eq_true h, ifB_true]; exact ⟨2, rfl, fun g => by cases g⟩
  · rw [decide_eq_false h, ifB_false]
    obtain ⟨e, h1, h2⟩ := loop_out _ (wiF w) w (wi_prog w (by omega))
    exact ⟨e, h1, fun g => ⟨by omega, h2.1 g⟩⟩
/-- what is lacked by none is given to all -/
theorem lack_zero {free : List TWindow} {p : ByteArray} {A : Rows} {need : Int} {s : Nat} (hA : SepM A) (hf : ∀ f ∈ free, isT f = true) (hn : 0 ≤ need ∧ need ≤ 86400000) : ∀ (g : List TSings), lackG free p A need g s = 0 → ∀ x ∈ g, x.Piece = p → need ≤ bitA (free.map (canF A x.Singer)) 0 s := by
  intro g
  induction g with
  | nil => intro _ x hx; cases hx
  | cons y g ih =>
    intro h x hx hxp
    have e1 : lackG free p A need (y :: g) s = (if y.Piece = p then lackX need (free.map (canF A y.Singer)) s else 0) + lackG free p A need g s := rfl
    have h1 := (lackG_bd (p := p) hA hf hn s g).1
    have h2 : 0 ≤ (if y.Piece = p then lackX need (free.map (canF A y.Singer)) s else 0) := by
      split
      · unfold lackX; omega
      · omega
    rw [e1] at h
    rcases List.mem_cons.1 hx with rfl | hx
    · rw [if_pos hxp] at h h2
      unfold lackX at h h2
      omega
    · exact ih (by omega) x hx hxp
theorem asked_ref (k : ByteArray) : ∀ (g : List TSings) (i : Nat) (u : List ByteArray), u.length + g.length ≤ 1000 → rangeM (m_gleeref2_AskedTo_l1 ⟨ByteArray.empty, ByteArray.empty, k, [], ⟨0, 0⟩⟩) i g u = some (.brk (u ++ (g.filter fun x => sameB x.Piece k).map (·.Singer))) := by
  intro g
  induction g with
  | nil => intro i u _; simp
  | cons x g ih =>
    intro i u hu
    rw [List.length_cons] at hu
    have hst : m_gleeref2_AskedTo_l1 ⟨ByteArray.empty, ByteArray.empty, k, [], ⟨0, 0⟩⟩ i x u = some (.nxt (if sameB x.Piece k = true then u ++ [x.Singer] else u)) := by
      unfold m_gleeref2_AskedTo_l1
      simp only
      show ((ifB (sameB x.Piece k) _ _ : Option _).bind _) = _
      cases sameB x.Piece k
      · rfl
      · rw [ifB_true, show ((([] : List ByteArray).length : Int) == 0) = true from rfl, ifB_true, Option.bind_some, fin_inl, ifB_true, appM_of (by rw [List.length_singleton]; omega) (by omega)]; rfl
    rw [rangeM_cons, hst, Option.bind_some, run_nxt, List.filter_cons]
    by_cases h : sameB x.Piece k = true
    · rw [if_pos h, if_pos h, ih _ _ (by rw [List.length_append, List.length_singleton]; omega)]; simp
    · rw [if_neg h, if_neg h, ih _ _ (by omega)]
theorem ready_run {l : List TSlot} (hs : SlR l) {c : List TCame} {q : Rows} (hq : Pres c q) (g : List TSings) (k : ByteArray) (a need : Int) (b : Bool) : ∀ (t : List TSings) (i : Nat) (u : List ByteArray), u.length + t.length ≤ 1000 →
    rangeM (m_rehearse_Ready_l2 l g k a q (need, b)) i t u = some (.brk (u ++ (t.filter fun x => sameB x.Piece k && decide (rehN l c x a ≥ need)).map (·.Singer))) := by
  intro t
  induction t with
  | nil => intro i u _; simp
  | cons x t ih =>
    intro i u hu
    rw [List.length_cons] at hu
    have hst : m_rehearse_Ready_l2 l g k a q (need, b) i x u = some (.nxt (if (sameB x.Piece k && decide (rehN l c x a ≥ need)) = true then u ++ [x.Singer] else u)) := by
      unfold m_rehearse_Ready_l2
      simp only
      show ((ifB (sameB x.Piece k) _ _ : Option _).bind _) = _
      cases sameB x.Piece k
      · rfl
      · rw [ifB_true, rehearsed_spec hs hq, Option.bind_some, Option.bind_some, fin_inl, Bool.true_and]
        cases decide (rehN l c x a ≥ need)
        · rfl
        · rw [ifB_true, appM_of (by rw [List.length_singleton]; omega) (by omega)]; rfl
    rw [rangeM_cons, hst, Option.bind_some, run_nxt, List.filter_cons]
    by_cases h : (sameB x.Piece k && decide (rehN l c x a ≥ need)) = true
    · rw [if_pos h, if_pos h, ih _ _ (by rw [List.length_append, List.length_singleton]; omega)]; simp
    · rw [if_neg h, if_neg h, ih _ _ (by omega)]
theorem optB_some' {α β : Type} (x : α) (n : Option β) (f : α → Option β) : optB (some x) n f = f x := rfl
theorem Ready_spec {l : List TSlot} {g : List TSings} {c : List TCame} {w : List TWish} {k : ByteArray} {a : Int} (h1 : m_rehearse_CheckSlots l = some 0) (hs : SlR l) (h2 : m_rehearse_CheckSings g = some 0) (hg : g.length ≤ 1000) (hc : CmOK c) (hw : WiOK w) (hk : isKey k = true) (ha : isMo a = true) :
    m_rehearse_Ready l g c w k a = some ((g.filter fun x => sameB x.Piece k && decide (rehN l c x a ≥ (wishOf w k).getD 1)).map (·.Singer), 0) := by
  obtain ⟨P, h3, h4⟩ := keeper_ok (g := g) h1 h2 hc
  unfold m_rehearse_Ready
  rw [h3, Option.bind_some]
  simp only
  rw [optB_some']
  refine anyOrd_of fun q hq => ?_
  rw [show ((0 : Int) != 0) = false from rfl, ifB_false, Wishes_ok hw, Option.bind_some, show ((0 : Int) != 0) = false from rfl, ifB_false, isKey_prog, hk, Option.bind_some, Bool.not_true, ifB_false, isMo_prog, ha, Option.bind_some, Bool.not_true, ifB_false, needOf_spec w k hw, Option.bind_some]
  cases hwo : wishOf w k with
  | none => simp only [Option.getD_none]; rw [ready_run hs (h4.perm hq) g k a 1 false g 0 [] (by simp; omega)]; simp
  | some n => simp only [Option.getD_some]; rw [ready_run hs (h4.perm hq) g k a n true g 0 [] (by simp; omega)]; simp
theorem EqualS_refl (a : List ByteArray) : m_slices_Equal_string_string a a = some true := by
  unfold m_slices_Equal_string_string
  rw [show ((a.length : Int) != (a.length : Int)) = false from bne_self_eq_false _, ifB_false]
  obtain ⟨s, h1, -⟩ := rangeM_invx (m_slices_Equal_string_string_l1 a) a (fun _ _ => True) (by
    intro i x s hx _
    unfold m_slices_Equal_string_string_l1
    rw [getI_of rfl hx, Option.bind_some, show (!(x.toList == x.toList)) = false by simp]
    exact ⟨_, rfl, trivial⟩) () trivial
  rw [h1]; rfl
theorem wish_any (w : List TWish) (k : ByteArray) : m_slices_ContainsFunc_api_Wish_api_Wish__gleetop_TopPlanIsRehearsed_1 w k = some (wishOf w k).isSome := by
  unfold m_slices_ContainsFunc_api_Wish_api_Wish__gleetop_TopPlanIsRehearsed_1 m_slices_IndexFunc_api_Wish_api_Wish__gleetop_TopPlanIsRehearsed_1
  obtain ⟨j, h1, h2⟩ := index_dec (m_slices_IndexFunc_api_Wish_api_Wish__gleetop_TopPlanIsRehearsed_1_l1 k) (fun z => sameB z.Piece k) (fun i o => by
    unfold m_slices_IndexFunc_api_Wish_api_Wish__gleetop_TopPlanIsRehearsed_1_l1 m_gleetop_TopPlanIsRehearsed_1
    rw [Option.bind_some]
    show ifB (sameB o.Piece k) _ _ = _
    cases sameB o.Piece k <;> rfl) w
  rw [h1, Option.bind_some, h2]
  congr 1
  unfold wishOf
  rw [Option.isSome_map]
  induction w with
  | nil => rfl
  | cons x w ih =>
    have ih' : (w.any fun z => sameB z.Piece k) = (w.find? fun x => decide (x.Piece = k)).isSome := by
      clear h1 h2 ih
      induction w with
      | nil => rfl
      | cons y w ih2 =>
        rw [List.any_cons, List.find?_cons]
        by_cases e : y.Piece = k
        · rw [decide_eq_true e, sameB_iff.2 e]; rfl
        · rw [decide_eq_false e, show sameB y.Piece k = false from Bool.eq_false_iff.2 fun g => e (sameB_iff.1 g), Bool.false_or, ih2]
    rw [List.any_cons, List.find?_cons]
    by_cases e : x.Piece = k
    · rw [decide_eq_true e, sameB_iff.2 e]; rfl
    · rw [decide_eq_false e, show sameB x.Piece k = false from Bool.eq_false_iff.2 fun g => e (sameB_iff.1 g), Bool.false_or, ih']
theorem TopPlanIsRehearsed_true (L : List Int) : m_gleetop_TopPlanIsRehearsed L = some true := by
  unfold m_gleetop_TopPlanIsRehearsed
  obtain ⟨free, p1, e1, a1, b1, c1, d1⟩ := Frees_spec L (p := 0) (by omega) (by omega)
  obtain ⟨g, p2, e2, a2, b2, c2, d2⟩ := RightSings_spec L (p := p1) a1 (by omega)
  obtain ⟨w, p4, e4, a4, b4, -⟩ := Wishes_spec L (p := p2) a2 (by omega)
  rw [e1, Option.bind_some]
  simp only
  rw [e2, Option.bind_some]
  simp only
  rw [e4, Option.bind_some]
  simp only
  have hS := Sings_ok d2 (by omega)
  obtain ⟨f3, h3, k3⟩ := Wishes_zero w
  obtain ⟨f1, h1, k1⟩ := Plan_zero free [gloB, kyrB] (by decide)
  obtain ⟨f4, h4, k4⟩ := Wishes_tot w
  have hpl : m_rehearse_planFault free [gloB, kyrB] = some f1 := by rw [Plan_eq _ _ (by omega)]; exact h1
  change ((m_rehearse_Plan free [gloB, kyrB] g [] w).bind fun y10 => ifB (y10.2.2 != 0) (((m_gleeref2_PlanFault free [gloB, kyrB]).bind _).bind _) (ifB _ _ ((rangeM _ 0 free []).bind fun f26 => Flow.fin f26 fun u23 => (rangeM m_gleetop_TopPlanIsRehearsed_l2 0 sgr4 []).bind fun f54 => Flow.fin f54 fun u51 => (rangeM _ 0 [gloB, kyrB] ()).bind _))) = _
  by_cases hok : f4 = 0 ∧ f1 = 0
  case neg =>
    have hbad : ∃ e, e ≠ 0 ∧ m_rehearse_Plan free [gloB, kyrB] g [] w = some ([], 0, e) := by
      unfold m_rehearse_Plan
      rw [hS, Option.bind_some, show ((0 : Int) != 0) = false from rfl, ifB_false, Away_ok AwOK_nil, Option.bind_some, show ((0 : Int) != 0) = false from rfl, ifB_false, h4, Option.bind_some]
      by_cases z : f4 = 0
      · have z1 : f1 ≠ 0 := fun z1 => hok ⟨z, z1⟩
        rw [show (f4 != 0) = false by simpa using z, ifB_false, hpl, Option.bind_some, show (f1 != 0) = true by simpa using z1, ifB_true]
        exact ⟨f1, z1, rfl⟩
      · rw [show (f4 != 0) = true by simpa using z, ifB_true]
        exact ⟨f4, z, rfl⟩
    obtain ⟨e, he, hr⟩ := hbad
    rw [hr, Option.bind_some]
    simp only
    rw [show (e != 0) = true by simpa using he, ifB_true, h1, Option.bind_some]
    by_cases z1 : f1 = 0
    case neg => rw [show (f1 != 0) = true by simpa using z1, ifB_true, h10facts_true]; rfl
    rw [show (f1 != 0) = false by simpa using z1, ifB_false, h3, Option.bind_some]
    have z3 : f3 ≠ 0 := fun z3 => hok ⟨by
      have hw := Wishes_ok (k3 z3)
      rw [h4] at hw
      exact Option.some.inj hw, z1⟩
    rw [show (f3 != 0) = true by simpa using z3, ifB_true, h10facts_true]; rfl
  case pos =>
    have hW := k4 hok.1
    have hF := k1 hok.2
    have hfT : ∀ f ∈ free, isT f = true := fun f h => fr_isT hF.ok h
    obtain ⟨c, l, hc, hr, hl, -⟩ := Plan_spec hS (by omega) AwOK_nil aways_nil SepM_nil hW hF (by decide)
    have hpe : ∀ p ∈ pickP [gloB, kyrB] c, p = gloB ∨ p = kyrB := by
      intro p hp
      obtain ⟨i, _, hi⟩ := List.mem_filterMap.1 hp
      have := List.mem_of_getElem? hi
      simpa using this
    have hpk : ∀ p ∈ pickP [gloB, kyrB] c, isKey p = true := fun p hp => by
      rcases hpe p hp with rfl | rfl
      · exact gk_key.1
      · exact gk_key.2.1
    have hplen : (pickP [gloB, kyrB] c).length = free.length := by rw [pickP_len hc.2, hc.1]
    rw [hr, Option.bind_some]
    simp only
    rw [show ((0 : Int) != 0) = false from rfl, ifB_false, hplen, show ((free.length : Int) != (free.length : Int)) = false from bne_self_eq_false _, ifB_false]
    rw [slots_run _ l 0 free 0 [] (by omega) (by omega) rfl, Option.bind_some, fin_brk, List.nil_append, List.drop_zero]
    have hcm : rangeM m_gleetop_TopPlanIsRehearsed_l2 0 sgr4 [] = some (.brk came4) := by kernel_rfl
    rw [hcm, Option.bind_some, fin_brk]
    obtain ⟨hsf, hcf⟩ := mkSl_ok hplen.symm c1 hF.ok hpk
    have hmlen := mkSl_len free (pickP [gloB, kyrB] c) 0 hplen.symm
    have hSl := Slots_ok (by omega) hsf hcf
    have hSr := sl_rise (by omega) hsf
    -- one piece
    have hone : ∀ (k : ByteArray) (j : Nat) (i : Nat), isKey k = true → j < 2 → ([gloB, kyrB] : List ByteArray)[j]? = some k → (∀ i, i < 2 → (([gloB, kyrB] : List ByteArray)[i]? = some k ↔ i = j)) →
        m_gleetop_TopPlanIsRehearsed_l3 (g, p2) (w, p4) (pickP [gloB, kyrB] c, l, 0) (mkSl 0 free (pickP [gloB, kyrB] c)) came4 i k () = some (.nxt ()) := by
      intro k j i hk hj hkj hkiff
      unfold m_gleetop_TopPlanIsRehearsed_l3
      simp only
      by_cases hl0 : l > 0
      · rw [decide_eq_true hl0, ifB_true, Option.bind_some, fin_inl, ifB_true]
      rw [decide_eq_false hl0, ifB_false, wish_any, Option.bind_some, Option.bind_some, fin_inl]
      cases hwo : wishOf w k with
      | none => rfl
      | some need =>
        simp only [Option.isSome_some, Bool.not_true, ifB_false]
        rw [Ready_spec hSl hSr hS (by omega) came4_ok hW hk (by decide), Option.bind_some, hwo, Option.getD_some]
        unfold m_gleeref2_AskedTo
        rw [asked_ref k g 0 [] (by simp; omega), Option.bind_some, fin_brk, Option.bind_some, List.nil_append]
        have hneed : 1 ≤ need ∧ need ≤ 86400000 := by
          unfold wishOf at hwo
          cases hfd : w.find? (fun x => decide (x.Piece = k)) with
          | none => rw [hfd] at hwo; cases hwo
          | some x => rw [hfd] at hwo; cases hwo; exact wi_need hW (List.mem_of_find?_eq_some hfd)
        have hall : (g.filter fun x => sameB x.Piece k && decide (rehN (mkSl 0 free (pickP [gloB, kyrB] c)) came4 x 345686399999 ≥ need)) = g.filter fun x => sameB x.Piece k := by
          refine List.filter_congr fun x hx => ?_
          cases hsx : sameB x.Piece k with
          | false => rfl
          | true =>
            have hxk := sameB_iff.1 hsx
            rw [Bool.true_and]
            refine decide_eq_true ?_
            -- what is rehearsed
            have hpwS : (mkSl 0 free (pickP [gloB, kyrB] c)).Pairwise fun a b => a.Time.To ≤ b.Time.From := by
              rw [List.pairwise_iff_getElem]
              intro y z hy hz hyz
              obtain ⟨wy, py, q1, q2, q3⟩ := mkSl_get _ _ 0 y _ (List.getElem?_eq_getElem hy)
              obtain ⟨wz, pz, r1, r2, r3⟩ := mkSl_get _ _ 0 z _ (List.getElem?_eq_getElem hz)
              rw [q3, r3]
              obtain ⟨hy', rfl⟩ := List.getElem?_eq_some_iff.1 q1
              obtain ⟨hz', rfl⟩ := List.getElem?_eq_some_iff.1 r1
              exact List.pairwise_iff_getElem.1 (fr_pw hF.ok) y z hy' hz' hyz
            have hokS : ∀ s ∈ mkSl 0 free (pickP [gloB, kyrB] c), (0 ≤ s.Time.From ∧ s.Time.From < s.Time.To ∧ s.Time.To ≤ EndI) ∧ s.Time.To ≤ 1000 := by
              intro s hs
              obtain ⟨y, hy, rfl⟩ := List.getElem_of_mem hs
              obtain ⟨wy, py, q1, q2, q3⟩ := mkSl_get _ _ 0 y _ (List.getElem?_eq_getElem hy)
              rw [q3]
              have h8 := isT_iff.1 (hfT wy (List.mem_of_getElem? q1))
              have h9 := d1 wy (List.mem_of_getElem? q1)
              unfold DrW at h9
              simp only
              exact ⟨h8, by omega⟩
            have hreh : rehN (mkSl 0 free (pickP [gloB, kyrB] c)) came4 x 345686399999 = selS (free.map fun f => f.To - f.From) c j := by
              unfold rehN
              rw [cntW_congr (q := asB (mkSl 0 free (pickP [gloB, kyrB] c)) x) (fun t h0 hE => by
                rw [came4_th (d2.ok x hx).1 h0, Bool.and_true]
                cases has : asB (mkSl 0 free (pickP [gloB, kyrB] c)) x t with
                | false => rw [Bool.and_false]
                | true =>
                  obtain ⟨s, hs, hp⟩ := List.any_eq_true.1 has
                  rw [Bool.and_eq_true] at hp
                  have := (hokS s hs).2
                  have := hasW_iff.1 hp.2
                  rw [decide_eq_true (by omega)]; rfl), as_len x _ hpwS fun s hs => (hokS s hs).1]
              exact sel_slots [gloB, kyrB] x j (by rw [hxk]; exact hkiff) free c 0 hc.1.symm hc.2
            rw [hreh]
            -- nobody lacks
            have hz : lackG free k [] need g (((addB 0 (List.replicate 2 0) c)[j]?).getD 0) = 0 := by
              have hZ := (addB_lt c 0 (List.replicate 2 0) (fun s h => by rw [List.eq_of_mem_replicate h]; decide)).2
              rw [List.length_replicate] at hZ
              have hl2 : l = totS (facL free [gloB, kyrB] g [] w) (addB 0 (List.replicate 2 0) c) := hl
              generalize addB 0 (List.replicate 2 0) c = Z at hZ hl2 ⊢
              match Z, hZ with
              | [z0, z1], _ =>
                have h5 := lackP_bd (p := gloB) (free := free) SepM_nil hfT hW z0 g
                have h6 := lackP_bd (p := kyrB) (free := free) SepM_nil hfT hW z1 g
                have h7 : l = lackP free gloB g [] w z0 + (lackP free kyrB g [] w z1 + 0) := hl2
                have hj2 : j = 0 ∨ j = 1 := by omega
                rcases hj2 with rfl | rfl
                · have ek : gloB = k := Option.some.inj hkj
                  have h8 : lackP free gloB g [] w z0 = 0 := by omega
                  unfold lackP at h8
                  rw [ek, hwo] at h8
                  exact h8
                · have ek : kyrB = k := Option.some.inj hkj
                  have h8 : lackP free kyrB g [] w z1 = 0 := by omega
                  unfold lackP at h8
                  rw [ek, hwo] at h8
                  exact h8
            have h5 := lack_zero SepM_nil hfT (by omega) g hz x hx hxk
            have hcan : free.map (canF [] x.Singer) = free.map fun f => f.To - f.From := List.map_congr_left fun f _ => can_nil _ f
            rw [hcan, bit_sel 2 _ free.length c hc.1 (by rw [List.length_map]; exact Nat.le_refl _) hc.2 j hj] at h5
            rw [List.take_of_length_le (by rw [List.length_map]; exact Nat.le_refl _)] at h5
            exact h5
        rw [hall, show ((0 : Int) != 0) = false from rfl, ifB_false, EqualS_refl, Option.bind_some, Bool.not_true, Option.bind_some, fin_inl, ifB_false]
    have hr1 := hone gloB 0 0 gk_key.1 (by omega) rfl (fun i hi => by
      have : i = 0 ∨ i = 1 := by omega
      rcases this with rfl | rfl
      · exact ⟨fun _ => rfl, fun _ => rfl⟩
      · exact ⟨fun h => by
          have : kyrB = gloB := Option.some.inj h
          exact absurd this (by decide), fun h => by cases h⟩)
    have hr2 := hone kyrB 1 1 gk_key.2.1 (by omega) rfl (fun i hi => by
      have : i = 0 ∨ i = 1 := by omega
      rcases this with rfl | rfl
      · exact ⟨fun h => by
          have : gloB = kyrB := Option.some.inj h
          exact absurd this (by decide), fun h => by cases h⟩
      · exact ⟨fun _ => rfl, fun _ => rfl⟩)
    rw [rangeM_cons, hr1, Option.bind_some, run_nxt, rangeM_cons, hr2, Option.bind_some, run_nxt, rangeM_nil, Option.bind_some, fin_brk, h10facts_true]; rfl
end Go.G
