/- LO4: the reference's search through all orders. In plain Lean, no program in sight. -/
import Derived.Test.YtgjbeigeejhfkaaDoorLO3
namespace Go.G
open Go Go.J
theorem ItemAt_key (q : List TItem) (k : ByteArray) : ∃ n, m_gleeref2_ItemAt q k = some n ∧ (n < 0 ↔ ∀ x ∈ q, x.Key ≠ k) := by
  obtain ⟨n, h1, h2⟩ := ixM_spec (fun x => m_gleeref2_ItemAt_1 x k) (fun x => x.Key.toList == k.toList) q (fun x _ => rfl)
  refine ⟨n, ?_, ?_⟩
  · unfold m_gleeref2_ItemAt
    rw [show m_slices_IndexFunc_api_Item_api_Item__gleeref2_ItemAt_1 q k = ixM (fun x => m_gleeref2_ItemAt_1 x k) q from rfl, h1]; rfl
  · rcases h2 with ⟨rfl, h⟩ | ⟨j, rfl, hj, -, x, hx, hd⟩
    · refine ⟨fun _ x hx e => ?_, fun _ => by omega⟩
      have := h x hx
      rw [e] at this
      simp at this
    · refine ⟨fun h => by omega, fun h => absurd ?_ (h x (List.mem_of_getElem? hx))⟩
      exact ba_toList_inj.1 (by simpa using hd)
theorem ItemsFault_keys (a : List TItem) (h0 : m_gleeref2_ItemsFault a = some 0) : (a.map (·.Key)).Nodup := by
  have hlen : a.length ≤ 60 := by obtain ⟨e, he, hq⟩ := ItemsFault_total a; rw [h0] at he; cases he; exact (hq rfl).1
  unfold m_gleeref2_ItemsFault at h0
  rw [decide_eq_false (by omega), ifB_false] at h0
  obtain ⟨f, h, hq⟩ := rangeM_post (m_gleeref2_ItemsFault_l1 a) a (fun n _ => ((a.take n).map (·.Key)).Nodup)
    (fun f => match f with | .nxt _ => False | .brk _ => (a.map (·.Key)).Nodup | .ret e => e ≠ 0) (by
    intro i x s hx hI
    have hi := (List.getElem?_eq_some_iff.1 hx).1
    unfold m_gleeref2_ItemsFault_l1
    rw [isKey_ref, isKey_ref, Option.bind_some, Option.bind_some]
    have hk : ∃ b, ifB (!isKey x.Key) (some (.inl true)) (some (.inl (!isKey x.Places))) = (some (.inl b) : Option (Bool ⊕ (Flow Unit Int))) := by
      cases isKey x.Key
      · exact ⟨true, rfl⟩
      · exact ⟨_, rfl⟩
    obtain ⟨b, hb⟩ := hk
    rw [hb, Option.bind_some]
    cases b with
    | true => exact ⟨.ret 5, rfl, by simp, by simp, by simp⟩
    | false =>
      rw [fin_inl, ifB_false, sliceI_of (lo := 0) (hi := (i : Int)) (a := 0) (b := i) rfl rfl (by omega) (by omega), Option.bind_some, List.drop_zero, Nat.sub_zero]
      obtain ⟨n, hn, hn2⟩ := ItemAt_key (List.take i a) x.Key
      rw [hn, Option.bind_some]
      by_cases h0 : n ≥ 0
      · rw [decide_eq_true h0]; exact ⟨.ret 6, rfl, by simp, by simp, by simp⟩
      rw [decide_eq_false h0, ifB_false, in_spec, Option.bind_some]
      by_cases h1 : 1 ≤ x.Long ∧ x.Long ≤ 86400000
      · rw [decide_eq_true h1, Bool.not_true, ifB_false]
        cases h2 : ((x.Parts.length : Int) == 0) with
        | true => exact ⟨.ret 8, rfl, by simp, by simp, by simp⟩
        | false =>
          rw [ifB_false]
          by_cases h3 : (x.Parts.length : Int) > 12
          · rw [decide_eq_true h3]; exact ⟨.ret 2, rfl, by simp, by simp, by simp⟩
          rw [decide_eq_false h3, ifB_false]
          obtain ⟨e, he⟩ := Rising_total x.Parts (by omega)
          rw [he, Option.bind_some]
          by_cases h4 : e = 0
          · subst h4
            refine ⟨.nxt (), rfl, fun s' _ => ?_, by simp, by simp⟩
            rw [List.take_add_one, hx]
            simp only [Option.toList_some, List.map_append, List.map_cons, List.map_nil]
            rw [List.nodup_append]
            refine ⟨hI, by simp, ?_⟩
            intro b hb c hc
            simp only [List.mem_cons, List.mem_nil_iff, or_false] at hc
            subst hc
            obtain ⟨z, hz, rfl⟩ := List.mem_map.1 hb
            exact hn2.1 (by omega) z hz
          · have : (e != 0) = true := by simpa using h4
            rw [this]
            exact ⟨.ret e, rfl, by simp, by simp, fun v hv => by cases hv; exact h4⟩
      · rw [decide_eq_false h1]; exact ⟨.ret 1, rfl, by simp, by simp, by simp⟩)
    (fun s hI => by rw [List.take_length] at hI; exact hI) () (by simp)
  rw [h, Option.bind_some] at h0
  cases f with
  | nxt s => exact hq.elim
  | brk s => exact hq
  | ret e => exact absurd (Option.some.inj h0) hq
/-- the orders that begin with some -/
def exts (items : List TItem) : Nat → List TItem → List (List TItem)
  | 0, h => [h]
  | d + 1, h => items.flatMap fun x => if ∀ y ∈ h, y.Key ≠ x.Key then exts items d (h ++ [x]) else []
theorem exts_mem {items : List TItem} (hk : (items.map (·.Key)).Nodup) : ∀ (d : Nat) (h rest : List TItem), (h ++ rest).Perm items → rest.length = d → ∀ x, x ∈ exts items d h ↔ x.Perm items ∧ h <+: x := by
  intro d
  induction d with
  | zero =>
    intro h rest hp hr x
    have : rest = [] := List.eq_nil_of_length_eq_zero hr
    subst this
    rw [List.append_nil] at hp
    simp only [exts, List.mem_singleton]
    constructor
    · rintro rfl; exact ⟨hp, List.prefix_refl _⟩
    · rintro ⟨h1, h2⟩
      exact (h2.eq_of_length (by rw [h1.length_eq, hp.length_eq])).symm
  | succ d ih =>
    intro h rest hp hr x
    simp only [exts, List.mem_flatMap]
    constructor
    · rintro ⟨y, hy, hx⟩
      split at hx
      · rename_i hnew
        have hyr : y ∈ rest := by
          rcases List.mem_append.1 (hp.symm.subset hy) with q | q
          · exact absurd rfl (hnew y q)
          · exact q
        obtain ⟨s, t, rfl⟩ := List.append_of_mem hyr
        have hp' : (h ++ [y] ++ (s ++ t)).Perm items := by
          refine List.Perm.trans ?_ hp
          rw [List.append_assoc]
          exact List.Perm.append_left h (List.perm_middle (a := y) (l₁ := s) (l₂ := t)).symm
        obtain ⟨h1, h2⟩ := (ih (h ++ [y]) (s ++ t) hp' (by simp at hr ⊢; omega) x).1 hx
        exact ⟨h1, (List.prefix_append h [y]).trans h2⟩
      · cases hx
    · rintro ⟨h1, t, rfl⟩
      have htl : t.length = d + 1 := by
        have e1 := h1.length_eq
        have e2 := hp.length_eq
        simp at e1 e2; omega
      obtain ⟨y, t, rfl⟩ : ∃ y t', t = y :: t' := by
        cases t with
        | nil => simp at htl
        | cons y t => exact ⟨y, t, rfl⟩
      refine ⟨y, h1.subset (by simp), ?_⟩
      have hn : ((h ++ y :: t).map (·.Key)).Nodup := ((h1.map (·.Key)).nodup_iff).2 hk
      rw [if_pos]
      · exact (ih (h ++ [y]) t (by simpa using h1) (by simpa using htl) _).2 ⟨h1, ⟨t, by simp⟩⟩
      · intro z hz e
        rw [List.map_append, List.nodup_append] at hn
        exact hn.2.2 z.Key (List.mem_map.2 ⟨z, hz, rfl⟩) y.Key (by simp) e
def foundB (p : TProgram) (b : Option (List TItem)) : Bool × List TItem :=
  match b with
  | none => (false, p.Items)
  | some l => (true, l)
theorem shared_spec {p : TProgram} (h : ProgOK p) : m_gleeref2_shared p = some (shN p (p.Items.length - 1)) := by
  have hl := h.len
  unfold m_gleeref2_shared
  obtain ⟨f, h1, h2⟩ := loopM_post (m_gleeref2_shared_l1 p) (fun s => ∃ i : Nat, s = (shN p i, (i : Int)) ∧ i ≤ p.Items.length - 1) (fun s => (p.Items.length - s.2).toNat)
    (fun f => ∃ s, f = .brk s ∧ s.1 = shN p (p.Items.length - 1)) (by
    rintro s ⟨i, rfl, hi⟩
    have hr := shN_rng p i
    unfold m_gleeref2_shared_l1
    simp only
    have e1 : w64 ((i : Int) + 1) = ((i + 1 : Nat) : Int) := by rw [w64_id (by omega)]; rfl
    rw [e1]
    by_cases h1 : ((i + 1 : Nat) : Int) < (p.Items.length : Int)
    · rw [decide_eq_true h1, ifB_true]
      have hi1 : p.Items[i]? = some (p.Items[i]'(by omega)) := List.getElem?_eq_getElem _
      have hi2 : p.Items[i + 1]? = some (p.Items[i + 1]'(by omega)) := List.getElem?_eq_getElem _
      have e2 : shN p (i + 1) = shN p i + if comI p i = true then 1 else 0 := rfl
      have e3 : comI p i = ((decide ((i : Int) ≠ p.Half)) && comB (p.Items[i]'(by omega)) (p.Items[i + 1]'(by omega))) := by unfold comI; rw [hi1, hi2]
      have e4 : (ifB ((i : Int) != p.Half) ((getI p.Items (i : Int)).bind fun e11 => (m_slices_ContainsFunc_string_string__gleeref2_shared_1 e11.Parts p.Items p.Change p.Clap p.Break p.Half (i : Int)).bind fun y12 => some (.inl y12)) (some (.inl false)) : Option (Bool ⊕ (Flow (Int × Int) Int))) = some (.inl (comI p i)) := by
        rw [e3]
        by_cases g : (i : Int) = p.Half
        · rw [show ((i : Int) != p.Half) = false by simpa using g, ifB_false]; simp [g]
        · rw [show ((i : Int) != p.Half) = true by simpa using g, ifB_true, getI_of rfl hi1, Option.bind_some]
          unfold m_slices_ContainsFunc_string_string__gleeref2_shared_1
          rw [show ∀ q, m_slices_IndexFunc_string_string__gleeref2_shared_1 q p.Items p.Change p.Clap p.Break p.Half (i : Int) = ixM (fun s => m_gleeref2_shared_1 s p.Items p.Change p.Clap p.Break p.Half (i : Int)) q from fun q => rfl]
          rw [any_ix (d := fun s => memB s (p.Items[i + 1]'(by omega)).Parts) (fun s _ => by unfold m_gleeref2_shared_1; rw [e1, getI_of rfl hi2, Option.bind_some, ContainsS_spec]; rfl)]
          simp [g, comB]
      rw [e4, Option.bind_some, fin_inl]
      cases hc : comI p i with
      | true => rw [ifB_true]; exact .inl ⟨_, rfl, ⟨i + 1, by rw [e2, hc, if_pos rfl, w64_id (by omega)], by omega⟩, by simp only; omega⟩
      | false => rw [ifB_false]; exact .inl ⟨_, rfl, ⟨i + 1, by rw [e2, hc]; simp, by omega⟩, by simp only; omega⟩
    · rw [decide_eq_false h1, ifB_false]
      exact .inr (.inl ⟨_, rfl, _, rfl, by simp only; rw [show i = p.Items.length - 1 by omega]⟩)) (0, 0) ⟨0, rfl, by omega⟩
  obtain ⟨s, rfl, h3⟩ := h2
  rw [h1, Option.bind_some, fin_brk, h3]
theorem keysOf_spec (l : List TItem) (hl : l.length ≤ 60) : m_gleeref2_keysOf l = some (l.map (·.Key)) := by
  unfold m_gleeref2_keysOf
  obtain ⟨s, h1, h2⟩ := rangeM_invx m_gleeref2_keysOf_l1 l (fun i s => s = (l.take i).map (·.Key)) (by
    rintro i x s hx rfl
    unfold m_gleeref2_keysOf_l1
    rw [appM_of (by simp; omega) (by omega), Option.bind_some]
    exact ⟨_, rfl, by rw [List.take_add_one, hx]; simp⟩) [] rfl
  rw [h1, Option.bind_some, fin_brk, h2]; simp
theorem better_spec {p q : TProgram} (h : ProgOK p) (h' : ProgOK q) : m_gleeref2_BestOrder_1 p q = some (decide ((K p).lt (K q))) := by
  unfold m_gleeref2_BestOrder_1
  obtain ⟨c, h1, h2, h3⟩ := CompareII (bg p p.Items.length) (shN p (p.Items.length - 1)) (bg q q.Items.length) (shN q (q.Items.length - 1))
  obtain ⟨c', g1, g2⟩ := CompareS_spec (p.Items.map (·.Key)) (q.Items.map (·.Key))
  rw [LongOf_spec h, Option.bind_some, shared_spec h, Option.bind_some, LongOf_spec h', Option.bind_some, shared_spec h', Option.bind_some, h1, Option.bind_some, Option.bind_some, fin_inl]
  by_cases e : c = 0
  · obtain ⟨e1, e2⟩ := h3.1 e
    rw [show (c != 0) = false by simpa using e, ifB_false, keysOf_spec _ h.len, Option.bind_some, keysOf_spec _ h'.len, Option.bind_some, g1, Option.bind_some]
    congr 1
    rw [decide_eq_decide, g2, List.map_map, List.map_map]
    unfold K Rk.lt
    simp only [e1, e2, Int.lt_irrefl, true_and, false_or]
    exact Iff.rfl
  · rw [show (c != 0) = true by simpa using e, ifB_true]
    congr 1
    rw [decide_eq_decide, h2]
    unfold K Rk.lt
    simp only
    constructor
    · rintro (q | ⟨q, r⟩)
      · exact .inl q
      · exact .inr ⟨q, .inl r⟩
    · rintro (q | ⟨q, r | ⟨r, -⟩⟩)
      · exact .inl q
      · exact .inr ⟨q, r⟩
      · exact absurd (h3.2 ⟨q, r⟩) e
theorem CloneI (t : List TItem) (hl : t.length ≤ 60) : m_slices_Clone_api_Item_api_Item t = some t := by
  unfold m_slices_Clone_api_Item_api_Item
  rw [appM_of (by simp; omega) (by omega)]; rfl
theorem try_spec {p : TProgram} (h : ProgOK p) : ∀ (d fu : Nat), d < fu → d ≤ p.Items.length → ∀ (hv rest : List TItem), (hv ++ rest).Perm p.Items → rest.length = d → ∀ b : Option (List TItem), (∀ l, b = some l → l.Perm p.Items) →
    m_gleeref2_BestOrder_2__gleeref2_BestOrder_1__self fu hv p.Items p.Change p.Clap p.Break p.Half (foundB p b).1 (foundB p b).2 p.Change p.Clap p.Break p.Half =
      some ((foundB p ((exts p.Items d hv).foldl (best1 (KP p)) b)).1, (foundB p ((exts p.Items d hv).foldl (best1 (KP p)) b)).2, p.Change, p.Clap, p.Break, p.Half) ∧
    ∀ l, (exts p.Items d hv).foldl (best1 (KP p)) b = some l → l.Perm p.Items := by
  intro d
  have hlen := h.len
  induction d with
  | zero =>
    intro fu hfu _ hv rest hp hr b hb
    obtain ⟨fu, rfl⟩ : ∃ k, fu = k + 1 := ⟨fu - 1, by omega⟩
    have : rest = [] := List.eq_nil_of_length_eq_zero hr
    subst this
    rw [List.append_nil] at hp
    have hok := perm_ok h hp
    unfold m_gleeref2_BestOrder_2__gleeref2_BestOrder_1__self m_gleeref2_BestOrder_2__gleeref2_BestOrder_1__self_b
    rw [show ((hv.length : Int) == (p.Items.length : Int)) = true by rw [hp.length_eq]; simp, ifB_true]
    simp only [exts, List.foldl_cons, List.foldl_nil]
    cases b with
    | none => exact ⟨rfl, fun l hl => by cases hl; exact hp⟩
    | some y =>
      have hy := hb y rfl
      have hb2 := better_spec hok (perm_ok h hy)
      unfold setI at hb2
      unfold foundB best1
      simp only [Bool.not_true, ifB_false]
      rw [hb2, Option.bind_some, Option.bind_some, fin_inl, ifB_ite]
      by_cases g : (K ⟨hv, p.Change, p.Clap, p.Break, p.Half⟩).lt (K ⟨y, p.Change, p.Clap, p.Break, p.Half⟩)
      · rw [if_pos g, if_pos (show (KP p hv).lt (KP p y) from g)]
        exact ⟨rfl, fun l hl => by cases hl; exact hp⟩
      · rw [if_neg g, if_neg (show ¬ (KP p hv).lt (KP p y) from g)]
        exact ⟨rfl, fun l hl => by cases hl; exact hy⟩
  | succ d ih =>
    intro fu hfu hd hv rest hp hr b hb
    obtain ⟨fu, rfl⟩ : ∃ k, fu = k + 1 := ⟨fu - 1, by omega⟩
    have hvl : hv.length + (d + 1) = p.Items.length := by rw [← hp.length_eq]; simp [hr]
    unfold m_gleeref2_BestOrder_2__gleeref2_BestOrder_1__self m_gleeref2_BestOrder_2__gleeref2_BestOrder_1__self_b
    rw [show ((hv.length : Int) == (p.Items.length : Int)) = false by simp; omega, ifB_false]
    obtain ⟨s, h1, h2, h3⟩ := rangeM_invx (m_gleeref2_BestOrder_2__gleeref2_BestOrder_1__self_l1 hv p.Items p.Change p.Clap p.Break p.Half (m_gleeref2_BestOrder_2__gleeref2_BestOrder_1__self fu)) p.Items
      (fun i s => (s = ((foundB p (((p.Items.take i).flatMap fun x => if ∀ y ∈ hv, y.Key ≠ x.Key then exts p.Items d (hv ++ [x]) else []).foldl (best1 (KP p)) b)).1, p.Change, p.Clap, p.Break, p.Half,
        (foundB p (((p.Items.take i).flatMap fun x => if ∀ y ∈ hv, y.Key ≠ x.Key then exts p.Items d (hv ++ [x]) else []).foldl (best1 (KP p)) b)).2)) ∧
        ∀ l, ((p.Items.take i).flatMap fun x => if ∀ y ∈ hv, y.Key ≠ x.Key then exts p.Items d (hv ++ [x]) else []).foldl (best1 (KP p)) b = some l → l.Perm p.Items) (by
      rintro i x s hx ⟨rfl, hI⟩
      obtain ⟨n, hn1, hn2⟩ := ItemAt_key hv x.Key
      unfold m_gleeref2_BestOrder_2__gleeref2_BestOrder_1__self_l1
      simp only
      rw [hn1, Option.bind_some]
      have e1 : (p.Items.take (i + 1)).flatMap (fun x => if ∀ y ∈ hv, y.Key ≠ x.Key then exts p.Items d (hv ++ [x]) else []) = (p.Items.take i).flatMap (fun x => if ∀ y ∈ hv, y.Key ≠ x.Key then exts p.Items d (hv ++ [x]) else []) ++ (if ∀ y ∈ hv, y.Key ≠ x.Key then exts p.Items d (hv ++ [x]) else []) := by
        rw [List.take_add_one, hx, List.flatMap_append]; simp
      rw [e1]
      simp only [List.foldl_append]
      by_cases g : ∀ y ∈ hv, y.Key ≠ x.Key
      · rw [decide_eq_true (hn2.2 g), ifB_true, CloneI _ (by omega), Option.bind_some, appM_of (by simp; omega) (by omega), Option.bind_some]
        simp only [if_pos g]
        have hxr : x ∈ rest := by
          rcases List.mem_append.1 (hp.symm.subset (List.mem_of_getElem? hx)) with q | q
          · exact absurd rfl (g x q)
          · exact q
        obtain ⟨s, t, rfl⟩ := List.append_of_mem hxr
        have hp' : (hv ++ [x] ++ (s ++ t)).Perm p.Items := by
          refine List.Perm.trans ?_ hp
          rw [List.append_assoc]
          exact List.Perm.append_left hv (List.perm_middle (a := x) (l₁ := s) (l₂ := t)).symm
        obtain ⟨q1, q2⟩ := ih fu (by omega) (by omega) (hv ++ [x]) (s ++ t) hp' (by simp at hr ⊢; omega) _ hI
        rw [q1, Option.bind_some]
        exact ⟨_, rfl, rfl, q2⟩
      · rw [decide_eq_false (fun q => g (hn2.1 q)), ifB_false]
        simp only [if_neg g, List.foldl_nil]
        exact ⟨_, rfl, rfl, hI⟩) ((foundB p b).1, p.Change, p.Clap, p.Break, p.Half, (foundB p b).2) ⟨by simp, by simpa using hb⟩
    rw [h1, Option.bind_some, fin_brk]
    rw [List.take_length] at h2 h3
    simp only [exts]
    rw [h2]
    exact ⟨rfl, h3⟩
/-- THE TWO SEARCHES find the same. -/
theorem Order_spec {p : TProgram} {e : Int} (he : m_gleeref2_ProgramFault p = some e) (hok : e = 0 → ProgOK p) (hk : e = 0 → (p.Items.map (·.Key)).Nodup) (hn : p.Items.length ≤ 7) :
    ∃ o n, m_concert_Order p = some (if e = 0 then o else [], if e = 0 then n else 0, e) ∧ (e = 0 → m_gleeref2_BestOrder p = some (o, n)) := by
  unfold m_concert_Order
  rw [CheckProgram_eq, he, Option.bind_some]
  by_cases h0 : e = 0
  · subst h0
    have h := hok rfl
    obtain ⟨y, y', a1, a2, a3, a4, a5⟩ := best_same (KP p) (ords p.Items.length p.Items.length p.Items) (exts p.Items p.Items.length []) (fun x => by
      rw [ords_mem _ _ _ (Nat.le_refl _) rfl, exts_mem (hk rfl) _ [] p.Items (by simp) rfl]; simp) (List.ne_nil_of_mem (a := p.Items) ((ords_mem _ _ _ (Nat.le_refl _) rfl _).2 ⟨.refl _, rfl⟩))
    have hy := ((ords_mem _ _ _ (Nat.le_refl _) rfl _).1 a3).1
    have hy' := ((exts_mem (hk rfl) _ [] p.Items (by simp) rfl _).1 a4).1
    have c1 := congrArg Rk.a a5
    have c3 := congrArg Rk.k a5
    have hkeys : y.map (·.Key) = y'.map (·.Key) := by
      have : (y.map (·.Key)).map ByteArray.toList = (y'.map (·.Key)).map ByteArray.toList := by rw [List.map_map, List.map_map]; exact c3
      exact List.map_inj_right (fun a b q => ba_toList_inj.1 q) |>.1 this
    refine ⟨y.map (·.Key), bg (setI p y) y.length, ?_, fun _ => ?_⟩
    · rw [show ((0 : Int) != 0) = false from rfl, ifB_false, decide_eq_false (by omega), ifB_false, CloneI _ h.len, Option.bind_some]
      have hs := orders_spec h hn p.Items.length FUEL (by unfold FUEL; omega) (Nat.le_refl _) p.Items (.refl _) none
      rw [Nat.sub_self, a1] at hs
      rw [show m_concert_orders__al__concert_Order_1 FUEL 0 p.Items p.Change p.Clap p.Break p.Half false 0 0 [] = some (p.Items, foundA p (some y)) from hs, Option.bind_some]
      rfl
    · unfold m_gleeref2_BestOrder
      obtain ⟨q1, -⟩ := try_spec h p.Items.length FUEL (by unfold FUEL; omega) (Nat.le_refl _) [] p.Items (by simp) rfl none (by simp)
      rw [a2] at q1
      rw [show m_gleeref2_BestOrder_2__gleeref2_BestOrder_1__self FUEL [] p.Items p.Change p.Clap p.Break p.Half false p.Items p.Change p.Clap p.Break p.Half = some (true, y', p.Change, p.Clap, p.Break, p.Half) from q1, Option.bind_some]
      simp only
      have hl := LongOf_spec (perm_ok h hy')
      unfold setI at hl
      rw [keysOf_spec _ (by rw [hy'.length_eq]; exact h.len), Option.bind_some, hl, Option.bind_some, hkeys]
      have c1' : bg (setI p y) y.length = bg (setI p y') y'.length := c1
      rw [c1']; rfl
  · refine ⟨[], 0, ?_, fun h => absurd h h0⟩
    rw [show (e != 0) = true by simpa using h0, ifB_true, if_neg h0, if_neg h0]
end Go.G
