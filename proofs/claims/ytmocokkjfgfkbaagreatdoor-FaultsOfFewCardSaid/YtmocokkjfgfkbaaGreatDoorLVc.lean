/- LVc: FaultsOfFew. In plain Lean, no program in sight. -/
import Derived.Test.YtmocokkjfgfkbaaGreatDoorLVb
import Derived.Test.YtmocokkjfgfkbaaGreatDoorLR1g
namespace Go.G
open Go Go.J
set_option linter.unusedSimpArgs false
set_option linter.unusedVariables false
theorem Max_spec (l : List Int) (h0 : l ≠ []) (hl : l.length ≤ 1000) : ∃ m, m_slices_Max_int_int l = some m ∧ ∀ x ∈ l, x ≤ m := by
  cases l with
  | nil => exact (h0 rfl).elim
  | cons a t =>
    unfold m_slices_Max_int_int
    rw [decide_eq_false (by rw [List.length_cons]; omega), ifB_false, show getI (a :: t) 0 = some a from rfl, Option.bind_some]
    obtain ⟨f, h1, m, k, rfl, h2⟩ := loopM_post (m_slices_Max_int_int_l1 (a :: t)) (fun s => ∃ k : Nat, 1 ≤ k ∧ k ≤ (a :: t).length ∧ s.2 = (k : Int) ∧ ∀ i x, i < k → (a :: t)[i]? = some x → x ≤ s.1) (fun s => (a :: t).length - s.2.toNat) (fun f => ∃ m k, f = .brk (m, k) ∧ ∀ x ∈ a :: t, x ≤ m) (by
      rintro ⟨m, k'⟩ ⟨k, hk, hkl, rfl, hm⟩
      simp only at hm ⊢
      unfold m_slices_Max_int_int_l1
      simp only []
      by_cases hlt : k < (a :: t).length
      · left
        have hx : (a :: t)[k]? = some (a :: t)[k] := List.getElem?_eq_getElem hlt
        rw [decide_eq_true (by omega), ifB_true, getI_of rfl hx, Option.bind_some, w64_id (by omega)]
        refine ⟨_, rfl, ⟨k + 1, by omega, by omega, by simp, fun i x hi hxi => ?_⟩, by simp only; omega⟩
        rcases Nat.lt_succ_iff_lt_or_eq.1 hi with h | h
        · have := hm i x h hxi
          omega
        · subst h
          rw [hx] at hxi
          cases hxi
          omega
      · right; left
        rw [decide_eq_false (by omega), ifB_false]
        refine ⟨_, rfl, _, _, rfl, fun x hx => ?_⟩
        obtain ⟨i, hi, hix⟩ := List.getElem_of_mem hx
        exact hm i x (by omega) (by rw [List.getElem?_eq_getElem hi, hix])) (a, 1) ⟨1, Nat.le_refl _, by simp, rfl, fun i x hi hx => by
          have : i = 0 := by omega
          subst this
          cases hx
          exact Int.le_refl _⟩
    rw [h1, Option.bind_some, fin_brk]
    exact ⟨m, rfl, h2⟩
theorem EqualFt (l : List TFault) : m_slices_Equal_api_Fault_api_Fault l l = some true := by
  unfold m_slices_Equal_api_Fault_api_Fault
  rw [show ((l.length : Int) != (l.length : Int)) = false by simp, ifB_false]
  obtain ⟨s, h1, -⟩ := rangeM_invx (m_slices_Equal_api_Fault_api_Fault_l1 l) l (fun _ _ => True) (fun i x s hx _ => ⟨(), by unfold m_slices_Equal_api_Fault_api_Fault_l1; rw [getI_of rfl hx, Option.bind_some, decide_eq_true rfl]; rfl, trivial⟩) () trivial
  rw [h1]; rfl
theorem CloneFt (l : List TFault) (h : l.length ≤ 1000) : m_slices_Clone_api_Fault_api_Fault l = some l := by
  unfold m_slices_Clone_api_Fault_api_Fault
  rw [appM_of (by simp; omega) (by omega)]
  simp
theorem kind_still {a : Int} {is : List Int} {x : TFault} (h : x ∈ stillF a is) : x.Kind ≤ 2 := by
  unfold stillF at h
  rcases List.mem_append.1 h with h | h
  · obtain ⟨k, -, h⟩ := List.mem_flatMap.1 h
    unfold crF at h
    split at h
    · rw [List.mem_singleton.1 h]; simp
    · cases h
  · obtain ⟨k, -, h⟩ := List.mem_flatMap.1 h
    unfold faF at h
    split at h
    · rw [List.mem_singleton.1 h]; simp
    · cases h
theorem kind_moved {a : Int} {was is : List Int} {leap : Int} {x : TFault} (h : x ∈ movedF a was is leap) : 2 < x.Kind := by
  unfold movedF at h
  rcases List.mem_append.1 h with h | h
  · rcases List.mem_append.1 h with h | h
    · obtain ⟨k, -, h⟩ := List.mem_flatMap.1 h
      obtain ⟨j, -, h⟩ := List.mem_flatMap.1 h
      split at h
      · rw [List.mem_singleton.1 h]; simp
      · cases h
    · obtain ⟨k, -, h⟩ := List.mem_flatMap.1 h
      obtain ⟨j, -, h⟩ := List.mem_flatMap.1 h
      split at h
      · rw [List.mem_singleton.1 h]; simp
      · cases h
  · obtain ⟨k, -, h⟩ := List.mem_flatMap.1 h
    unfold lpF at h
    split at h
    · rw [List.mem_singleton.1 h]; simp
    · cases h
theorem moved_same (a : Int) (is : List Int) : movedF a is is 0 = [] := by
  unfold movedF
  have e1 : ∀ kind half low, mvF a is is kind half low = [] := fun kind half low => by
    unfold mvF
    rw [List.flatMap_eq_nil_iff]
    intro high _
    unfold apF
    rw [Int.sub_self, Int.sub_self]
    simp
  have e2 : ∀ k, lpF a is is 0 k = [] := fun k => by
    unfold lpF szI
    rw [Int.sub_self]
    simp
  simp only [List.append_eq_nil_iff, List.flatMap_eq_nil_iff]
  exact ⟨⟨fun k _ => e1 _ _ k, fun k _ => e1 _ _ k⟩, fun k _ => e2 k⟩
theorem nt_up {is : List Int} {k : Nat} (h : k < is.length) : nt (is.map (· + 12)) k = nt is k + 12 := by
  have h1 := nt_get h
  have h2 := nt_get (is := is.map (· + 12)) (k := k) (by rw [List.length_map]; exact h)
  rw [List.getElem?_map, h1] at h2
  simpa using h2.symm
theorem flat_cg {β : Type} {f g : Nat → List β} : ∀ {l : List Nat}, (∀ k, k ∈ l → f k = g k) → l.flatMap f = l.flatMap g
  | [], _ => rfl
  | x :: l, h => by rw [List.flatMap_cons, List.flatMap_cons, h x (List.mem_cons_self ..), flat_cg fun k hk => h k (List.mem_cons_of_mem _ hk)]
theorem still_up (a : Int) (is : List Int) : stillF a (is.map (· + 12)) = stillF a is := by
  unfold stillF
  rw [List.length_map]
  congr 1
  · refine flat_cg fun k hk => ?_
    rw [List.mem_range] at hk
    unfold crF
    rw [nt_up (by omega), nt_up (by omega)]
    by_cases h : nt is k > nt is (k + 1)
    · rw [if_pos h, if_pos (by omega)]
    · rw [if_neg h, if_neg (by omega)]
  · refine flat_cg fun k hk => ?_
    rw [List.mem_range'] at hk
    obtain ⟨i, hi, rfl⟩ := hk
    unfold faF
    rw [nt_up (by omega), nt_up (by omega), show nt is (1 + 1 * i + 1) + 12 - (nt is (1 + 1 * i) + 12) = nt is (1 + 1 * i + 1) - nt is (1 + 1 * i) by omega]
theorem still_at (a b : Int) (is : List Int) : (stillF a is).length = (stillF b is).length := by
  unfold stillF
  rw [List.length_append, List.length_append, List.length_flatMap, List.length_flatMap, List.length_flatMap, List.length_flatMap]
  congr 2
  · refine List.map_congr_left fun k _ => ?_
    unfold crF
    split <;> rfl
  · refine List.map_congr_left fun k _ => ?_
    unfold faF
    split <;> rfl
theorem kinds_loop (l : List TFault) (h : ∀ x ∈ l, x.Kind ≤ 2) : rangeM m_gleekeep2_FaultsOfFew_l2 0 l () = some (.brk ()) := by
  obtain ⟨s, h1, -⟩ := rangeM_invx m_gleekeep2_FaultsOfFew_l2 l (fun _ _ => True) (fun i x s hx _ => ⟨(), by
    unfold m_gleekeep2_FaultsOfFew_l2
    rw [decide_eq_false (by have := h x (List.mem_of_getElem? hx); omega)]; rfl, trivial⟩) () trivial
  exact h1
theorem up_loop (l : List Int) (h : ∀ x ∈ l, 0 ≤ x ∧ x ≤ 1000) : rangeM m_gleekeep2_FaultsOfFew_l1 0 l l = some (.brk (l.map (· + 12))) := by
  obtain ⟨s, h1, h2, h3⟩ := rangeM_invx m_gleekeep2_FaultsOfFew_l1 l (fun i s => s.length = l.length ∧ ∀ j, s[j]? = if j < i then (l[j]?).map (· + 12) else l[j]?) (by
    rintro i x s hx ⟨hl, hs⟩
    have hi := (List.getElem?_eq_some_iff.1 hx).1
    have hx2 := h x (List.mem_of_getElem? hx)
    have hsi : s[i]? = some x := by rw [hs i, if_neg (by omega), hx]
    unfold m_gleekeep2_FaultsOfFew_l1
    rw [getI_of rfl hsi, Option.bind_some, Option.bind_some, show ((i : Int)).toNat = i by omega, w64_id (by omega)]
    refine ⟨_, rfl, by rw [List.length_set]; exact hl, fun j => ?_⟩
    rw [List.getElem?_set]
    by_cases hji : i = j
    · subst hji
      rw [if_pos rfl, if_pos (by omega), if_pos (by omega), hx]; rfl
    · rw [if_neg hji, hs j]
      by_cases hj : j < i
      · rw [if_pos hj, if_pos (by omega)]
      · rw [if_neg hj, if_neg (by omega)]) l ⟨rfl, fun j => by simp⟩
  rw [h1]
  congr 2
  apply List.ext_getElem?
  intro j
  rw [h3 j, List.getElem?_map]
  by_cases hj : j < l.length
  · rw [if_pos hj]
  · rw [if_neg hj, List.getElem?_eq_none (by omega)]; rfl
theorem errs_twoV (a b : Int) : m_gleekeep2_errs [a, b] = some (if a = 0 then b else a) := by
  unfold m_gleekeep2_errs
  have hs : ∀ (z i) (l : List Int), rangeM m_gleekeep2_errs_l1 i (z :: l) () = if z = 0 then rangeM m_gleekeep2_errs_l1 (i + 1) l () else some (.ret z) := fun z i l => by
    rw [rangeM_cons]
    unfold m_gleekeep2_errs_l1
    by_cases h : z = 0
    · rw [if_pos h]; subst h; rfl
    · rw [if_neg h, show (z != 0) = true by simpa using h]; rfl
  rw [hs, hs]
  by_cases h : a = 0
  · rw [if_pos h, if_pos h]
    by_cases h' : b = 0
    · rw [if_pos h', h']; rfl
    · rw [if_neg h']; rfl
  · rw [if_neg h, if_neg h]; rfl
theorem faults_two (x y : List Int) (leap : Int) : faultsF [x, y] leap = stillF 0 x ++ (stillF 1 y ++ movedF 1 x y leap) := by
  unfold faultsF
  show (List.range 2).flatMap (atF [x, y] leap) = _
  rw [show List.range 2 = [0, 1] from rfl, List.flatMap_cons, List.flatMap_cons, List.flatMap_nil]
  unfold atF
  simp
theorem FaultsOfFew_true (L : List Int) : m_gleekeep2_FaultsOfFew L = some true := by
  unfold m_gleekeep2_FaultsOfFew
  obtain ⟨v, q, h1, -, -, hv⟩ := Voices_spec L (p := 0) (by omega) (by omega)
  rw [h1, Option.bind_some]
  simp only
  rw [VoicesFault_spec]
  cases v with
  | nil => rw [show ((([] : List (List Int)).length : Int) == 0) = true from rfl, ifB_true, Option.bind_some, fin_inl, ifB_true, ready_true]; rfl
  | cons a t =>
    rw [show (((a :: t).length : Int) == 0) = false by simp; omega, ifB_false, Option.bind_some]
    by_cases hf : vfault (a :: t) = 0
    · have hR := vfault_zero hf
      have ha := hR.row a (List.mem_cons_self ..)
      rw [if_pos hf, if_pos (by omega), show ((0 : Int) != 0) = false from rfl, ifB_false, show getI (a :: t) 0 = some a from rfl, Option.bind_some]
      obtain ⟨m, hm, hmx⟩ := Max_spec a (by intro h; subst h; simp at ha) (by omega)
      rw [hm, Option.bind_some, Option.bind_some, fin_inl]
      by_cases h115 : m > 115
      · rw [decide_eq_true h115, ifB_true, ready_true]; rfl
      · rw [decide_eq_false h115, ifB_false, Option.bind_some, CloneV a (by omega), Option.bind_some, up_loop a (fun x hx => by have := ha.2.2 x hx; omega), Option.bind_some, fin_brk, Option.bind_some, Option.bind_some]
        have hR1 : RV [a, a] := ⟨by simp, fun is h => by
          rcases List.mem_cons.1 h with rfl | h
          · exact ha
          · rw [List.mem_singleton.1 h]; exact ha, fun is h js h' => by
          have e : ∀ {x}, x ∈ [a, a] → x = a := fun h => by
            rcases List.mem_cons.1 h with rfl | h
            · rfl
            · exact List.mem_singleton.1 h
          rw [e h, e h']⟩
        have hR2 : RV [a, a.map (· + 12)] := ⟨by simp, fun is h => by
          rcases List.mem_cons.1 h with rfl | h
          · exact ha
          · rw [List.mem_singleton.1 h]
            refine ⟨by rw [List.length_map]; exact ha.1, by rw [List.length_map]; exact ha.2.1, fun x hx => ?_⟩
            obtain ⟨y, hy, rfl⟩ := List.mem_map.1 hx
            have h1 := ha.2.2 y hy
            have h2 := hmx y hy
            omega, fun is h js h' => by
          have e : ∀ {x}, x ∈ [a, a.map (· + 12)] → x.length = a.length := fun h => by
            rcases List.mem_cons.1 h with rfl | h
            · rfl
            · rw [List.mem_singleton.1 h, List.length_map]
          rw [e h, e h']⟩
        rw [Faults_spec hR1 0 (by omega), Option.bind_some, Option.bind_some, Faults_spec hR2 12 (by omega), Option.bind_some]
        simp only
        rw [errs_twoV, if_pos rfl, Option.bind_some, show ((0 : Int) != 0) = false from rfl, ifB_false]
        rw [faults_two, faults_two, moved_same, still_up, List.append_nil]
        have hev : (((stillF 0 a ++ stillF 1 a).length : Int).tmod 2 != 0) = false := by
          rw [List.length_append, still_at 1 0 a]
          have : ((((stillF 0 a).length + (stillF 0 a).length : Nat)) : Int).tmod 2 = 0 := by
            rw [Int.tmod_eq_emod_of_nonneg (by omega)]; omega
          rw [this]; rfl
        rw [hev, Option.bind_some, fin_inl, ifB_false]
        have hk : ∀ x ∈ stillF 0 a ++ stillF 1 a, x.Kind ≤ 2 := fun x hx => by
          rcases List.mem_append.1 hx with h | h <;> exact kind_still h
        rw [kinds_loop _ hk, Option.bind_some, fin_brk]
        have l1 := stillF_len 0 a ha.2.1
        have l2 := stillF_len 1 a ha.2.1
        have l3 := movedF_len 1 a (a.map (· + 12)) 12 (by rw [List.length_map]; exact ha.2.1)
        rw [CloneFt _ (by rw [List.length_append, List.length_append]; omega), Option.bind_some]
        have hdel : m_slices_DeleteFunc_api_Fault_api_Fault__gleekeep2_FaultsOfFew_1 (stillF 0 a ++ (stillF 1 a ++ movedF 1 a (a.map (· + 12)) 12)) = some (stillF 0 a ++ stillF 1 a) := by
          have h := dfM_spec (TFault.mk 0 0 0 0) m_gleekeep2_FaultsOfFew_1 (fun x => decide (x.Kind > 2)) (stillF 0 a ++ (stillF 1 a ++ movedF 1 a (a.map (· + 12)) 12)) (by rw [List.length_append, List.length_append]; omega) (fun x _ => rfl)
          have e : (stillF 0 a ++ (stillF 1 a ++ movedF 1 a (a.map (· + 12)) 12)).filter (fun x => !decide (x.Kind > 2)) = stillF 0 a ++ stillF 1 a := by
            rw [List.filter_append, List.filter_append]
            have f1 : ∀ c, (stillF c a).filter (fun x => !decide (x.Kind > 2)) = stillF c a := fun c => List.filter_eq_self.2 fun x hx => by
              have := kind_still hx
              simpa using this
            have f2 : (movedF 1 a (a.map (· + 12)) 12).filter (fun x => !decide (x.Kind > 2)) = [] := List.filter_eq_nil_iff.2 fun x hx => by
              have := kind_moved hx
              simpa using this
            rw [f1, f1, f2, List.append_nil]
          rw [e] at h
          exact h
        rw [hdel, Option.bind_some, EqualFt, Option.bind_some, ifB_true, ready_true]; rfl
    · rw [if_neg hf, show (vfault (a :: t) != 0) = true by simpa using hf, ifB_true, Option.bind_some, fin_inl, ifB_true, ready_true]; rfl
end Go.G
