/- LV5: the law of the tired parts. In plain Lean, no program in sight. -/
import Derived.Test.YtdeoejkgmeemaadGreatDoorLV4
import Derived.Test.YtdeoejkgmeemaadGreatDoorLG1
import Derived.Test.YtdeoejkgmeemaadGreatDoorLR1
import Derived.Sort.Walk0
namespace Go.G
open Go Go.J
theorem itemAtR_good {p : TProgram} (h : GoodP p) {x : TItem} (hx : x ∈ p.Items) : ∃ n : Nat, m_gleeref2_ItemAt p.Items x.Key = some (n : Int) ∧ p.Items[n]? = some x := by
  obtain ⟨n, h1, h2⟩ := ixM_spec (fun y => m_gleeref2_ItemAt_1 y x.Key) (fun y => y.Key.toList == x.Key.toList) p.Items (fun y _ => rfl)
  have e : m_gleeref2_ItemAt p.Items x.Key = ixM (fun y => m_gleeref2_ItemAt_1 y x.Key) p.Items := by
    unfold m_gleeref2_ItemAt
    rw [show m_slices_IndexFunc_api_Item_api_Item__gleeref2_ItemAt_1 p.Items x.Key = ixM (fun y => m_gleeref2_ItemAt_1 y x.Key) p.Items from rfl]
    cases ixM (fun y => m_gleeref2_ItemAt_1 y x.Key) p.Items <;> rfl
  rw [e, h1]
  rcases h2 with ⟨rfl, h3⟩ | ⟨k, rfl, hk, -, z, hz, hd⟩
  · have := h3 x hx
    simp at this
  · refine ⟨k, rfl, ?_⟩
    have hkey : z.Key = x.Key := ba_toList_inj.1 (by simpa using hd)
    obtain ⟨j, hj, hje⟩ := List.getElem_of_mem hx
    have hz2 : p.Items[k] = z := by rw [List.getElem?_eq_getElem hk] at hz; exact Option.some.inj hz
    have : (p.Items.map (·.Key))[k]'(by simpa using hk) = (p.Items.map (·.Key))[j]'(by simpa using hj) := by simp only [List.getElem_map, hz2, hje]; exact hkey
    have hkj := (List.getElem_inj h.nod).1 this
    subst hkj
    rw [List.getElem?_eq_getElem hk, hje]
theorem T_sorted {p : TProgram} (hp : ProgOK p) (most rest : Int) : (((names p.Items).map ofBytes).filterMap (tf p most rest)).Pairwise fun a b => bytesOf a.Name < bytesOf b.Name := by
  rw [List.pairwise_filterMap, List.pairwise_map]
  refine (names_lt p.Items).imp fun {a b} hab c hc d hd => ?_
  rw [(tf_some hp hc).1, (tf_some hp hd).1]
  exact hab
/-- THE LAW: at every seed the answer is true. -/
theorem TiredSingLong_true (L : List Int) : m_gleekeep2_TiredSingLong L = some true := by
  unfold m_gleekeep2_TiredSingLong
  obtain ⟨p, q, h1, h2, h3, h4, hr⟩ := RightProgram_right L (q := 0) (most := 5) (by omega) (by omega) (by omega) (by omega)
  have h := hr.good
  have hl := hr.len
  have hp := h.ok
  have hlong : ∀ x ∈ p.Items, x.Long ≤ 200 := fun x hx => by
    have := (hr.item x hx).lng
    simp only [List.mem_cons, List.not_mem_nil, or_false] at this
    omega
  obtain ⟨r1, e1, a1, b1⟩ := Range_spec L (p := q) (a := 1) (b := 200) (by omega) (by omega) (by omega) (by omega) (by omega)
  obtain ⟨r2, e2, a2, b2⟩ := Range_spec L (p := q + 1) (a := 1) (b := 300) (by omega) (by omega) (by omega) (by omega) (by omega)
  obtain ⟨r3, e3, a3, b3⟩ := Range_spec L (p := q + 1 + 1) (a := 1) (b := 200) (by omega) (by omega) (by omega) (by omega) (by omega)
  obtain ⟨a, ha, hal⟩ := Sung_len h (voices := [altoB, bassB, soliB]) (by simp) (fun x hx z hz => (hr.item x hx).par.subset hz)
  rw [h1, Option.bind_some]
  simp only
  rw [e1, Option.bind_some]
  simp only
  rw [Tired_good h (by omega) (by omega) a1 (by omega), Option.bind_some, e2, Option.bind_some]
  simp only
  rw [e3, Option.bind_some]
  simp only
  rw [Tired_good h a2 (by omega) a3 (by omega), Option.bind_some, ha, Option.bind_some]
  have hnone : ((names p.Items).map ofBytes).filterMap (tf p 10000 r1) = [] := List.filterMap_eq_nil_iff.2 fun s _ => tf_none hp hlong hl (by omega) s
  have hlen : (((names p.Items).map ofBytes).filterMap (tf p r2 r3)).length ≤ a.length := by rw [hal]; exact List.length_filterMap_le _ _
  have hsort := T_sorted hp r2 r3
  have hmem : ∀ x ∈ ((names p.Items).map ofBytes).filterMap (tf p r2 r3), ∃ it ∈ p.Items, x.Value = it.Key ∧ memB x.Name it.Parts = true := fun x hx => by
    obtain ⟨s, hs, hsx⟩ := List.mem_filterMap.1 hx
    obtain ⟨hn, it, hit, hv, hm⟩ := tf_some hp hsx
    exact ⟨it, hit, hv, by rw [hn]; exact hm⟩
  generalize ((names p.Items).map ofBytes).filterMap (tf p r2 r3) = T at hlen hsort hmem
  have hal2 : a.length ≤ 720 := by rw [hal, List.length_map]; exact names_len hp
  simp only
  rw [hnone, show m_gleekeep2_errs [0, 0, 0] = some 0 by kernel_rfl, Option.bind_some, show ((0 : Int) != 0) = false from rfl, ifB_false, show (((([] : List TPair).length : Nat) : Int) != 0) = false from rfl, ifB_false, decide_eq_false (by omega), Option.bind_some, fin_inl, ifB_false]
  obtain ⟨u, k1, -⟩ := rangeM_invx (m_gleekeep2_TiredSingLong_l1 (p, q) (T, 0)) T (fun _ _ => True) (by
    rintro i x u hx -
    have hi := (List.getElem?_eq_some_iff.1 hx).1
    obtain ⟨it, hit, hv, hm⟩ := hmem x (List.mem_of_getElem? hx)
    obtain ⟨n, g1, g2⟩ := itemAtR_good h hit
    unfold m_gleekeep2_TiredSingLong_l1
    simp only
    rw [hv, g1, Option.bind_some, decide_eq_false (by omega), ifB_false, getI_of rfl g2, Option.bind_some, ContainsS_spec, hm, Option.bind_some, Bool.not_true, ifB_false]
    by_cases h0 : (i : Int) > 0
    · obtain ⟨j, rfl⟩ : ∃ j, i = j + 1 := ⟨i - 1, by omega⟩
      have hj : T[j]? = some T[j] := List.getElem?_eq_getElem (by omega)
      have hw : w64 (((j + 1 : Nat) : Int) - 1) = j := by rw [w64_id (by omega)]; omega
      have hlt := List.pairwise_iff_getElem.1 hsort j (j + 1) (by omega) hi (by omega)
      have hx2 : T[j + 1] = x := by rw [List.getElem?_eq_getElem hi] at hx; exact Option.some.inj hx
      rw [hx2] at hlt
      have hlt' : T[j].Name.toList < x.Name.toList := by rw [ByteArray.toList_eq, ByteArray.toList_eq]; exact hlt
      rw [decide_eq_true h0, ifB_true, hw, getI_of rfl hj, Option.bind_some, Go.Proofs.bytesLess_eq, decide_eq_false (fun hh => bs_asym hh hlt'), Bool.false_or,
        show (x.Name.toList == T[j].Name.toList) = false by rw [beq_eq_false_iff_ne]; intro e; rw [e] at hlt'; exact bs_irr _ hlt', ifB_false]
      exact ⟨(), rfl, trivial⟩
    · rw [decide_eq_false h0, ifB_false]
      exact ⟨(), rfl, trivial⟩) () trivial
  rw [k1, Option.bind_some, fin_brk, ready_true]
  rfl
end Go.G
