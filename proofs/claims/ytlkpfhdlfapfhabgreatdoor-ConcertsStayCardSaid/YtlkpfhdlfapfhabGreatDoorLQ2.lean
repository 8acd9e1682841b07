/- LQ2: programs of concerts that are drawn right are right. In plain Lean, no program in sight. -/
import Derived.Test.YtlkpfhdlfapfhabGreatDoorLG2
import Derived.Test.YtlkpfhdlfapfhabGreatDoorLQ1
namespace Go.G
open Go Go.J
theorem any_ix {α : Type} {p : α → Option Bool} {d : α → Bool} {l : List α} (hp : ∀ x ∈ l, p x = some (d x)) : ((ixM p l).bind fun y => some (decide (y ≥ 0))) = some (l.any d) := by
  obtain ⟨n, h1, h2⟩ := ixM_spec p d l hp
  rw [h1, Option.bind_some]
  rcases h2 with ⟨rfl, h⟩ | ⟨k, rfl, hk, -, x, hx, hd⟩
  · rw [show l.any d = false by rw [List.any_eq_false]; intro x hx; rw [h x hx]; simp]; rfl
  · rw [List.any_eq_true.2 ⟨x, List.mem_of_getElem? hx, hd⟩]; simp
structure GoodItem (x : TItem) : Prop where
  key : isKey x.Key = true
  pla : isKey x.Places = true
  lo : 1 ≤ x.Long
  hi : x.Long ≤ 86400000
  par : m_concert_partsFault x.Parts = some 0
  len : x.Parts.length ≤ 12
theorem GoodItem.ok {x : TItem} (h : GoodItem x) : ItemOK x := ⟨h.lo, h.hi, h.len⟩
theorem CheckItems_zero {l : List TItem} (hl : l.length ≤ 60) (hg : ∀ x ∈ l, GoodItem x) (hn : (l.map (·.Key)).Nodup) : m_concert_CheckItems l = some 0 := by
  unfold m_concert_CheckItems
  rw [decide_eq_false (by omega), ifB_false]
  obtain ⟨s, h1, -⟩ := rangeM_invx (m_concert_CheckItems_l1 l) l (fun _ _ => True) (by
    intro i x s hx _
    have hi := (List.getElem?_eq_some_iff.1 hx).1
    have g := hg x (List.mem_of_getElem? hx)
    unfold m_concert_CheckItems_l1
    rw [isKey_prog, g.key, Option.bind_some, Bool.not_true, ifB_false, isKey_prog, g.pla, Option.bind_some, Bool.not_true, Option.bind_some, fin_inl, ifB_false,
      sliceI_of (lo := 0) (hi := (i : Int)) (a := 0) (b := i) rfl rfl (by omega) (by omega), Option.bind_some, List.drop_zero, Nat.sub_zero]
    unfold m_slices_ContainsFunc_api_Item_api_Item__concert_CheckItems_1
    rw [show ∀ q, m_slices_IndexFunc_api_Item_api_Item__concert_CheckItems_1 q x.Key x.Places x.Long x.Parts = ixM (fun y => m_concert_CheckItems_1 y x.Key x.Places x.Long x.Parts) q from fun _ => rfl,
      any_ix (p := fun y => m_concert_CheckItems_1 y x.Key x.Places x.Long x.Parts) (d := fun y => y.Key.toList == x.Key.toList) (fun y _ => rfl)]
    have hno : ((l.take i).any fun y => y.Key.toList == x.Key.toList) = false := by
      rw [List.any_eq_false]
      intro y hy e
      have e' : y.Key = x.Key := ba_toList_inj.1 (by simpa using e)
      obtain ⟨j, hj, rfl⟩ := List.getElem_of_mem hy
      rw [List.length_take] at hj
      rw [List.getElem_take] at e'
      have hj2 : j < l.length := by omega
      have hx2 : l[i] = x := by rw [List.getElem?_eq_getElem hi] at hx; exact Option.some.inj hx
      have : (l.map (·.Key))[j]'(by simpa using hj2) = (l.map (·.Key))[i]'(by simpa using hi) := by simp only [List.getElem_map, hx2]; exact e'
      have := (List.getElem_inj hn).1 this
      omega
    rw [hno, Option.bind_some, ifB_false, Outside_spec, Option.bind_some, decide_eq_true ⟨g.lo, g.hi⟩, Bool.not_true, ifB_false, g.par, Option.bind_some, show ((0 : Int) != 0) = false from rfl, ifB_false]
    exact ⟨(), rfl, trivial⟩) () trivial
  rw [h1]; rfl
/-- a program without a fault -/
structure GoodP (p : TProgram) : Prop where
  ok : ProgOK p
  good : ∀ x ∈ p.Items, GoodItem x
  nod : (p.Items.map (·.Key)).Nodup
theorem CheckProgram_zero {p : TProgram} (h : GoodP p) : m_concert_CheckProgram p = some 0 := by
  have o := h.ok
  unfold m_concert_CheckProgram
  rw [CheckItems_zero o.len h.good h.nod, Option.bind_some, show ((0 : Int) != 0) = false from rfl, ifB_false, Outside_spec, Option.bind_some, decide_eq_true ⟨o.ch1, o.ch2⟩, Bool.not_true, ifB_false,
    Outside_spec, Option.bind_some, decide_eq_true ⟨o.cl1, o.cl2⟩, Bool.not_true, ifB_false, Outside_spec, Option.bind_some, decide_eq_true ⟨o.br1, o.br2⟩, Bool.not_true, ifB_false, Outside_spec, Option.bind_some]
  have := o.len; have h1 := o.half1; have h2 := o.half2
  rw [w64_id (by omega), decide_eq_true (by omega)]
  rfl
/-- some items of a right program, in whatever order, without a break -/
theorem GoodP.part {p : TProgram} (h : GoodP p) {its : List TItem} (hl : its.length ≤ 60) (hi : ∀ x ∈ its, x ∈ p.Items) (hn : (its.map (·.Key)).Nodup) : GoodP (TProgram.mk its p.Change p.Clap p.Break (-1)) := by
  refine ⟨?_, fun x hx => h.good x (hi x hx), hn⟩
  have o := h.ok
  refine ⟨hl, fun i x hx => ?_, o.ch1, o.ch2, o.cl1, o.cl2, o.br1, o.br2, Int.le_refl _, .inl rfl⟩
  exact (h.good x (hi x (List.mem_of_getElem? hx))).ok
theorem GoodP.sub {p : TProgram} (h : GoodP p) {its : List TItem} (hs : List.Sublist its p.Items) : GoodP (TProgram.mk its p.Change p.Clap p.Break (-1)) :=
  h.part (Nat.le_trans hs.length_le h.ok.len) (fun _ hx => hs.subset hx) (List.Nodup.sublist (hs.map _) h.nod)
/-! ### what is drawn -/
def altoB : ByteArray := ByteArray.mk [97, 108, 116, 111].toArray
def bassB : ByteArray := ByteArray.mk [98, 97, 115, 115].toArray
def soliB : ByteArray := ByteArray.mk [115, 111, 108, 105].toArray
def rowsB : ByteArray := ByteArray.mk [114, 111, 119, 115].toArray
def circleB : ByteArray := ByteArray.mk [99, 105, 114, 99, 108, 101].toArray
def itemKeys : List ByteArray := [(ByteArray.mk [99].toArray), (ByteArray.mk [97].toArray), (ByteArray.mk [100].toArray), (ByteArray.mk [98].toArray), (ByteArray.mk [101].toArray)]
structure RightItem (x : TItem) : Prop where
  key : x.Key ∈ itemKeys
  pla : x.Places ∈ [rowsB, circleB]
  lng : x.Long ∈ ([50, 100, 200] : List Int)
  par : List.Sublist x.Parts [altoB, bassB, soliB]
  some : x.Parts ≠ []
theorem sub_nil {α : Type} {l : List α} (h : List.Sublist l []) : l = [] := by cases h; rfl
theorem sub3 {α : Type} {l : List α} {a b c : α} (h : List.Sublist l [a, b, c]) : l ∈ [[], [a], [b], [c], [a, b], [a, c], [b, c], [a, b, c]] := by
  rcases List.sublist_cons_iff.1 h with h1 | ⟨l1, rfl, h1⟩ <;> rcases List.sublist_cons_iff.1 h1 with h2 | ⟨l2, rfl, h2⟩ <;> rcases List.sublist_cons_iff.1 h2 with h3 | ⟨l3, rfl, h3⟩ <;> cases sub_nil h3 <;> simp
theorem parts_zero {l : List ByteArray} (h : List.Sublist l [altoB, bassB, soliB]) (h0 : l ≠ []) : m_concert_partsFault l = some 0 := by
  have z1 : m_concert_partsFault [altoB] = some 0 := by kernel_rfl
  have z2 : m_concert_partsFault [bassB] = some 0 := by kernel_rfl
  have z3 : m_concert_partsFault [soliB] = some 0 := by kernel_rfl
  have z4 : m_concert_partsFault [altoB, bassB] = some 0 := by kernel_rfl
  have z5 : m_concert_partsFault [altoB, soliB] = some 0 := by kernel_rfl
  have z6 : m_concert_partsFault [bassB, soliB] = some 0 := by kernel_rfl
  have z7 : m_concert_partsFault [altoB, bassB, soliB] = some 0 := by kernel_rfl
  have := sub3 h
  simp only [List.mem_cons, List.not_mem_nil, or_false] at this
  rcases this with rfl | rfl | rfl | rfl | rfl | rfl | rfl | rfl
  · exact absurd rfl h0
  · exact z1
  · exact z2
  · exact z3
  · exact z4
  · exact z5
  · exact z6
  · exact z7
theorem keys_ok : ∀ k ∈ itemKeys, isKey k = true := by
  have z : itemKeys.all isKey = true := by kernel_rfl
  exact fun k hk => List.all_eq_true.1 z k hk
theorem RightItem.good {x : TItem} (h : RightItem x) : GoodItem x := by
  refine ⟨keys_ok _ h.key, ?_, ?_, ?_, parts_zero h.par h.some, ?_⟩
  · have := h.pla
    simp only [List.mem_cons, List.not_mem_nil, or_false] at this
    have z1 : isKey rowsB = true := by kernel_rfl
    have z2 : isKey circleB = true := by kernel_rfl
    rcases this with e | e <;> rw [e] <;> assumption
  · have := h.lng; simp only [List.mem_cons, List.not_mem_nil, or_false] at this; omega
  · have := h.lng; simp only [List.mem_cons, List.not_mem_nil, or_false] at this; omega
  · have := h.par.length_le; simp at this; omega
theorem itemKeys_nodup : itemKeys.Nodup := by
  have : (itemKeys.map (·.data.toList)).Nodup := by decide
  exact (List.pairwise_map.1 this).imp fun h e => h (by rw [e])
structure RightP (p : TProgram) : Prop where
  item : ∀ x ∈ p.Items, RightItem x
  keys : List.Sublist (p.Items.map (·.Key)) itemKeys
  ch : p.Change ∈ ([0, 30, 50] : List Int)
  cl : p.Clap ∈ ([0, 10, 30] : List Int)
  br : p.Break ∈ ([0, 100] : List Int)
  half : p.Half = -1 ∨ 0 ≤ p.Half ∧ p.Half + 2 ≤ p.Items.length
theorem RightP.len {p : TProgram} (h : RightP p) : p.Items.length ≤ 5 := by
  have := h.keys.length_le
  simpa [itemKeys] using this
theorem RightP.good {p : TProgram} (h : RightP p) : GoodP p := by
  have h1 := h.ch; have h2 := h.cl; have h3 := h.br; have h4 := h.half; have h5 := h.len
  simp only [List.mem_cons, List.not_mem_nil, or_false] at h1 h2 h3
  refine ⟨⟨by omega, fun i x hx => (h.item x (List.mem_of_getElem? hx)).good.ok, by omega, by omega, by omega, by omega, by omega, by omega, by omega, by omega⟩, fun x hx => (h.item x hx).good, List.Nodup.sublist h.keys itemKeys_nodup⟩
theorem RightProgram_right (L : List Int) {q most : Int} (hq : 0 ≤ q) (hq' : q ≤ 999990000) (hm : 0 ≤ most) (hm' : most ≤ 5) :
    ∃ p q', m_gleemake_Stream_RightProgram L q most = some (p, q') ∧ q ≤ q' ∧ q' ≤ q + 50 ∧ (p.Items.length : Int) ≤ most ∧ RightP p := by
  unfold m_gleemake_Stream_RightProgram
  obtain ⟨c1, h1, k1⟩ := Pick_spec L (p := q) [0, 30, 50] hq (by omega) (by simp) (by simp)
  obtain ⟨c2, h2, k2⟩ := Pick_spec L (p := q + 1) [0, 10, 30] (by omega) (by omega) (by simp) (by simp)
  obtain ⟨c3, h3, k3⟩ := Pick_spec L (p := q + 1 + 1) [0, 100] (by omega) (by omega) (by simp) (by simp)
  rw [h1, Option.bind_some, h2, Option.bind_some, h3, Option.bind_some]
  obtain ⟨mn, rfl⟩ := Int.eq_ofNat_of_zero_le hm
  rw [sliceI_of (lo := 0) (a := 0) (b := mn) rfl rfl (by omega) (by simp; omega), Option.bind_some]
  simp only [Nat.sub_zero, List.drop_zero]
  rw [show [(ByteArray.mk [99].toArray), (ByteArray.mk [97].toArray), (ByteArray.mk [100].toArray), (ByteArray.mk [98].toArray), (ByteArray.mk [101].toArray)] = itemKeys from rfl]
  obtain ⟨⟨u, its⟩, hs, ha, hb, hlen, hit, hks⟩ := rangeM_invx (m_gleemake_Stream_RightProgram_l1 L) (List.take mn itemKeys)
    (fun i s => q + 3 ≤ s.1 ∧ s.1 ≤ q + 3 + 6 * i ∧ s.2.length ≤ i ∧ (∀ x ∈ s.2, RightItem x) ∧ List.Sublist (s.2.map (·.Key)) ((List.take mn itemKeys).take i)) (by
    rintro i x ⟨u, its⟩ hx ⟨ha, hb, hlen, hit, hks⟩
    have hi : i < mn := by
      have := (List.getElem?_eq_some_iff.1 hx).1
      simp at this; omega
    have hxk : x ∈ itemKeys := List.mem_of_mem_take (List.mem_of_getElem? hx)
    simp only at ha hb hlen hit hks
    have hsub : ∀ l, List.Sublist l ((List.take mn itemKeys).take i) → List.Sublist l ((List.take mn itemKeys).take (i + 1)) := fun l h => h.trans (by
      rw [List.take_add_one]; exact List.sublist_append_left _ _)
    unfold m_gleemake_Stream_RightProgram_l1
    obtain ⟨f, hf⟩ := Flip_spec L (p := u) (n := 6) (by omega) (by omega) (by omega)
    simp only
    rw [hf, Option.bind_some]
    cases f with
    | true => exact ⟨_, rfl, by simp only; omega, by simp only; omega, by simp only; omega, hit, hsub _ hks⟩
    | false =>
      obtain ⟨pl, h1, hpl⟩ := Some_spec L (p := u + 1) [(ByteArray.mk [114, 111, 119, 115].toArray), (ByteArray.mk [114, 111, 119, 115].toArray), (ByteArray.mk [99, 105, 114, 99, 108, 101].toArray)] (by omega) (by omega) (by simp) (by simp)
      obtain ⟨lg, h2, hlg⟩ := Pick_spec L (p := u + 1 + 1) [50, 100, 100, 200] (by omega) (by omega) (by simp) (by simp)
      rw [ifB_false, h1, Option.bind_some, h2, Option.bind_some]
      have hpl' : pl ∈ [rowsB, circleB] := by
        simp only [List.mem_cons, List.not_mem_nil, or_false] at hpl
        rcases hpl with rfl | rfl | rfl
        · exact List.mem_cons_self ..
        · exact List.mem_cons_self ..
        · exact List.mem_cons_of_mem _ (List.mem_cons_self ..)
      have hlg' : lg ∈ ([50, 100, 200] : List Int) := by
        simp only [List.mem_cons, List.not_mem_nil, or_false] at hlg ⊢; omega
      obtain ⟨⟨u2, ps⟩, h3, h4, h5, h6⟩ := rangeM_invx (m_gleemake_Stream_RightProgram_l2 L) [altoB, bassB, soliB]
        (fun i s => s.1 = u + 3 + i ∧ s.2.length ≤ i ∧ List.Sublist s.2 ([altoB, bassB, soliB].take i)) (by
        rintro i x ⟨u2, ps⟩ hx ⟨h4, h5, h6⟩
        have hi := (List.getElem?_eq_some_iff.1 hx).1
        simp only [List.length_cons, List.length_nil] at hi
        simp only at h4 h5 h6
        unfold m_gleemake_Stream_RightProgram_l2
        obtain ⟨f, hf⟩ := Flip_spec L (p := u2) (n := 2) (by omega) (by omega) (by omega)
        simp only
        rw [hf, Option.bind_some, List.take_add_one, hx]
        cases f with
        | true =>
          rw [ifB_true, appM_of (by simp; omega) (by omega), Option.bind_some]
          exact ⟨_, rfl, by simp only; omega, by simp; omega, List.Sublist.append h6 (List.Sublist.refl _)⟩
        | false => exact ⟨_, rfl, by simp only; omega, by simp only; omega, h6.trans (List.sublist_append_left _ _)⟩) (u + 1 + 1 + 1, []) ⟨by simp only; omega, by simp, List.nil_sublist _⟩
      simp only [List.length_cons, List.length_nil] at h4 h5 h6
      have h6 : List.Sublist ps [altoB, bassB, soliB] := h6
      rw [show [(ByteArray.mk [97, 108, 116, 111].toArray), (ByteArray.mk [98, 97, 115, 115].toArray), (ByteArray.mk [115, 111, 108, 105].toArray)] = [altoB, bassB, soliB] from rfl]
      simp only
      rw [h3, Option.bind_some, fin_brk]
      have hfin : ∀ qs : List ByteArray, List.Sublist qs [altoB, bassB, soliB] → qs ≠ [] → ∃ s', ((appM 64 its [(TItem.mk x pl lg qs)]).bind fun q47 => (some (Flow.nxt (u2, q47)) : Option (Flow (Int × (List TItem)) (TProgram × Int)))) = some (Flow.nxt s') ∧ q + 3 ≤ s'.1 ∧ s'.1 ≤ q + 3 + 6 * ((i + 1 : Nat) : Int) ∧ s'.2.length ≤ i + 1 ∧ (∀ x ∈ s'.2, RightItem x) ∧ List.Sublist (s'.2.map (·.Key)) ((List.take mn itemKeys).take (i + 1)) := by
        intro qs hqs hqn
        rw [appM_of (by simp; omega) (by omega), Option.bind_some]
        refine ⟨_, rfl, by simp only; omega, by simp only; omega, by simp; omega, ?_, ?_⟩
        · intro y hy
          rcases List.mem_append.1 hy with h | h
          · exact hit y h
          · simp only [List.mem_singleton] at h; subst h; exact ⟨hxk, hpl', hlg', hqs, hqn⟩
        · rw [List.take_add_one, hx, List.map_append]
          exact List.Sublist.append hks (List.Sublist.refl _)
      cases hz : ((ps.length : Int) == 0) with
      | true => exact hfin _ (by
          refine List.Sublist.cons_cons _ (List.nil_sublist _)) (by simp)
      | false => exact hfin _ h6 (fun e => by simp only at e; rw [e] at hz; simp at hz)) (q + 1 + 1 + 1, []) ⟨by simp only; omega, by simp only; omega, by simp, by simp, List.nil_sublist _⟩
  rw [hs, Option.bind_some, fin_brk]
  have hl0 : (List.take mn itemKeys).length = mn := by simp [itemKeys]; omega
  rw [hl0] at hb hlen hks
  have hks2 : List.Sublist (its.map (·.Key)) itemKeys := hks.trans ((List.take_sublist _ _).trans (List.take_sublist _ _))
  simp only at ha hb hlen hit ⊢
  by_cases hgt : (its.length : Int) > 1
  · rw [decide_eq_true hgt, ifB_true]
    obtain ⟨f, hf⟩ := Flip_spec L (p := u) (n := 2) (by omega) (by omega) (by omega)
    rw [hf, Option.bind_some, Option.bind_some, fin_inl]
    cases f with
    | true =>
      rw [w64_id (by omega)]
      obtain ⟨r, hr, hr1, hr2⟩ := Next_spec L (p := u + 1) (n := (its.length : Int) - 1) (by omega) (by omega) (by omega)
      rw [ifB_true, hr, Option.bind_some]
      exact ⟨_, _, rfl, by omega, by omega, by simp only; omega, hit, hks2, k1, k2, k3, .inr ⟨hr1, by have := hr2 (by omega); simp only; omega⟩⟩
    | false => exact ⟨_, _, rfl, by simp only; omega, by simp only; omega, by simp only; omega, hit, hks2, k1, k2, k3, .inl rfl⟩
  · rw [decide_eq_false hgt, ifB_false, Option.bind_some, fin_inl]
    exact ⟨_, _, rfl, by simp only; omega, by simp only; omega, by simp only; omega, hit, hks2, k1, k2, k3, .inl rfl⟩
end Go.G
