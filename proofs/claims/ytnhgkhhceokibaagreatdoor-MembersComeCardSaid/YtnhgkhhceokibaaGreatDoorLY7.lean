/- LY7: MembersCome's law: Refused, Members and Since answer as the reference. In plain Lean, no program in sight. -/
import Derived.Test.YtnhgkhhceokibaaGreatDoorLY5
import Derived.Test.YtnhgkhhceokibaaGreatDoorLY6
import Derived.Test.YtnhgkhhceokibaaGreatDoorLAc
namespace Go.G
open Go Go.J
set_option linter.unusedSimpArgs false
theorem EqualI_refl (a : List Int) : m_slices_Equal_int_int a a = some true := by
  unfold m_slices_Equal_int_int
  rw [show ((a.length : Int) != (a.length : Int)) = false by simp, ifB_false]
  obtain ⟨s, h1, -⟩ := rangeM_invx (m_slices_Equal_int_int_l1 a) a (fun _ _ => True) (by
    intro i x s hx _
    unfold m_slices_Equal_int_int_l1
    rw [getI_of rfl hx, Option.bind_some, show (x != x) = false by simp, ifB_false]
    exact ⟨_, rfl, trivial⟩) () trivial
  rw [h1]; rfl
theorem MomentFault_spec (n : Int) : m_gleeref2_MomentFault n = some (bif isAt n then 0 else 1) := by
  unfold m_gleeref2_MomentFault
  rw [Moment_R, Option.bind_some]
  cases isAt n <;> rfl
theorem actsFault_spec (l : List TAct) (at_ : Int) : m_gleelaw2_actsFault l at_ = some (askF l at_) := by
  unfold m_gleelaw2_actsFault askF
  rw [ActsFault_spec, Option.bind_some, MomentFault_spec, Option.bind_some, errs_spec, Option.bind_some]
  unfold fst0 fst0 fst0
  by_cases h : actsF l = 0
  · rw [h]; cases isAt at_ <;> rfl
  · rw [show (actsF l != 0) = true by simpa using h]
    simp [h]
theorem nameFault_spec (s : ByteArray) : m_gleelaw2_nameFault s = some (bif isKey s then 0 else 5) := by
  unfold m_gleelaw2_nameFault
  rw [isKey_ref, Option.bind_some, when_spec, Option.bind_some]
  cases isKey s <;> rfl
theorem errs_name (l : List TAct) (who : ByteArray) (at_ : Int) : m_gleelaw2_errs [askF l at_, bif isKey who then 0 else 5] = some (nameF l who at_) := by
  rw [errs_spec]
  unfold nameF fst0 fst0 fst0
  by_cases h : askF l at_ = 0
  · rw [h]; cases isKey who <;> rfl
  · rw [show (askF l at_ != 0) = true by simpa using h]
    simp [h]
theorem clubbed_true : m_gleelaw2_clubbed = some true := by
  unfold m_gleelaw2_clubbed
  rw [show m_club_Members [(TAct.mk (ByteArray.mk [97].toArray) 1 0 1 (ByteArray.mk [97, 110, 110].toArray) ByteArray.empty 0 false ByteArray.empty 0)] 0 = some ([annA], 0) from one_member, Option.bind_some]
  show ifB ((0 : Int) == 0) ((m_slices_Equal_string_string [annA] [annA]).bind fun y5 => some y5) (some false) = some true
  rw [EqualS_refl]; rfl
theorem MembersCome_true (L : List Int) : m_gleelaw2_MembersCome L = some true := by
  unfold m_gleelaw2_MembersCome
  obtain ⟨n, h1, hn1, hn2⟩ := Range_spec L (p := 0) (a := 0) (b := 18) (by omega) (by omega) (by omega) (by omega) (by omega)
  rw [h1, Option.bind_some]
  obtain ⟨x, q, h2, hq1, hq2, hlen, -⟩ := Acts_spec L (p := 0 + 1) (n := n) (by omega) (by omega) hn1 (by omega)
  simp only
  rw [h2, Option.bind_some]
  obtain ⟨who, h3, -⟩ := Some_spec L (p := q) [(ByteArray.mk [97, 110, 110].toArray), (ByteArray.mk [98, 111, 98].toArray), (ByteArray.mk [122, 101, 100].toArray), (ByteArray.mk [65].toArray)] hq1 (by omega) (by simp) (by simp)
  simp only
  rw [h3, Option.bind_some]
  obtain ⟨a, h4, -⟩ := Pick_spec L (p := q + 1) [0, 5, 20, 40, 2592000000, 2592000010, 7776000000, 7776000020, (-1)] (by omega) (by omega) (by simp) (by simp)
  unfold m_gleemake_Stream_ActTime
  simp only
  rw [h4, Option.bind_some, Option.bind_some]
  simp only
  rw [Refused_spec, Members_spec, Since_spec, actsFault_spec, nameFault_spec]
  simp only [Option.bind_some]
  rw [errs_name, Option.bind_some, clubbed_true]
  by_cases hk : askF x a = 0
  · obtain ⟨hok, hat⟩ := askF_zero hk
    obtain ⟨-, hb⟩ := booksAt_spec x a hok.len
    have hrow : ∀ k, (rowOf (booksOf x a).st k).length ≤ 1000000 := hb.rows (by omega)
    have hr : m_gleeref2_RefusedActs x a = some (booksOf x a).rf := by
      unfold m_gleeref2_RefusedActs; rw [hallAt_spec x a hok]; rfl
    have hm : m_gleeref2_MembersAt x a = some (membersOf (booksOf x a).st) := by
      unfold m_gleeref2_MembersAt
      rw [hallAt_spec x a hok, Option.bind_some]
      simp only
      rw [members_ref _ _ _ _ hrow (Nat.le_trans hb.len (by omega))]; rfl
    have hs : m_gleeref2_SinceOf x who a = some (sinceOf (booksOf x a).st who) := by
      unfold m_gleeref2_SinceOf
      rw [hallAt_spec x a hok, Option.bind_some]
      simp only
      rw [member_ref _ _ _ _ _ (hrow who), Option.bind_some, row_conv]
      unfold sinceOf
      cases hmk : memK (booksOf x a).st who
      · unfold memK at hmk
        rw [Bool.not_false, ifB_true]
        cases hl : (rowOf (booksOf x a).st who).getLast? with
        | none => rfl
        | some s =>
          rw [hl] at hmk
          simp only at hmk
          simp only [if_neg (of_decide_eq_false hmk)]
      · obtain ⟨s, e1, e2, -, e4⟩ := memK_row hmk
        obtain ⟨s', f1, f2, -⟩ := last_conv e4 (hrow who)
        rw [e1] at f1; cases f1
        rw [Bool.not_true, ifB_false, f2, Option.bind_some, e1]
        simp only [if_pos e2]; rfl
    simp only [if_pos hk]
    rw [show (askF x a == 0) = true by simpa using hk, ifB_true, hr, Option.bind_some, hm, Option.bind_some, Option.bind_some, fin_inl, hs]
    by_cases hw : nameF x who a = 0
    · simp only [if_pos hw]
      rw [show (nameF x who a == 0) = true by simpa using hw, ifB_true, Option.bind_some, Option.bind_some, fin_inl]
      simp only
      rw [EqualI_refl, EqualS_refl, hk, hw]
      simp
    · simp only [if_neg hw]
      rw [show (nameF x who a == 0) = false by simpa using hw, ifB_false, Option.bind_some, fin_inl]
      simp only
      rw [EqualI_refl, EqualS_refl, hk]
      simp
  · have hw : nameF x who a = askF x a := by unfold nameF; rw [show (askF x a != 0) = true by simpa using hk]; rfl
    simp only [if_neg hk]
    rw [hw, if_neg hk]
    rw [show (askF x a == 0) = false by simpa using hk, ifB_false, ifB_false, Option.bind_some, fin_inl, Option.bind_some, fin_inl]
    simp only
    rw [EqualI_refl, EqualS_refl]
    simp
end Go.G
